/- What the program's functions compute, walked by the machine (part 2). No conditions but those stated. -/
import Derived.Test.YtpeleommbipeaaaGreatDoorFnFnTimesSolvedOfAll1
import Derived.Test.YtpeleommbipeaaaGreatDoorShelf
import Derived.Lib.IndexBytes
namespace Go.Proofs.YtpeleommbipeaaaGreatDoor.M
open Go Go.PM Go.Proofs.YtpeleommbipeaaaGreatDoor.P
set_option linter.unusedVariables false
set_option maxRecDepth 100000
/-! ### zq59 -/
abbrev zq59.R : Type := Int × List Int × Int × Int
abbrev zq59.sig : Sig := ⟨[(false, 1), (false, 1)], [(80, 3)], [.ptr 0 0, .sl false 3, .sl false 5, .int .i64, .int .u64], [(false, 1)], [(80, 3)], [.int .i64, .sl false 5, .int .i64, .int .u64]⟩
noncomputable def zq59.C : Cfg D0 := ⟨Go.Proofs.Tryz.prog, T0, 19, 0, 12, 1, [], 224, false, []⟩
noncomputable def zq59.E (N : Nat) : List (Ent Go.Proofs.Tryz.prog T0) := [zq63.ent N]
noncomputable def zq59.O (N : Nat) : Orc D0 zq59.R := orcOf (zq59.E N)
noncomputable def zq59.K0 : Ex → St D0 → Option zq59.R := exitK zq59.C Go.Proofs.Tryz.f104.results.toList [(false, [.any])] (decOut zq59.sig)
noncomputable def zq59.c1 : Code := codeAt (Go.Proofs.Tryz.f104.body.getD .skip) []
noncomputable def zq59.o0 (N : Nat) (a1 : List Int) (b0_0 : List Int) (b0_1 : Int) (b0_2 : Int) : Option zq59.R :=
 (zq63.g N (a1.length : Int) b0_0 b0_1 b0_2).bind fun r1 =>
 bif (decide (0 ≤ r1.1)) then
  bif (decide (r1.1 < (a1.length : Int))) then
   (a1[(r1.1 : Int).toNat]?).bind fun x2 =>
   some (x2, r1.2.1, r1.2.2.1, r1.2.2.2)
  else
  none
 else
 none
theorem zq59.o0.run (N : Nat) (a1 : List Int) (b0_0 : List Int) (b0_1 : Int) (b0_2 : Int) : runC zq59.C (zq59.O N) N zq59.c1 1 (st0 [.one (.ptr 0 0), .one (.sl false 3 a1)] [(80, [.sl false 5 b0_0, .int .i64 b0_1, .int .u64 b0_2])] : St D0) zq59.K0 = zq59.o0 N a1 b0_0 b0_1 b0_2 := by kernel_rfl
noncomputable def zq59.g (N : Nat) (a1 : List Int) (b0_0 : List Int) (b0_1 : Int) (b0_2 : Int) : Option zq59.R := zq59.o0 N a1 b0_0 b0_1 b0_2
theorem zq59.g.run (N : Nat) (a1 : List Int) (b0_0 : List Int) (b0_1 : Int) (b0_2 : Int) : runC zq59.C (zq59.O N) N zq59.c1 1 (st0 [.one (.ptr 0 0), .one (.sl false 3 a1)] [(80, [.sl false 5 b0_0, .int .i64 b0_1, .int .u64 b0_2])] : St D0) zq59.K0 = zq59.g N a1 b0_0 b0_1 b0_2 := by
  exact (zq59.o0.run N a1 b0_0 b0_1 b0_2).trans rfl
theorem zq59.good (N : Nat) (a1 : List Int) (b0_0 : List Int) (b0_1 : Int) (b0_2 : Int) (r : zq59.R) (h : zq59.g N a1 b0_0 b0_1 b0_2 = some r) : Go.PM.Good Go.Proofs.Tryz.prog T0 104 [.one (.ptr 0 0), .one (.sl false 3 a1)] [(80, [.sl false 5 b0_0, .int .i64 b0_1, .int .u64 b0_2])] (zq59.sig.ret r) (zq59.sig.bs r) :=
  good_fn tabOk0 mixed0 zq59.sig (zq59.E N) Go.Proofs.Tryz.func104 (by kernel_rfl) (by kernel_rfl) 19 0 1 [] 224 false [] [(false, [.any])] (by kernel_rfl) rfl rfl ((zq59.g.run N a1 b0_0 b0_1 b0_2).trans h)
noncomputable def zq59.ent (N : Nat) : Ent Go.Proofs.Tryz.prog T0 := mkEnt 104 [(false, [.any]), (false, [.ro 3])] zq59.sig (fun t => zq59.g N t.2.1 t.2.2.1 t.2.2.2.1 t.2.2.2.2) (fun t r h => zq59.good N t.2.1 t.2.2.1 t.2.2.2.1 t.2.2.2.2 r h)
end Go.Proofs.YtpeleommbipeaaaGreatDoor.M

namespace Go.Proofs.YtpeleommbipeaaaGreatDoor.M
open Go Go.PM Go.Proofs.YtpeleommbipeaaaGreatDoor.P
set_option linter.unusedVariables false
set_option maxRecDepth 100000
/-! ### zq62 -/
abbrev zq62.R : Type := Bool × List Int × Int × Int
abbrev zq62.sig : Sig := ⟨[(false, 1), (false, 1)], [(80, 3)], [.ptr 0 0, .int .i64, .sl false 5, .int .i64, .int .u64], [(false, 1)], [(80, 3)], [.bool, .sl false 5, .int .i64, .int .u64]⟩
noncomputable def zq62.C : Cfg D0 := ⟨Go.Proofs.Tryz.prog, T0, 19, 0, 9, 1, [], 96, false, []⟩
noncomputable def zq62.E (N : Nat) : List (Ent Go.Proofs.Tryz.prog T0) := [zq63.ent N]
noncomputable def zq62.O (N : Nat) : Orc D0 zq62.R := orcOf (zq62.E N)
noncomputable def zq62.K0 : Ex → St D0 → Option zq62.R := exitK zq62.C Go.Proofs.Tryz.f64.results.toList [(false, [.any])] (decOut zq62.sig)
noncomputable def zq62.c1 : Code := codeAt (Go.Proofs.Tryz.f64.body.getD .skip) []
noncomputable def zq62.o0 (N : Nat) (a1 : Int) (b0_0 : List Int) (b0_1 : Int) (b0_2 : Int) : Option zq62.R :=
 (zq63.g N a1 b0_0 b0_1 b0_2).bind fun r1 =>
 some ((r1.1 == 0), r1.2.1, r1.2.2.1, r1.2.2.2)
theorem zq62.o0.run (N : Nat) (a1 : Int) (b0_0 : List Int) (b0_1 : Int) (b0_2 : Int) : runC zq62.C (zq62.O N) N zq62.c1 1 (st0 [.one (.ptr 0 0), .one (.int .i64 a1)] [(80, [.sl false 5 b0_0, .int .i64 b0_1, .int .u64 b0_2])] : St D0) zq62.K0 = zq62.o0 N a1 b0_0 b0_1 b0_2 := by kernel_rfl
noncomputable def zq62.g (N : Nat) (a1 : Int) (b0_0 : List Int) (b0_1 : Int) (b0_2 : Int) : Option zq62.R := zq62.o0 N a1 b0_0 b0_1 b0_2
theorem zq62.g.run (N : Nat) (a1 : Int) (b0_0 : List Int) (b0_1 : Int) (b0_2 : Int) : runC zq62.C (zq62.O N) N zq62.c1 1 (st0 [.one (.ptr 0 0), .one (.int .i64 a1)] [(80, [.sl false 5 b0_0, .int .i64 b0_1, .int .u64 b0_2])] : St D0) zq62.K0 = zq62.g N a1 b0_0 b0_1 b0_2 := by
  exact (zq62.o0.run N a1 b0_0 b0_1 b0_2).trans rfl
theorem zq62.good (N : Nat) (a1 : Int) (b0_0 : List Int) (b0_1 : Int) (b0_2 : Int) (r : zq62.R) (h : zq62.g N a1 b0_0 b0_1 b0_2 = some r) : Go.PM.Good Go.Proofs.Tryz.prog T0 64 [.one (.ptr 0 0), .one (.int .i64 a1)] [(80, [.sl false 5 b0_0, .int .i64 b0_1, .int .u64 b0_2])] (zq62.sig.ret r) (zq62.sig.bs r) :=
  good_fn tabOk0 mixed0 zq62.sig (zq62.E N) Go.Proofs.Tryz.func64 (by kernel_rfl) (by kernel_rfl) 19 0 1 [] 96 false [] [(false, [.any])] (by kernel_rfl) rfl rfl ((zq62.g.run N a1 b0_0 b0_1 b0_2).trans h)
noncomputable def zq62.ent (N : Nat) : Ent Go.Proofs.Tryz.prog T0 := mkEnt 64 [(false, [.any]), (false, [.any])] zq62.sig (fun t => zq62.g N t.2.1 t.2.2.1 t.2.2.2.1 t.2.2.2.2) (fun t r h => zq62.good N t.2.1 t.2.2.1 t.2.2.2.1 t.2.2.2.2 r h)
end Go.Proofs.YtpeleommbipeaaaGreatDoor.M

namespace Go.Proofs.YtpeleommbipeaaaGreatDoor.M
open Go Go.PM Go.Proofs.YtpeleommbipeaaaGreatDoor.P
set_option linter.unusedVariables false
set_option maxRecDepth 100000
/-! ### zq65 -/
abbrev zq65.R : Type := Int × List S41 × List Int × Int × Int
abbrev zq65.sig : Sig := ⟨[(false, 1), (false, 1)], [(80, 3)], [.ptr 0 0, .int .i64, .sl false 5, .int .i64, .int .u64], [(true, 2)], [(80, 3)], [.int .i64, .sl true 41, .sl false 5, .int .i64, .int .u64]⟩
noncomputable def zq65.C : Cfg D0 := ⟨Go.Proofs.Tryz.prog, T0, 8389107, 549890031616, 40, 1, [(250, [0, 4, 5, 6, 7, 8], [0, 4, 7])], 20154429952, false, []⟩
noncomputable def zq65.E (N : Nat) : List (Ent Go.Proofs.Tryz.prog T0) := [zq63.ent N, zq78.ent N]
noncomputable def zq65.O (N : Nat) : Orc D0 zq65.R := orcOf (zq65.E N)
noncomputable def zq65.K0 : Ex → St D0 → Option zq65.R := exitK zq65.C Go.Proofs.Tryz.f63.results.toList [(true, [.any, .own 41])] (decOut zq65.sig)
noncomputable def zq65.c1 : Code := codeAt (Go.Proofs.Tryz.f63.body.getD .skip) []
noncomputable def zq65.c2 : Code := codeAt (Go.Proofs.Tryz.f63.body.getD .skip) [false]
noncomputable def zq65.c6 : Code := codeAt (Go.Proofs.Tryz.f63.body.getD .skip) [true, false]
noncomputable def zq65.c14 : Code := codeAt (Go.Proofs.Tryz.f63.body.getD .skip) [true, true, false]
noncomputable def zq65.c30 : Code := codeAt (Go.Proofs.Tryz.f63.body.getD .skip) [true, true, true, false]
noncomputable def zq65.c63 : Code := codeAt (Go.Proofs.Tryz.f63.body.getD .skip) [true, true, true, true, true]
noncomputable def zq65.c124 : Code := codeAt (Go.Proofs.Tryz.f63.body.getD .skip) [true, true, true, true, false, false]
noncomputable def zq65.c500 : Code := codeAt (Go.Proofs.Tryz.f63.body.getD .skip) [true, true, true, true, false, true, false, false]
noncomputable def zq65.K500 (N : Nat) (Kn250 : St D0 → Option zq65.R) : Ex → St D0 → Option zq65.R := ((fun up => (onN (fun s => zq65.C.tidy 250 s ((onN Kn250 up) .normal)) (onN Kn250 up))) (blockK 0 (onN (fun s => zq65.C.tidy 62 s (fun s' => runC zq65.C (zq65.O N) N zq65.c63 63 s' zq65.K0)) zq65.K0)))
noncomputable def zq65.o1 (N : Nat) (v0 : Int) (v1 : Int) (v2 : Int) (v3 : List Int) (v4 : Int) (v5 : Int) (v6 : Int) (v7 : Int) (c2 : Int → Int → Int → (List Int) → Int → Int → Int → Int → (List S41) → Option zq65.R) : Option zq65.R :=
 bif (decide (v2 > 0)) then
  (zq63.g N 6 v3 v4 v5).bind fun r1 =>
  (zq63.g N 59 r1.2.1 r1.2.2.1 r1.2.2.2).bind fun r2 =>
  (zq78.g N v0 r1.1 (w64 (2 + r2.1)) v1).bind fun r3 =>
  bif (Nat.blt (([] : List S41).length + ([(⟨r3.1, r3.2.1, r3.2.2⟩ : S41)] : List S41).length) 5864062014805) then
   c2 v0 v1 (w64 (v2 - 1)) r2.2.1 r2.2.2.1 r2.2.2.2 v6 v7 (([] : List S41) ++ ([(⟨r3.1, r3.2.1, r3.2.2⟩ : S41)] : List S41))
  else
  none
 else
 some (v7, ([] : List S41), v3, v4, v5)
theorem zq65.o1.run (N : Nat) (Kn250 : St D0 → Option zq65.R) (v0 : Int) (v1 : Int) (v2 : Int) (v3 : List Int) (v4 : Int) (v5 : Int) (v6 : Int) (v7 : Int) : runC zq65.C (zq65.O N) N zq65.c500 500 (mkSt [(0, .one (.ptr 0 0)), (4, .one (.ptr 4 0)), (5, .one (.int .i64 v0)), (6, .one (.int .i64 v1)), (7, .one (.ptr 7 0)), (8, .one (.int .i64 v2))] [(0, some (80, [.sl false 5 v3, .int .i64 v4, .int .u64 v5])), (4, some (24, [.int .i64 v6, .nl])), (7, some (24, [.int .i64 v7, .nl]))] : St D0) ((fun up => (onN (fun s => zq65.C.tidy 250 s ((onN Kn250 up) .normal)) (onN Kn250 up))) (blockK 0 (onN (fun s => zq65.C.tidy 62 s (fun s' => runC zq65.C (zq65.O N) N zq65.c63 63 s' zq65.K0)) zq65.K0))) = zq65.o1 N v0 v1 v2 v3 v4 v5 v6 v7 ((fun w0 w1 w2 w3 w4 w5 w6 w7 w8 => Kn250 (mkSt [(0, .one (.ptr 0 0)), (4, .one (.ptr 4 0)), (5, .one (.int .i64 w0)), (6, .one (.int .i64 w1)), (7, .one (.ptr 7 0)), (8, .one (.int .i64 w2))] [(0, some (80, [.sl false 5 w3, .int .i64 w4, .int .u64 w5])), (4, some (24, [.int .i64 w6, .nl])), (7, some (24, [.int .i64 w7, .sl true 41 w8]))] : St D0))) := by kernel_rfl
noncomputable def zq65.d1 (N : Nat) (v0 : Int) (v1 : Int) (v2 : Int) (v3 : List Int) (v4 : Int) (v5 : Int) (v6 : Int) (v7 : Int) (c2 : Int → Int → Int → (List Int) → Int → Int → Int → Int → (List S41) → Option zq65.R) : Option zq65.R := zq65.o1 N v0 v1 v2 v3 v4 v5 v6 v7 c2
theorem zq65.d1.run (N : Nat) (Kn250 : St D0 → Option zq65.R) (v0 : Int) (v1 : Int) (v2 : Int) (v3 : List Int) (v4 : Int) (v5 : Int) (v6 : Int) (v7 : Int) : runC zq65.C (zq65.O N) N zq65.c500 500 (mkSt [(0, .one (.ptr 0 0)), (4, .one (.ptr 4 0)), (5, .one (.int .i64 v0)), (6, .one (.int .i64 v1)), (7, .one (.ptr 7 0)), (8, .one (.int .i64 v2))] [(0, some (80, [.sl false 5 v3, .int .i64 v4, .int .u64 v5])), (4, some (24, [.int .i64 v6, .nl])), (7, some (24, [.int .i64 v7, .nl]))] : St D0) (zq65.K500 N Kn250) = zq65.d1 N v0 v1 v2 v3 v4 v5 v6 v7 ((fun w0 w1 w2 w3 w4 w5 w6 w7 w8 => Kn250 (mkSt [(0, .one (.ptr 0 0)), (4, .one (.ptr 4 0)), (5, .one (.int .i64 w0)), (6, .one (.int .i64 w1)), (7, .one (.ptr 7 0)), (8, .one (.int .i64 w2))] [(0, some (80, [.sl false 5 w3, .int .i64 w4, .int .u64 w5])), (4, some (24, [.int .i64 w6, .nl])), (7, some (24, [.int .i64 w7, .sl true 41 w8]))] : St D0))) := by
  exact (zq65.o1.run N Kn250 v0 v1 v2 v3 v4 v5 v6 v7).trans rfl
noncomputable def zq65.o2 (N : Nat) (v0 : Int) (v1 : Int) (v2 : Int) (v3 : List Int) (v4 : Int) (v5 : Int) (v6 : Int) (v7 : Int) (v8 : List S41) (c2 : Int → Int → Int → (List Int) → Int → Int → Int → Int → (List S41) → Option zq65.R) : Option zq65.R :=
 bif (decide (v2 > 0)) then
  (zq63.g N 6 v3 v4 v5).bind fun r1 =>
  (zq63.g N 59 r1.2.1 r1.2.2.1 r1.2.2.2).bind fun r2 =>
  (zq78.g N v0 r1.1 (w64 (2 + r2.1)) v1).bind fun r3 =>
  bif (Nat.blt (v8.length + ([(⟨r3.1, r3.2.1, r3.2.2⟩ : S41)] : List S41).length) 5864062014805) then
   c2 v0 v1 (w64 (v2 - 1)) r2.2.1 r2.2.2.1 r2.2.2.2 v6 v7 (v8 ++ ([(⟨r3.1, r3.2.1, r3.2.2⟩ : S41)] : List S41))
  else
  none
 else
 some (v7, v8, v3, v4, v5)
theorem zq65.o2.run (N : Nat) (Kn250 : St D0 → Option zq65.R) (v0 : Int) (v1 : Int) (v2 : Int) (v3 : List Int) (v4 : Int) (v5 : Int) (v6 : Int) (v7 : Int) (v8 : List S41) : runC zq65.C (zq65.O N) N zq65.c500 500 (mkSt [(0, .one (.ptr 0 0)), (4, .one (.ptr 4 0)), (5, .one (.int .i64 v0)), (6, .one (.int .i64 v1)), (7, .one (.ptr 7 0)), (8, .one (.int .i64 v2))] [(0, some (80, [.sl false 5 v3, .int .i64 v4, .int .u64 v5])), (4, some (24, [.int .i64 v6, .nl])), (7, some (24, [.int .i64 v7, .sl true 41 v8]))] : St D0) ((fun up => (onN (fun s => zq65.C.tidy 250 s ((onN Kn250 up) .normal)) (onN Kn250 up))) (blockK 0 (onN (fun s => zq65.C.tidy 62 s (fun s' => runC zq65.C (zq65.O N) N zq65.c63 63 s' zq65.K0)) zq65.K0))) = zq65.o2 N v0 v1 v2 v3 v4 v5 v6 v7 v8 ((fun w0 w1 w2 w3 w4 w5 w6 w7 w8 => Kn250 (mkSt [(0, .one (.ptr 0 0)), (4, .one (.ptr 4 0)), (5, .one (.int .i64 w0)), (6, .one (.int .i64 w1)), (7, .one (.ptr 7 0)), (8, .one (.int .i64 w2))] [(0, some (80, [.sl false 5 w3, .int .i64 w4, .int .u64 w5])), (4, some (24, [.int .i64 w6, .nl])), (7, some (24, [.int .i64 w7, .sl true 41 w8]))] : St D0))) := by kernel_rfl
noncomputable def zq65.d2 (N : Nat) (v0 : Int) (v1 : Int) (v2 : Int) (v3 : List Int) (v4 : Int) (v5 : Int) (v6 : Int) (v7 : Int) (v8 : List S41) (c2 : Int → Int → Int → (List Int) → Int → Int → Int → Int → (List S41) → Option zq65.R) : Option zq65.R := zq65.o2 N v0 v1 v2 v3 v4 v5 v6 v7 v8 c2
theorem zq65.d2.run (N : Nat) (Kn250 : St D0 → Option zq65.R) (v0 : Int) (v1 : Int) (v2 : Int) (v3 : List Int) (v4 : Int) (v5 : Int) (v6 : Int) (v7 : Int) (v8 : List S41) : runC zq65.C (zq65.O N) N zq65.c500 500 (mkSt [(0, .one (.ptr 0 0)), (4, .one (.ptr 4 0)), (5, .one (.int .i64 v0)), (6, .one (.int .i64 v1)), (7, .one (.ptr 7 0)), (8, .one (.int .i64 v2))] [(0, some (80, [.sl false 5 v3, .int .i64 v4, .int .u64 v5])), (4, some (24, [.int .i64 v6, .nl])), (7, some (24, [.int .i64 v7, .sl true 41 v8]))] : St D0) (zq65.K500 N Kn250) = zq65.d2 N v0 v1 v2 v3 v4 v5 v6 v7 v8 ((fun w0 w1 w2 w3 w4 w5 w6 w7 w8 => Kn250 (mkSt [(0, .one (.ptr 0 0)), (4, .one (.ptr 4 0)), (5, .one (.int .i64 w0)), (6, .one (.int .i64 w1)), (7, .one (.ptr 7 0)), (8, .one (.int .i64 w2))] [(0, some (80, [.sl false 5 w3, .int .i64 w4, .int .u64 w5])), (4, some (24, [.int .i64 w6, .nl])), (7, some (24, [.int .i64 w7, .sl true 41 w8]))] : St D0))) := by
  exact (zq65.o2.run N Kn250 v0 v1 v2 v3 v4 v5 v6 v7 v8).trans rfl
noncomputable def zq65.K250 (N : Nat) : Ex → St D0 → Option zq65.R := (blockK 0 (onN (fun s => zq65.C.tidy 62 s (fun s' => runC zq65.C (zq65.O N) N zq65.c63 63 s' zq65.K0)) zq65.K0))
mutual
noncomputable def zq65.l1 (N : Nat) : Nat → Int → Int → Int → (List Int) → Int → Int → Int → Int → Option zq65.R
  | 0, _, _, _, _, _, _, _, _ => none
  | n + 1, v0, v1, v2, v3, v4, v5, v6, v7 => zq65.d1 N v0 v1 v2 v3 v4 v5 v6 v7 ((fun w0 w1 w2 w3 w4 w5 w6 w7 w8 => zq65.l2 N n w0 w1 w2 w3 w4 w5 w6 w7 w8))
noncomputable def zq65.l2 (N : Nat) : Nat → Int → Int → Int → (List Int) → Int → Int → Int → Int → (List S41) → Option zq65.R
  | 0, _, _, _, _, _, _, _, _, _ => none
  | n + 1, v0, v1, v2, v3, v4, v5, v6, v7, v8 => zq65.d2 N v0 v1 v2 v3 v4 v5 v6 v7 v8 ((fun w0 w1 w2 w3 w4 w5 w6 w7 w8 => zq65.l2 N n w0 w1 w2 w3 w4 w5 w6 w7 w8))
end
theorem zq65.loop250 (N : Nat) : ∀ n, (∀ (v0 : Int) (v1 : Int) (v2 : Int) (v3 : List Int) (v4 : Int) (v5 : Int) (v6 : Int) (v7 : Int), iter (loopF zq65.C (zq65.O N) N zq65.c500 250) n (mkSt [(0, .one (.ptr 0 0)), (4, .one (.ptr 4 0)), (5, .one (.int .i64 v0)), (6, .one (.int .i64 v1)), (7, .one (.ptr 7 0)), (8, .one (.int .i64 v2))] [(0, some (80, [.sl false 5 v3, .int .i64 v4, .int .u64 v5])), (4, some (24, [.int .i64 v6, .nl])), (7, some (24, [.int .i64 v7, .nl]))] : St D0) (zq65.K250 N) = zq65.l1 N n v0 v1 v2 v3 v4 v5 v6 v7) ∧ (∀ (v0 : Int) (v1 : Int) (v2 : Int) (v3 : List Int) (v4 : Int) (v5 : Int) (v6 : Int) (v7 : Int) (v8 : List S41), iter (loopF zq65.C (zq65.O N) N zq65.c500 250) n (mkSt [(0, .one (.ptr 0 0)), (4, .one (.ptr 4 0)), (5, .one (.int .i64 v0)), (6, .one (.int .i64 v1)), (7, .one (.ptr 7 0)), (8, .one (.int .i64 v2))] [(0, some (80, [.sl false 5 v3, .int .i64 v4, .int .u64 v5])), (4, some (24, [.int .i64 v6, .nl])), (7, some (24, [.int .i64 v7, .sl true 41 v8]))] : St D0) (zq65.K250 N) = zq65.l2 N n v0 v1 v2 v3 v4 v5 v6 v7 v8)
  | 0 => ⟨(fun v0 v1 v2 v3 v4 v5 v6 v7 => rfl), (fun v0 v1 v2 v3 v4 v5 v6 v7 v8 => rfl)⟩
  | n + 1 => ⟨(fun v0 v1 v2 v3 v4 v5 v6 v7 => (zq65.d1.run N (fun s => iter (loopF zq65.C (zq65.O N) N zq65.c500 250) n s (zq65.K250 N)) v0 v1 v2 v3 v4 v5 v6 v7).trans (show _ = zq65.d1 N v0 v1 v2 v3 v4 v5 v6 v7 ((fun w0 w1 w2 w3 w4 w5 w6 w7 w8 => zq65.l2 N n w0 w1 w2 w3 w4 w5 w6 w7 w8)) from (congr rfl (funext fun w0 => funext fun w1 => funext fun w2 => funext fun w3 => funext fun w4 => funext fun w5 => funext fun w6 => funext fun w7 => funext fun w8 => (zq65.loop250 N n).2 w0 w1 w2 w3 w4 w5 w6 w7 w8)))), (fun v0 v1 v2 v3 v4 v5 v6 v7 v8 => (zq65.d2.run N (fun s => iter (loopF zq65.C (zq65.O N) N zq65.c500 250) n s (zq65.K250 N)) v0 v1 v2 v3 v4 v5 v6 v7 v8).trans (show _ = zq65.d2 N v0 v1 v2 v3 v4 v5 v6 v7 v8 ((fun w0 w1 w2 w3 w4 w5 w6 w7 w8 => zq65.l2 N n w0 w1 w2 w3 w4 w5 w6 w7 w8)) from (congr rfl (funext fun w0 => funext fun w1 => funext fun w2 => funext fun w3 => funext fun w4 => funext fun w5 => funext fun w6 => funext fun w7 => funext fun w8 => (zq65.loop250 N n).2 w0 w1 w2 w3 w4 w5 w6 w7 w8))))⟩
noncomputable def zq65.o0 (N : Nat) (a1 : Int) (b0_0 : List Int) (b0_1 : Int) (b0_2 : Int) (c1 : Int → Int → Int → (List Int) → Int → Int → Int → Int → Option zq65.R) : Option zq65.R :=
 (zq63.g N 11 b0_0 b0_1 b0_2).bind fun r1 =>
 (zq63.g N (w64 (60 * (w64 (2 + r1.1)))) r1.2.1 r1.2.2.1 r1.2.2.2).bind fun r2 =>
 (zq63.g N (w64 (a1 + 1)) r2.2.1 r2.2.2.1 r2.2.2.2).bind fun r3 =>
 c1 (w64 (2 + r1.1)) r2.1 r3.1 r3.2.1 r3.2.2.1 r3.2.2.2 0 (w64 (2 + r1.1))
theorem zq65.o0.run (N : Nat) (H500 : Code) (a1 : Int) (b0_0 : List Int) (b0_1 : Int) (b0_2 : Int) : runC zq65.C (zq65.O N) N (.seq zq65.c2 (.seq zq65.c6 (.seq zq65.c14 (.seq zq65.c30 (.seq (.seq zq65.c124 (.block 0 (.loop H500))) zq65.c63))))) 1 (st0 [.one (.ptr 0 0), .one (.int .i64 a1)] [(80, [.sl false 5 b0_0, .int .i64 b0_1, .int .u64 b0_2])] : St D0) zq65.K0 = zq65.o0 N a1 b0_0 b0_1 b0_2 ((fun w0 w1 w2 w3 w4 w5 w6 w7 => iter (loopF zq65.C (zq65.O N) N H500 250) N (mkSt [(0, .one (.ptr 0 0)), (4, .one (.ptr 4 0)), (5, .one (.int .i64 w0)), (6, .one (.int .i64 w1)), (7, .one (.ptr 7 0)), (8, .one (.int .i64 w2))] [(0, some (80, [.sl false 5 w3, .int .i64 w4, .int .u64 w5])), (4, some (24, [.int .i64 w6, .nl])), (7, some (24, [.int .i64 w7, .nl]))] : St D0) (blockK 0 (onN (fun s => zq65.C.tidy 62 s (fun s' => runC zq65.C (zq65.O N) N zq65.c63 63 s' zq65.K0)) zq65.K0)))) := by kernel_rfl
noncomputable def zq65.g (N : Nat) (a1 : Int) (b0_0 : List Int) (b0_1 : Int) (b0_2 : Int) : Option zq65.R := zq65.o0 N a1 b0_0 b0_1 b0_2 ((fun w0 w1 w2 w3 w4 w5 w6 w7 => zq65.l1 N N w0 w1 w2 w3 w4 w5 w6 w7))
theorem zq65.c1_0 : zq65.c1 = (.seq zq65.c2 (.seq zq65.c6 (.seq zq65.c14 (.seq zq65.c30 (.seq (.seq zq65.c124 (.block 0 (.loop zq65.c500))) zq65.c63))))) := by kernel_rfl
theorem zq65.g.run (N : Nat) (a1 : Int) (b0_0 : List Int) (b0_1 : Int) (b0_2 : Int) : runC zq65.C (zq65.O N) N zq65.c1 1 (st0 [.one (.ptr 0 0), .one (.int .i64 a1)] [(80, [.sl false 5 b0_0, .int .i64 b0_1, .int .u64 b0_2])] : St D0) zq65.K0 = zq65.g N a1 b0_0 b0_1 b0_2 := by
  rw [zq65.c1_0]; unfold zq65.g; exact (zq65.o0.run N zq65.c500 a1 b0_0 b0_1 b0_2).trans (congr rfl (funext fun w0 => funext fun w1 => funext fun w2 => funext fun w3 => funext fun w4 => funext fun w5 => funext fun w6 => funext fun w7 => (zq65.loop250 N N).1 w0 w1 w2 w3 w4 w5 w6 w7))
theorem zq65.good (N : Nat) (a1 : Int) (b0_0 : List Int) (b0_1 : Int) (b0_2 : Int) (r : zq65.R) (h : zq65.g N a1 b0_0 b0_1 b0_2 = some r) : Go.PM.Good Go.Proofs.Tryz.prog T0 63 [.one (.ptr 0 0), .one (.int .i64 a1)] [(80, [.sl false 5 b0_0, .int .i64 b0_1, .int .u64 b0_2])] (zq65.sig.ret r) (zq65.sig.bs r) :=
  good_fn tabOk0 mixed0 zq65.sig (zq65.E N) Go.Proofs.Tryz.func63 (by kernel_rfl) (by kernel_rfl) 8389107 549890031616 1 [(250, [0, 4, 5, 6, 7, 8], [0, 4, 7])] 20154429952 false [] [(true, [.any, .own 41])] (by kernel_rfl) rfl rfl ((zq65.g.run N a1 b0_0 b0_1 b0_2).trans h)
noncomputable def zq65.ent (N : Nat) : Ent Go.Proofs.Tryz.prog T0 := mkEnt 63 [(false, [.any]), (false, [.any])] zq65.sig (fun t => zq65.g N t.2.1 t.2.2.1 t.2.2.2.1 t.2.2.2.2) (fun t r h => zq65.good N t.2.1 t.2.2.1 t.2.2.2.1 t.2.2.2.2 r h)
end Go.Proofs.YtpeleommbipeaaaGreatDoor.M

namespace Go.Proofs.YtpeleommbipeaaaGreatDoor.M
open Go Go.PM Go.Proofs.YtpeleommbipeaaaGreatDoor.P
set_option linter.unusedVariables false
set_option maxRecDepth 100000
/-! ### zq60 -/
abbrev zq60.R : Type := Int × Int × Int × List Int × Int × Int
abbrev zq60.sig : Sig := ⟨[(false, 1), (false, 1)], [(80, 3)], [.ptr 0 0, .int .i64, .sl false 5, .int .i64, .int .u64], [(true, 3)], [(80, 3)], [.int .i64, .int .i64, .int .i64, .sl false 5, .int .i64, .int .u64]⟩
noncomputable def zq60.C : Cfg D0 := ⟨Go.Proofs.Tryz.prog, T0, 524371, 0, 32, 1, [], 425862304, false, []⟩
noncomputable def zq60.E (N : Nat) : List (Ent Go.Proofs.Tryz.prog T0) := [zq62.ent N, zq63.ent N, zq59.ent N, zq55.ent N, zq78.ent N]
noncomputable def zq60.O (N : Nat) : Orc D0 zq60.R := orcOf (zq60.E N)
noncomputable def zq60.K0 : Ex → St D0 → Option zq60.R := exitK zq60.C Go.Proofs.Tryz.f105.results.toList [(true, [.any, .any, .any])] (decOut zq60.sig)
noncomputable def zq60.c1 : Code := codeAt (Go.Proofs.Tryz.f105.body.getD .skip) []
noncomputable def zq60.o0 (N : Nat) (a1 : Int) (b0_0 : List Int) (b0_1 : Int) (b0_2 : Int) : Option zq60.R :=
 (zq62.g N 5 b0_0 b0_1 b0_2).bind fun r1 =>
 bif r1.1 then
  (zq63.g N 8 r1.2.1 r1.2.2.1 r1.2.2.2).bind fun r2 =>
  (zq59.g N ([(-1), 0, 1, 2, 30, 31, 59, 60, 61] : List Int) r2.2.1 r2.2.2.1 r2.2.2.2).bind fun r3 =>
  (zq59.g N ([(-1), 0, 0, 1] : List Int) r3.2.1 r3.2.2.1 r3.2.2.2).bind fun r4 =>
  some ((w64 (r2.1 - 1)), r3.1, r4.1, r4.2.1, r4.2.2.1, r4.2.2.2)
 else
 (zq55.g N a1).bind fun r5 =>
 bif (!r5) then
  some (0, 0, 0, r1.2.1, r1.2.2.1, r1.2.2.2)
 else
 (zq63.g N 6 r1.2.1 r1.2.2.1 r1.2.2.2).bind fun r6 =>
 (zq63.g N 59 r6.2.1 r6.2.2.1 r6.2.2.2).bind fun r7 =>
 (zq63.g N (w64 (60 * a1)) r7.2.1 r7.2.2.1 r7.2.2.2).bind fun r8 =>
 (zq78.g N a1 r6.1 (w64 (2 + r7.1)) r8.1).bind fun r9 =>
 some (r9.1, r9.2.1, r9.2.2, r8.2.1, r8.2.2.1, r8.2.2.2)
theorem zq60.o0.run (N : Nat) (a1 : Int) (b0_0 : List Int) (b0_1 : Int) (b0_2 : Int) : runC zq60.C (zq60.O N) N zq60.c1 1 (st0 [.one (.ptr 0 0), .one (.int .i64 a1)] [(80, [.sl false 5 b0_0, .int .i64 b0_1, .int .u64 b0_2])] : St D0) zq60.K0 = zq60.o0 N a1 b0_0 b0_1 b0_2 := by kernel_rfl
noncomputable def zq60.g (N : Nat) (a1 : Int) (b0_0 : List Int) (b0_1 : Int) (b0_2 : Int) : Option zq60.R := zq60.o0 N a1 b0_0 b0_1 b0_2
theorem zq60.g.run (N : Nat) (a1 : Int) (b0_0 : List Int) (b0_1 : Int) (b0_2 : Int) : runC zq60.C (zq60.O N) N zq60.c1 1 (st0 [.one (.ptr 0 0), .one (.int .i64 a1)] [(80, [.sl false 5 b0_0, .int .i64 b0_1, .int .u64 b0_2])] : St D0) zq60.K0 = zq60.g N a1 b0_0 b0_1 b0_2 := by
  exact (zq60.o0.run N a1 b0_0 b0_1 b0_2).trans rfl
theorem zq60.good (N : Nat) (a1 : Int) (b0_0 : List Int) (b0_1 : Int) (b0_2 : Int) (r : zq60.R) (h : zq60.g N a1 b0_0 b0_1 b0_2 = some r) : Go.PM.Good Go.Proofs.Tryz.prog T0 105 [.one (.ptr 0 0), .one (.int .i64 a1)] [(80, [.sl false 5 b0_0, .int .i64 b0_1, .int .u64 b0_2])] (zq60.sig.ret r) (zq60.sig.bs r) :=
  good_fn tabOk0 mixed0 zq60.sig (zq60.E N) Go.Proofs.Tryz.func105 (by kernel_rfl) (by kernel_rfl) 524371 0 1 [] 425862304 false [] [(true, [.any, .any, .any])] (by kernel_rfl) rfl rfl ((zq60.g.run N a1 b0_0 b0_1 b0_2).trans h)
noncomputable def zq60.ent (N : Nat) : Ent Go.Proofs.Tryz.prog T0 := mkEnt 105 [(false, [.any]), (false, [.any])] zq60.sig (fun t => zq60.g N t.2.1 t.2.2.1 t.2.2.2.1 t.2.2.2.2) (fun t r h => zq60.good N t.2.1 t.2.2.1 t.2.2.2.1 t.2.2.2.2 r h)
end Go.Proofs.YtpeleommbipeaaaGreatDoor.M

namespace Go.Proofs.YtpeleommbipeaaaGreatDoor.M
open Go Go.PM Go.Proofs.YtpeleommbipeaaaGreatDoor.P
set_option linter.unusedVariables false
set_option maxRecDepth 100000
/-! ### zq64 -/
abbrev zq64.R : Type := Int × List S41 × List Int × Int × Int
abbrev zq64.sig : Sig := ⟨[(false, 1)], [(80, 3)], [.ptr 0 0, .sl false 5, .int .i64, .int .u64], [(true, 2)], [(80, 3)], [.int .i64, .sl true 41, .sl false 5, .int .i64, .int .u64]⟩
noncomputable def zq64.C : Cfg D0 := ⟨Go.Proofs.Tryz.prog, T0, 8623505805, 1133871497216, 41, 1, [(14, [2, 3], [0, 2, 3]), (7548, [0, 2, 3], [0, 2, 3])], 1074005072, false, []⟩
noncomputable def zq64.E (N : Nat) : List (Ent Go.Proofs.Tryz.prog T0) := [zq65.ent N, zq63.ent N, zq59.ent N, zq60.ent N]
noncomputable def zq64.O (N : Nat) : Orc D0 zq64.R := orcOf (zq64.E N)
noncomputable def zq64.K0 : Ex → St D0 → Option zq64.R := exitK zq64.C Go.Proofs.Tryz.f86.results.toList [(true, [.any, .own 41])] (decOut zq64.sig)
noncomputable def zq64.c1 : Code := codeAt (Go.Proofs.Tryz.f86.body.getD .skip) []
noncomputable def zq64.c2 : Code := codeAt (Go.Proofs.Tryz.f86.body.getD .skip) [false]
noncomputable def zq64.c6 : Code := codeAt (Go.Proofs.Tryz.f86.body.getD .skip) [true, false]
noncomputable def zq64.c15 : Code := codeAt (Go.Proofs.Tryz.f86.body.getD .skip) [true, true, true]
noncomputable def zq64.c28 : Code := codeAt (Go.Proofs.Tryz.f86.body.getD .skip) [true, true, false, false]
noncomputable def zq64.c116 : Code := codeAt (Go.Proofs.Tryz.f86.body.getD .skip) [true, true, false, true, false, false]
noncomputable def zq64.c234 : Code := codeAt (Go.Proofs.Tryz.f86.body.getD .skip) [true, true, false, true, false, true, false]
noncomputable def zq64.c470 : Code := codeAt (Go.Proofs.Tryz.f86.body.getD .skip) [true, true, false, true, false, true, true, false]
noncomputable def zq64.c942 : Code := codeAt (Go.Proofs.Tryz.f86.body.getD .skip) [true, true, false, true, false, true, true, true, false]
noncomputable def zq64.c1886 : Code := codeAt (Go.Proofs.Tryz.f86.body.getD .skip) [true, true, false, true, false, true, true, true, true, false]
noncomputable def zq64.c3775 : Code := codeAt (Go.Proofs.Tryz.f86.body.getD .skip) [true, true, false, true, false, true, true, true, true, true, true]
noncomputable def zq64.c15096 : Code := codeAt (Go.Proofs.Tryz.f86.body.getD .skip) [true, true, false, true, false, true, true, true, true, true, false, false, false]
noncomputable def zq64.K15 (N : Nat) : Ex → St D0 → Option zq64.R := zq64.K0
noncomputable def zq64.o1 (N : Nat) (v0 : List Int) (v1 : Int) (v2 : Int) (v3 : Int) (v4 : Int) (v5 : List S41) : Option zq64.R :=
 some (v4, v5, v0, v1, v2)
theorem zq64.o1.run (N : Nat) (v0 : List Int) (v1 : Int) (v2 : Int) (v3 : Int) (v4 : Int) (v5 : List S41) : runC zq64.C (zq64.O N) N zq64.c15 15 (mkSt [(2, .one (.ptr 2 0)), (3, .one (.ptr 3 0))] [(0, some (80, [.sl false 5 v0, .int .i64 v1, .int .u64 v2])), (2, some (24, [.int .i64 v3, .nl])), (3, some (24, [.int .i64 v4, .sl true 41 v5]))] : St D0) zq64.K0 = zq64.o1 N v0 v1 v2 v3 v4 v5 := by kernel_rfl
noncomputable def zq64.d1 (N : Nat) (v0 : List Int) (v1 : Int) (v2 : Int) (v3 : Int) (v4 : Int) (v5 : List S41) : Option zq64.R := zq64.o1 N v0 v1 v2 v3 v4 v5
theorem zq64.d1.run (N : Nat) (v0 : List Int) (v1 : Int) (v2 : Int) (v3 : Int) (v4 : Int) (v5 : List S41) : runC zq64.C (zq64.O N) N zq64.c15 15 (mkSt [(2, .one (.ptr 2 0)), (3, .one (.ptr 3 0))] [(0, some (80, [.sl false 5 v0, .int .i64 v1, .int .u64 v2])), (2, some (24, [.int .i64 v3, .nl])), (3, some (24, [.int .i64 v4, .sl true 41 v5]))] : St D0) (zq64.K15 N) = zq64.d1 N v0 v1 v2 v3 v4 v5 := by
  exact (zq64.o1.run N v0 v1 v2 v3 v4 v5).trans rfl
noncomputable def zq64.B7 (N : Nat) : St D0 → Option zq64.R := fun s' => runC zq64.C (zq64.O N) N zq64.c15 15 s' (zq64.K15 N)
noncomputable def zq64.K15096 (N : Nat) (Kn7548 : St D0 → Option zq64.R) : Ex → St D0 → Option zq64.R := ((fun up => (onN (fun s => zq64.C.tidy 7548 s ((onN Kn7548 up) .normal)) (onN Kn7548 up))) (blockK 1 (blockK 0 (onN (fun s => zq64.C.tidy 14 s (zq64.B7 N)) zq64.K0))))
noncomputable def zq64.o2 (N : Nat) (v0 : List Int) (v1 : Int) (v2 : Int) (v3 : Int) (v4 : Int) (v5 : List S41) (c2 : (List Int) → Int → Int → Int → Int → (List S41) → Option zq64.R) (c1 : (List Int) → Int → Int → Int → Int → (List S41) → Option zq64.R) : Option zq64.R :=
 (zq63.g N 2 v0 v1 v2).bind fun r1 =>
 bif (decide ((v5.length : Int) < (w64 (6 + r1.1)))) then
  bif (Nat.blt (v5.length + ([(⟨3, 1, 0⟩ : S41)] : List S41).length) 5864062014805) then
   c2 r1.2.1 r1.2.2.1 r1.2.2.2 v3 v4 (v5 ++ ([(⟨3, 1, 0⟩ : S41)] : List S41))
  else
  none
 else
 c1 r1.2.1 r1.2.2.1 r1.2.2.2 v3 v4 v5
theorem zq64.o2.run (N : Nat) (Kb7 : St D0 → Option zq64.R) (Kn7548 : St D0 → Option zq64.R) (v0 : List Int) (v1 : Int) (v2 : Int) (v3 : Int) (v4 : Int) (v5 : List S41) : runC zq64.C (zq64.O N) N zq64.c15096 15096 (mkSt [(0, .one (.ptr 0 0)), (2, .one (.ptr 2 0)), (3, .one (.ptr 3 0))] [(0, some (80, [.sl false 5 v0, .int .i64 v1, .int .u64 v2])), (2, some (24, [.int .i64 v3, .nl])), (3, some (24, [.int .i64 v4, .sl true 41 v5]))] : St D0) ((fun up => (onN (fun s => zq64.C.tidy 7548 s ((onN Kn7548 up) .normal)) (onN Kn7548 up))) (blockK 1 (blockK 0 (onN (fun s => zq64.C.tidy 14 s Kb7) zq64.K0)))) = zq64.o2 N v0 v1 v2 v3 v4 v5 ((fun w0 w1 w2 w3 w4 w5 => Kn7548 (mkSt [(0, .one (.ptr 0 0)), (2, .one (.ptr 2 0)), (3, .one (.ptr 3 0))] [(0, some (80, [.sl false 5 w0, .int .i64 w1, .int .u64 w2])), (2, some (24, [.int .i64 w3, .nl])), (3, some (24, [.int .i64 w4, .sl true 41 w5]))] : St D0))) ((fun w0 w1 w2 w3 w4 w5 => Kb7 (mkSt [(2, .one (.ptr 2 0)), (3, .one (.ptr 3 0))] [(0, some (80, [.sl false 5 w0, .int .i64 w1, .int .u64 w2])), (2, some (24, [.int .i64 w3, .nl])), (3, some (24, [.int .i64 w4, .sl true 41 w5]))] : St D0))) := by kernel_rfl
noncomputable def zq64.d2 (N : Nat) (v0 : List Int) (v1 : Int) (v2 : Int) (v3 : Int) (v4 : Int) (v5 : List S41) (c2 : (List Int) → Int → Int → Int → Int → (List S41) → Option zq64.R) : Option zq64.R := zq64.o2 N v0 v1 v2 v3 v4 v5 c2 ((fun w0 w1 w2 w3 w4 w5 => zq64.d1 N w0 w1 w2 w3 w4 w5))
theorem zq64.d2.run (N : Nat) (Kn7548 : St D0 → Option zq64.R) (v0 : List Int) (v1 : Int) (v2 : Int) (v3 : Int) (v4 : Int) (v5 : List S41) : runC zq64.C (zq64.O N) N zq64.c15096 15096 (mkSt [(0, .one (.ptr 0 0)), (2, .one (.ptr 2 0)), (3, .one (.ptr 3 0))] [(0, some (80, [.sl false 5 v0, .int .i64 v1, .int .u64 v2])), (2, some (24, [.int .i64 v3, .nl])), (3, some (24, [.int .i64 v4, .sl true 41 v5]))] : St D0) (zq64.K15096 N Kn7548) = zq64.d2 N v0 v1 v2 v3 v4 v5 ((fun w0 w1 w2 w3 w4 w5 => Kn7548 (mkSt [(0, .one (.ptr 0 0)), (2, .one (.ptr 2 0)), (3, .one (.ptr 3 0))] [(0, some (80, [.sl false 5 w0, .int .i64 w1, .int .u64 w2])), (2, some (24, [.int .i64 w3, .nl])), (3, some (24, [.int .i64 w4, .sl true 41 w5]))] : St D0))) := by
  unfold zq64.d2; exact (zq64.o2.run N (zq64.B7 N) Kn7548 v0 v1 v2 v3 v4 v5).trans (congr (congr rfl rfl) (funext fun w0 => funext fun w1 => funext fun w2 => funext fun w3 => funext fun w4 => funext fun w5 => zq64.d1.run N w0 w1 w2 w3 w4 w5))
noncomputable def zq64.K7548 (N : Nat) : Ex → St D0 → Option zq64.R := (blockK 1 (blockK 0 (onN (fun s => zq64.C.tidy 14 s (zq64.B7 N)) zq64.K0)))
noncomputable def zq64.l2 (N : Nat) : Nat → (List Int) → Int → Int → Int → Int → (List S41) → Option zq64.R
  | 0, _, _, _, _, _, _ => none
  | n + 1, v0, v1, v2, v3, v4, v5 => zq64.d2 N v0 v1 v2 v3 v4 v5 ((fun w0 w1 w2 w3 w4 w5 => zq64.l2 N n w0 w1 w2 w3 w4 w5))
theorem zq64.loop7548 (N : Nat) : ∀ n, (∀ (v0 : List Int) (v1 : Int) (v2 : Int) (v3 : Int) (v4 : Int) (v5 : List S41), iter (loopF zq64.C (zq64.O N) N zq64.c15096 7548) n (mkSt [(0, .one (.ptr 0 0)), (2, .one (.ptr 2 0)), (3, .one (.ptr 3 0))] [(0, some (80, [.sl false 5 v0, .int .i64 v1, .int .u64 v2])), (2, some (24, [.int .i64 v3, .nl])), (3, some (24, [.int .i64 v4, .sl true 41 v5]))] : St D0) (zq64.K7548 N) = zq64.l2 N n v0 v1 v2 v3 v4 v5)
  | 0 => (fun v0 v1 v2 v3 v4 v5 => rfl)
  | n + 1 => (fun v0 v1 v2 v3 v4 v5 => (zq64.d2.run N (fun s => iter (loopF zq64.C (zq64.O N) N zq64.c15096 7548) n s (zq64.K7548 N)) v0 v1 v2 v3 v4 v5).trans (show _ = zq64.d2 N v0 v1 v2 v3 v4 v5 ((fun w0 w1 w2 w3 w4 w5 => zq64.l2 N n w0 w1 w2 w3 w4 w5)) from (congr rfl (funext fun w0 => funext fun w1 => funext fun w2 => funext fun w3 => funext fun w4 => funext fun w5 => (zq64.loop7548 N n) w0 w1 w2 w3 w4 w5))))
noncomputable def zq64.o0 (N : Nat) (b0_0 : List Int) (b0_1 : Int) (b0_2 : Int) (c1 : (List Int) → Int → Int → Int → Int → (List S41) → Option zq64.R) (c2 : (List Int) → Int → Int → Int → Int → (List S41) → Option zq64.R) : Option zq64.R :=
 (zq65.g N 5 b0_0 b0_1 b0_2).bind fun r1 =>
 (zq63.g N 12 r1.2.2.1 r1.2.2.2.1 r1.2.2.2.2).bind fun r2 =>
 bif (r2.1 == 0) then
  (zq59.g N ([1, 2, 24, 25, (-1)] : List Int) r2.2.1 r2.2.2.1 r2.2.2.2).bind fun r3 =>
  c1 r3.2.1 r3.2.2.1 r3.2.2.2 0 r3.1 r1.2.1
 else
 bif (r2.1 == 1) then
  (zq60.g N r1.1 r2.2.1 r2.2.2.1 r2.2.2.2).bind fun r4 =>
  bif (Nat.blt (r1.2.1.length + ([(⟨r4.1, r4.2.1, r4.2.2.1⟩ : S41)] : List S41).length) 5864062014805) then
   c1 r4.2.2.2.1 r4.2.2.2.2.1 r4.2.2.2.2.2 0 r1.1 (r1.2.1 ++ ([(⟨r4.1, r4.2.1, r4.2.2.1⟩ : S41)] : List S41))
  else
  none
 else
 bif (r2.1 == 2) then
  c2 r2.2.1 r2.2.2.1 r2.2.2.2 0 r1.1 r1.2.1
 else
 c1 r2.2.1 r2.2.2.1 r2.2.2.2 0 r1.1 r1.2.1
theorem zq64.o0.run (N : Nat) (H15 : Code) (H15096 : Code) (b0_0 : List Int) (b0_1 : Int) (b0_2 : Int) : runC zq64.C (zq64.O N) N (.seq zq64.c2 (.seq zq64.c6 (.seq (.seq zq64.c28 (.block 0 (.seq zq64.c116 (.cond (.tmp 8) zq64.c234 (.seq zq64.c470 (.cond (.tmp 14) zq64.c942 (.seq zq64.c1886 (.cond (.tmp 25) (.block 1 (.loop H15096)) zq64.c3775)))))))) H15))) 1 (st0 [.one (.ptr 0 0)] [(80, [.sl false 5 b0_0, .int .i64 b0_1, .int .u64 b0_2])] : St D0) zq64.K0 = zq64.o0 N b0_0 b0_1 b0_2 ((fun w0 w1 w2 w3 w4 w5 => runC zq64.C (zq64.O N) N H15 15 (mkSt [(2, .one (.ptr 2 0)), (3, .one (.ptr 3 0))] [(0, some (80, [.sl false 5 w0, .int .i64 w1, .int .u64 w2])), (2, some (24, [.int .i64 w3, .nl])), (3, some (24, [.int .i64 w4, .sl true 41 w5]))] : St D0) zq64.K0)) ((fun w0 w1 w2 w3 w4 w5 => iter (loopF zq64.C (zq64.O N) N H15096 7548) N (mkSt [(0, .one (.ptr 0 0)), (2, .one (.ptr 2 0)), (3, .one (.ptr 3 0))] [(0, some (80, [.sl false 5 w0, .int .i64 w1, .int .u64 w2])), (2, some (24, [.int .i64 w3, .nl])), (3, some (24, [.int .i64 w4, .sl true 41 w5]))] : St D0) (blockK 1 (blockK 0 (onN (fun s => zq64.C.tidy 14 s (fun s' => runC zq64.C (zq64.O N) N H15 15 s' zq64.K0)) zq64.K0))))) := by kernel_rfl
noncomputable def zq64.g (N : Nat) (b0_0 : List Int) (b0_1 : Int) (b0_2 : Int) : Option zq64.R := zq64.o0 N b0_0 b0_1 b0_2 ((fun w0 w1 w2 w3 w4 w5 => zq64.d1 N w0 w1 w2 w3 w4 w5)) ((fun w0 w1 w2 w3 w4 w5 => zq64.l2 N N w0 w1 w2 w3 w4 w5))
theorem zq64.c1_0 : zq64.c1 = (.seq zq64.c2 (.seq zq64.c6 (.seq (.seq zq64.c28 (.block 0 (.seq zq64.c116 (.cond (.tmp 8) zq64.c234 (.seq zq64.c470 (.cond (.tmp 14) zq64.c942 (.seq zq64.c1886 (.cond (.tmp 25) (.block 1 (.loop zq64.c15096)) zq64.c3775)))))))) zq64.c15))) := by kernel_rfl
theorem zq64.g.run (N : Nat) (b0_0 : List Int) (b0_1 : Int) (b0_2 : Int) : runC zq64.C (zq64.O N) N zq64.c1 1 (st0 [.one (.ptr 0 0)] [(80, [.sl false 5 b0_0, .int .i64 b0_1, .int .u64 b0_2])] : St D0) zq64.K0 = zq64.g N b0_0 b0_1 b0_2 := by
  rw [zq64.c1_0]; unfold zq64.g; exact (zq64.o0.run N zq64.c15 zq64.c15096 b0_0 b0_1 b0_2).trans (congr (congr rfl (funext fun w0 => funext fun w1 => funext fun w2 => funext fun w3 => funext fun w4 => funext fun w5 => zq64.d1.run N w0 w1 w2 w3 w4 w5)) (funext fun w0 => funext fun w1 => funext fun w2 => funext fun w3 => funext fun w4 => funext fun w5 => (zq64.loop7548 N N) w0 w1 w2 w3 w4 w5))
theorem zq64.good (N : Nat) (b0_0 : List Int) (b0_1 : Int) (b0_2 : Int) (r : zq64.R) (h : zq64.g N b0_0 b0_1 b0_2 = some r) : Go.PM.Good Go.Proofs.Tryz.prog T0 86 [.one (.ptr 0 0)] [(80, [.sl false 5 b0_0, .int .i64 b0_1, .int .u64 b0_2])] (zq64.sig.ret r) (zq64.sig.bs r) :=
  good_fn tabOk0 mixed0 zq64.sig (zq64.E N) Go.Proofs.Tryz.func86 (by kernel_rfl) (by kernel_rfl) 8623505805 1133871497216 1 [(14, [2, 3], [0, 2, 3]), (7548, [0, 2, 3], [0, 2, 3])] 1074005072 false [] [(true, [.any, .own 41])] (by kernel_rfl) rfl rfl ((zq64.g.run N b0_0 b0_1 b0_2).trans h)
noncomputable def zq64.ent (N : Nat) : Ent Go.Proofs.Tryz.prog T0 := mkEnt 86 [(false, [.any])] zq64.sig (fun t => zq64.g N t.2.1 t.2.2.1 t.2.2.2) (fun t r h => zq64.good N t.2.1 t.2.2.1 t.2.2.2 r h)
end Go.Proofs.YtpeleommbipeaaaGreatDoor.M

namespace Go.Proofs.YtpeleommbipeaaaGreatDoor.M
open Go Go.PM Go.Proofs.YtpeleommbipeaaaGreatDoor.P
set_option linter.unusedVariables false
set_option maxRecDepth 100000
/-! ### zq53 -/
abbrev zq53.R : Type := List Int × Bool
abbrev zq53.sig : Sig := ⟨[(true, 2)], [], [.int .i64, .sl false 41], [(false, 1), (false, 1)], [], [.sl true 3, .bool]⟩
noncomputable def zq53.C : Cfg D0 := ⟨Go.Proofs.Tryz.prog, T0, 79, 0, 12, 0, [], 0, false, []⟩
noncomputable def zq53.E (N : Nat) : List (Ent Go.Proofs.Tryz.prog T0) := [zq76.ent N, zq73.ent N]
noncomputable def zq53.O (N : Nat) : Orc D0 zq53.R := orcOf (zq53.E N)
noncomputable def zq53.K0 : Ex → St D0 → Option zq53.R := exitK zq53.C Go.Proofs.Tryz.f6.results.toList [(false, [.own 3]), (false, [.any])] (decOut zq53.sig)
noncomputable def zq53.c1 : Code := codeAt (Go.Proofs.Tryz.f6.body.getD .skip) []
noncomputable def zq53.o0 (N : Nat) (a0_0 : Int) (a0_1 : List S41) : Option zq53.R :=
 (zq76.g N a0_0 a0_1).bind fun r1 =>
 bif (!r1) then
  some (([] : List Int), false)
 else
 (zq73.g N a0_0 a0_1).bind fun r2 =>
 some (r2, true)
theorem zq53.o0.run (N : Nat) (a0_0 : Int) (a0_1 : List S41) : runC zq53.C (zq53.O N) N zq53.c1 1 (st0 [.agg [.int .i64 a0_0, .sl false 41 a0_1]] [] : St D0) zq53.K0 = zq53.o0 N a0_0 a0_1 := by kernel_rfl
noncomputable def zq53.g (N : Nat) (a0_0 : Int) (a0_1 : List S41) : Option zq53.R := zq53.o0 N a0_0 a0_1
theorem zq53.g.run (N : Nat) (a0_0 : Int) (a0_1 : List S41) : runC zq53.C (zq53.O N) N zq53.c1 1 (st0 [.agg [.int .i64 a0_0, .sl false 41 a0_1]] [] : St D0) zq53.K0 = zq53.g N a0_0 a0_1 := by
  exact (zq53.o0.run N a0_0 a0_1).trans rfl
theorem zq53.good (N : Nat) (a0_0 : Int) (a0_1 : List S41) (r : zq53.R) (h : zq53.g N a0_0 a0_1 = some r) : Go.PM.Good Go.Proofs.Tryz.prog T0 6 [.agg [.int .i64 a0_0, .sl false 41 a0_1]] [] (zq53.sig.ret r) (zq53.sig.bs r) :=
  good_fn tabOk0 mixed0 zq53.sig (zq53.E N) Go.Proofs.Tryz.func6 (by kernel_rfl) (by kernel_rfl) 79 0 0 [] 0 false [] [(false, [.own 3]), (false, [.any])] (by kernel_rfl) rfl rfl ((zq53.g.run N a0_0 a0_1).trans h)
noncomputable def zq53.ent (N : Nat) : Ent Go.Proofs.Tryz.prog T0 := mkEnt 6 [(true, [.any, .ro 41])] zq53.sig (fun t => zq53.g N t.1 t.2) (fun t r h => zq53.good N t.1 t.2 r h)
end Go.Proofs.YtpeleommbipeaaaGreatDoor.M

namespace Go.Proofs.YtpeleommbipeaaaGreatDoor.M
open Go Go.PM Go.Proofs.YtpeleommbipeaaaGreatDoor.P
set_option linter.unusedVariables false
set_option maxRecDepth 100000
/-! ### zq44 -/
abbrev zq44.R : Type := Int × Bool
abbrev zq44.sig : Sig := ⟨[(true, 2)], [], [.int .i64, .sl false 41], [(false, 1), (false, 1)], [], [.int .i64, .bool]⟩
noncomputable def zq44.C : Cfg D0 := ⟨Go.Proofs.Tryz.prog, T0, 79, 0, 13, 0, [], 0, false, []⟩
noncomputable def zq44.E (N : Nat) : List (Ent Go.Proofs.Tryz.prog T0) := [zq76.ent N, zq73.ent N]
noncomputable def zq44.O (N : Nat) : Orc D0 zq44.R := orcOf (zq44.E N)
noncomputable def zq44.K0 : Ex → St D0 → Option zq44.R := exitK zq44.C Go.Proofs.Tryz.f8.results.toList [(false, [.any]), (false, [.any])] (decOut zq44.sig)
noncomputable def zq44.c1 : Code := codeAt (Go.Proofs.Tryz.f8.body.getD .skip) []
noncomputable def zq44.o0 (N : Nat) (a0_0 : Int) (a0_1 : List S41) : Option zq44.R :=
 (zq76.g N a0_0 a0_1).bind fun r1 =>
 bif (!r1) then
  some (0, false)
 else
 (zq73.g N a0_0 a0_1).bind fun r2 =>
 some ((r2.length : Int), true)
theorem zq44.o0.run (N : Nat) (a0_0 : Int) (a0_1 : List S41) : runC zq44.C (zq44.O N) N zq44.c1 1 (st0 [.agg [.int .i64 a0_0, .sl false 41 a0_1]] [] : St D0) zq44.K0 = zq44.o0 N a0_0 a0_1 := by kernel_rfl
noncomputable def zq44.g (N : Nat) (a0_0 : Int) (a0_1 : List S41) : Option zq44.R := zq44.o0 N a0_0 a0_1
theorem zq44.g.run (N : Nat) (a0_0 : Int) (a0_1 : List S41) : runC zq44.C (zq44.O N) N zq44.c1 1 (st0 [.agg [.int .i64 a0_0, .sl false 41 a0_1]] [] : St D0) zq44.K0 = zq44.g N a0_0 a0_1 := by
  exact (zq44.o0.run N a0_0 a0_1).trans rfl
theorem zq44.good (N : Nat) (a0_0 : Int) (a0_1 : List S41) (r : zq44.R) (h : zq44.g N a0_0 a0_1 = some r) : Go.PM.Good Go.Proofs.Tryz.prog T0 8 [.agg [.int .i64 a0_0, .sl false 41 a0_1]] [] (zq44.sig.ret r) (zq44.sig.bs r) :=
  good_fn tabOk0 mixed0 zq44.sig (zq44.E N) Go.Proofs.Tryz.func8 (by kernel_rfl) (by kernel_rfl) 79 0 0 [] 0 false [] [(false, [.any]), (false, [.any])] (by kernel_rfl) rfl rfl ((zq44.g.run N a0_0 a0_1).trans h)
noncomputable def zq44.ent (N : Nat) : Ent Go.Proofs.Tryz.prog T0 := mkEnt 8 [(true, [.any, .ro 41])] zq44.sig (fun t => zq44.g N t.1 t.2) (fun t r h => zq44.good N t.1 t.2 r h)
end Go.Proofs.YtpeleommbipeaaaGreatDoor.M

namespace Go.Proofs.YtpeleommbipeaaaGreatDoor.M
open Go Go.PM Go.Proofs.YtpeleommbipeaaaGreatDoor.P
set_option linter.unusedVariables false
set_option maxRecDepth 100000
/-! ### zq4 -/
abbrev zq4.R : Type := Int × Bool
abbrev zq4.sig : Sig := ⟨[(true, 2)], [], [.int .i64, .sl false 41], [(false, 1), (false, 1)], [], [.int .i64, .bool]⟩
noncomputable def zq4.C : Cfg D0 := ⟨Go.Proofs.Tryz.prog, T0, 131135, 0, 21, 0, [(28, [4, 17], [])], 280576, false, []⟩
noncomputable def zq4.E (N : Nat) : List (Ent Go.Proofs.Tryz.prog T0) := [zq17.ent N]
noncomputable def zq4.O (N : Nat) : Orc D0 zq4.R := orcOf (zq4.E N)
noncomputable def zq4.K0 : Ex → St D0 → Option zq4.R := exitK zq4.C Go.Proofs.Tryz.f9.results.toList [(false, [.any]), (false, [.any])] (decOut zq4.sig)
noncomputable def zq4.c1 : Code := codeAt (Go.Proofs.Tryz.f9.body.getD .skip) []
noncomputable def zq4.c2 : Code := codeAt (Go.Proofs.Tryz.f9.body.getD .skip) [false]
noncomputable def zq4.c6 : Code := codeAt (Go.Proofs.Tryz.f9.body.getD .skip) [true, false]
noncomputable def zq4.c15 : Code := codeAt (Go.Proofs.Tryz.f9.body.getD .skip) [true, true, true]
noncomputable def zq4.c28 : Code := codeAt (Go.Proofs.Tryz.f9.body.getD .skip) [true, true, false, false]
noncomputable def zq4.c29 : Code := codeAt (Go.Proofs.Tryz.f9.body.getD .skip) [true, true, false, true]
noncomputable def zq4.K29 (N : Nat) : Ex → St D0 → Option zq4.R := (onN (fun s => zq4.C.tidy 14 s (fun s' => runC zq4.C (zq4.O N) N zq4.c15 15 s' zq4.K0)) zq4.K0)
noncomputable def zq4.o1 (N : Nat) (v0 : List Int) (v1 : Bool) : Option zq4.R :=
 bif v1 then
  some (0, false)
 else
 bif (decide (0 < (v0.length : Int))) then
  (v0[(0 : Int).toNat]?).bind fun x1 =>
  some (x1, true)
 else
 none
theorem zq4.o1.run (N : Nat) (v0 : List Int) (v1 : Bool) : runC zq4.C (zq4.O N) N zq4.c29 29 (mkSt [(4, .one (.sl true 3 v0)), (17, .one (.bool v1))] [] : St D0) (onN (fun s => zq4.C.tidy 14 s (fun s' => runC zq4.C (zq4.O N) N zq4.c15 15 s' zq4.K0)) zq4.K0) = zq4.o1 N v0 v1 := by kernel_rfl
noncomputable def zq4.d1 (N : Nat) (v0 : List Int) (v1 : Bool) : Option zq4.R := zq4.o1 N v0 v1
theorem zq4.d1.run (N : Nat) (v0 : List Int) (v1 : Bool) : runC zq4.C (zq4.O N) N zq4.c29 29 (mkSt [(4, .one (.sl true 3 v0)), (17, .one (.bool v1))] [] : St D0) (zq4.K29 N) = zq4.d1 N v0 v1 := by
  exact (zq4.o1.run N v0 v1).trans rfl
noncomputable def zq4.o0 (N : Nat) (a0_0 : Int) (a0_1 : List S41) (c1 : (List Int) → Bool → Option zq4.R) : Option zq4.R :=
 (zq17.g N a0_0 a0_1).bind fun r1 =>
 bif (!r1.2) then
  c1 r1.1 true
 else
 c1 r1.1 ((r1.1.length : Int) == 0)
theorem zq4.o0.run (N : Nat) (H29 : Code) (a0_0 : Int) (a0_1 : List S41) : runC zq4.C (zq4.O N) N (.seq zq4.c2 (.seq zq4.c6 (.seq (.seq zq4.c28 H29) zq4.c15))) 1 (st0 [.agg [.int .i64 a0_0, .sl false 41 a0_1]] [] : St D0) zq4.K0 = zq4.o0 N a0_0 a0_1 ((fun w0 w1 => runC zq4.C (zq4.O N) N H29 29 (mkSt [(4, .one (.sl true 3 w0)), (17, .one (.bool w1))] [] : St D0) (onN (fun s => zq4.C.tidy 14 s (fun s' => runC zq4.C (zq4.O N) N zq4.c15 15 s' zq4.K0)) zq4.K0))) := by kernel_rfl
noncomputable def zq4.B14 (N : Nat) : St D0 → Option zq4.R := fun s' => runC zq4.C (zq4.O N) N zq4.c29 29 s' (zq4.K29 N)
noncomputable def zq4.g (N : Nat) (a0_0 : Int) (a0_1 : List S41) : Option zq4.R := zq4.o0 N a0_0 a0_1 ((fun w0 w1 => zq4.d1 N w0 w1))
theorem zq4.c1_0 : zq4.c1 = (.seq zq4.c2 (.seq zq4.c6 (.seq (.seq zq4.c28 zq4.c29) zq4.c15))) := by kernel_rfl
theorem zq4.g.run (N : Nat) (a0_0 : Int) (a0_1 : List S41) : runC zq4.C (zq4.O N) N zq4.c1 1 (st0 [.agg [.int .i64 a0_0, .sl false 41 a0_1]] [] : St D0) zq4.K0 = zq4.g N a0_0 a0_1 := by
  rw [zq4.c1_0]; unfold zq4.g; exact (zq4.o0.run N zq4.c29 a0_0 a0_1).trans (congr rfl (funext fun w0 => funext fun w1 => zq4.d1.run N w0 w1))
theorem zq4.good (N : Nat) (a0_0 : Int) (a0_1 : List S41) (r : zq4.R) (h : zq4.g N a0_0 a0_1 = some r) : Go.PM.Good Go.Proofs.Tryz.prog T0 9 [.agg [.int .i64 a0_0, .sl false 41 a0_1]] [] (zq4.sig.ret r) (zq4.sig.bs r) :=
  good_fn tabOk0 mixed0 zq4.sig (zq4.E N) Go.Proofs.Tryz.func9 (by kernel_rfl) (by kernel_rfl) 131135 0 0 [(28, [4, 17], [])] 280576 false [] [(false, [.any]), (false, [.any])] (by kernel_rfl) rfl rfl ((zq4.g.run N a0_0 a0_1).trans h)
noncomputable def zq4.ent (N : Nat) : Ent Go.Proofs.Tryz.prog T0 := mkEnt 9 [(true, [.any, .ro 41])] zq4.sig (fun t => zq4.g N t.1 t.2) (fun t r h => zq4.good N t.1 t.2 r h)
end Go.Proofs.YtpeleommbipeaaaGreatDoor.M

namespace Go.Proofs.YtpeleommbipeaaaGreatDoor.M
open Go Go.PM Go.Proofs.YtpeleommbipeaaaGreatDoor.P
set_option linter.unusedVariables false
set_option maxRecDepth 100000
/-! ### zq45 -/
abbrev zq45.R : Type := Int × Bool
abbrev zq45.sig : Sig := ⟨[(true, 2)], [], [.int .i64, .sl false 41], [(false, 1), (false, 1)], [], [.int .i64, .bool]⟩
noncomputable def zq45.C : Cfg D0 := ⟨Go.Proofs.Tryz.prog, T0, 32783, 0, 23, 0, [(12, [1, 15], [1])], 0, false, []⟩
noncomputable def zq45.E (N : Nat) : List (Ent Go.Proofs.Tryz.prog T0) := [zq76.ent N, zq73.ent N]
noncomputable def zq45.O (N : Nat) : Orc D0 zq45.R := orcOf (zq45.E N)
noncomputable def zq45.K0 : Ex → St D0 → Option zq45.R := exitK zq45.C Go.Proofs.Tryz.f10.results.toList [(false, [.any]), (false, [.any])] (decOut zq45.sig)
noncomputable def zq45.c1 : Code := codeAt (Go.Proofs.Tryz.f10.body.getD .skip) []
noncomputable def zq45.c2 : Code := codeAt (Go.Proofs.Tryz.f10.body.getD .skip) [false]
noncomputable def zq45.c7 : Code := codeAt (Go.Proofs.Tryz.f10.body.getD .skip) [true, true]
noncomputable def zq45.c12 : Code := codeAt (Go.Proofs.Tryz.f10.body.getD .skip) [true, false, false]
noncomputable def zq45.c13 : Code := codeAt (Go.Proofs.Tryz.f10.body.getD .skip) [true, false, true]
noncomputable def zq45.K13 (N : Nat) : Ex → St D0 → Option zq45.R := (onN (fun s => zq45.C.tidy 6 s (fun s' => runC zq45.C (zq45.O N) N zq45.c7 7 s' zq45.K0)) zq45.K0)
noncomputable def zq45.o1 (N : Nat) (v0 : Bool) (v1 : Int) (v2 : List S41) : Option zq45.R :=
 bif v0 then
  some (0, false)
 else
 (zq73.g N v1 v2).bind fun r1 =>
 bif (decide (0 < (r1.length : Int))) then
  (r1[(0 : Int).toNat]?).bind fun x2 =>
  some (x2, true)
 else
 none
theorem zq45.o1.run (N : Nat) (v0 : Bool) (v1 : Int) (v2 : List S41) : runC zq45.C (zq45.O N) N zq45.c13 13 (mkSt [(1, .one (.ptr 1 0)), (15, .one (.bool v0))] [(1, some (24, [.int .i64 v1, .sl false 41 v2]))] : St D0) (onN (fun s => zq45.C.tidy 6 s (fun s' => runC zq45.C (zq45.O N) N zq45.c7 7 s' zq45.K0)) zq45.K0) = zq45.o1 N v0 v1 v2 := by kernel_rfl
noncomputable def zq45.d1 (N : Nat) (v0 : Bool) (v1 : Int) (v2 : List S41) : Option zq45.R := zq45.o1 N v0 v1 v2
theorem zq45.d1.run (N : Nat) (v0 : Bool) (v1 : Int) (v2 : List S41) : runC zq45.C (zq45.O N) N zq45.c13 13 (mkSt [(1, .one (.ptr 1 0)), (15, .one (.bool v0))] [(1, some (24, [.int .i64 v1, .sl false 41 v2]))] : St D0) (zq45.K13 N) = zq45.d1 N v0 v1 v2 := by
  exact (zq45.o1.run N v0 v1 v2).trans rfl
noncomputable def zq45.o0 (N : Nat) (a0_0 : Int) (a0_1 : List S41) (c1 : Bool → Int → (List S41) → Option zq45.R) : Option zq45.R :=
 (zq76.g N a0_0 a0_1).bind fun r1 =>
 bif (!r1) then
  c1 true a0_0 a0_1
 else
 (zq73.g N a0_0 a0_1).bind fun r2 =>
 c1 ((r2.length : Int) == 0) a0_0 a0_1
theorem zq45.o0.run (N : Nat) (H13 : Code) (a0_0 : Int) (a0_1 : List S41) : runC zq45.C (zq45.O N) N (.seq zq45.c2 (.seq (.seq zq45.c12 H13) zq45.c7)) 1 (st0 [.agg [.int .i64 a0_0, .sl false 41 a0_1]] [] : St D0) zq45.K0 = zq45.o0 N a0_0 a0_1 ((fun w0 w1 w2 => runC zq45.C (zq45.O N) N H13 13 (mkSt [(1, .one (.ptr 1 0)), (15, .one (.bool w0))] [(1, some (24, [.int .i64 w1, .sl false 41 w2]))] : St D0) (onN (fun s => zq45.C.tidy 6 s (fun s' => runC zq45.C (zq45.O N) N zq45.c7 7 s' zq45.K0)) zq45.K0))) := by kernel_rfl
noncomputable def zq45.B6 (N : Nat) : St D0 → Option zq45.R := fun s' => runC zq45.C (zq45.O N) N zq45.c13 13 s' (zq45.K13 N)
noncomputable def zq45.g (N : Nat) (a0_0 : Int) (a0_1 : List S41) : Option zq45.R := zq45.o0 N a0_0 a0_1 ((fun w0 w1 w2 => zq45.d1 N w0 w1 w2))
theorem zq45.c1_0 : zq45.c1 = (.seq zq45.c2 (.seq (.seq zq45.c12 zq45.c13) zq45.c7)) := by kernel_rfl
theorem zq45.g.run (N : Nat) (a0_0 : Int) (a0_1 : List S41) : runC zq45.C (zq45.O N) N zq45.c1 1 (st0 [.agg [.int .i64 a0_0, .sl false 41 a0_1]] [] : St D0) zq45.K0 = zq45.g N a0_0 a0_1 := by
  rw [zq45.c1_0]; unfold zq45.g; exact (zq45.o0.run N zq45.c13 a0_0 a0_1).trans (congr rfl (funext fun w0 => funext fun w1 => funext fun w2 => zq45.d1.run N w0 w1 w2))
theorem zq45.good (N : Nat) (a0_0 : Int) (a0_1 : List S41) (r : zq45.R) (h : zq45.g N a0_0 a0_1 = some r) : Go.PM.Good Go.Proofs.Tryz.prog T0 10 [.agg [.int .i64 a0_0, .sl false 41 a0_1]] [] (zq45.sig.ret r) (zq45.sig.bs r) :=
  good_fn tabOk0 mixed0 zq45.sig (zq45.E N) Go.Proofs.Tryz.func10 (by kernel_rfl) (by kernel_rfl) 32783 0 0 [(12, [1, 15], [1])] 0 false [] [(false, [.any]), (false, [.any])] (by kernel_rfl) rfl rfl ((zq45.g.run N a0_0 a0_1).trans h)
noncomputable def zq45.ent (N : Nat) : Ent Go.Proofs.Tryz.prog T0 := mkEnt 10 [(true, [.any, .ro 41])] zq45.sig (fun t => zq45.g N t.1 t.2) (fun t r h => zq45.good N t.1 t.2 r h)
end Go.Proofs.YtpeleommbipeaaaGreatDoor.M

namespace Go.Proofs.YtpeleommbipeaaaGreatDoor.M
open Go Go.PM Go.Proofs.YtpeleommbipeaaaGreatDoor.P
set_option linter.unusedVariables false
set_option maxRecDepth 100000
/-! ### zq19 -/
abbrev zq19.R : Type := Int × Int
abbrev zq19.sig : Sig := ⟨[(false, 1), (false, 1)], [], [.int .i64, .int .i64], [(false, 1), (false, 1)], [], [.int .i64, .int .i64]⟩
noncomputable def zq19.C : Cfg D0 := ⟨Go.Proofs.Tryz.prog, T0, 33011, 0, 23, 0, [(14, [6, 7], [])], 875264, false, []⟩
noncomputable def zq19.E (N : Nat) : List (Ent Go.Proofs.Tryz.prog T0) := []
noncomputable def zq19.O (N : Nat) : Orc D0 zq19.R := orcOf (zq19.E N)
noncomputable def zq19.K0 : Ex → St D0 → Option zq19.R := exitK zq19.C Go.Proofs.Tryz.f70.results.toList [(false, [.any]), (false, [.any])] (decOut zq19.sig)
noncomputable def zq19.c1 : Code := codeAt (Go.Proofs.Tryz.f70.body.getD .skip) []
noncomputable def zq19.c2 : Code := codeAt (Go.Proofs.Tryz.f70.body.getD .skip) [false]
noncomputable def zq19.c6 : Code := codeAt (Go.Proofs.Tryz.f70.body.getD .skip) [true, false]
noncomputable def zq19.c14 : Code := codeAt (Go.Proofs.Tryz.f70.body.getD .skip) [true, true, false]
noncomputable def zq19.c15 : Code := codeAt (Go.Proofs.Tryz.f70.body.getD .skip) [true, true, true]
noncomputable def zq19.K15 (N : Nat) : Ex → St D0 → Option zq19.R := zq19.K0
noncomputable def zq19.o1 (N : Nat) (v0 : Int) (v1 : Int) : Option zq19.R :=
 some (v0, v1)
theorem zq19.o1.run (N : Nat) (v0 : Int) (v1 : Int) : runC zq19.C (zq19.O N) N zq19.c15 15 (mkSt [(6, .one (.int .i64 v0)), (7, .one (.int .i64 v1))] [] : St D0) zq19.K0 = zq19.o1 N v0 v1 := by kernel_rfl
noncomputable def zq19.d1 (N : Nat) (v0 : Int) (v1 : Int) : Option zq19.R := zq19.o1 N v0 v1
theorem zq19.d1.run (N : Nat) (v0 : Int) (v1 : Int) : runC zq19.C (zq19.O N) N zq19.c15 15 (mkSt [(6, .one (.int .i64 v0)), (7, .one (.int .i64 v1))] [] : St D0) (zq19.K15 N) = zq19.d1 N v0 v1 := by
  exact (zq19.o1.run N v0 v1).trans rfl
noncomputable def zq19.o0 (N : Nat) (a0 : Int) (a1 : Int) (c1 : Int → Int → Option zq19.R) : Option zq19.R :=
 bif (a1 == 0) then
  none
 else
 bif (a1 == 0) then
  none
 else
 bif (decide ((Int.tmod a0 a1) < 0)) then
  c1 (w64 ((w64 (Int.tdiv a0 a1)) - 1)) (w64 ((Int.tmod a0 a1) + a1))
 else
 c1 (w64 (Int.tdiv a0 a1)) (Int.tmod a0 a1)
theorem zq19.o0.run (N : Nat) (H15 : Code) (a0 : Int) (a1 : Int) : runC zq19.C (zq19.O N) N (.seq zq19.c2 (.seq zq19.c6 (.seq zq19.c14 H15))) 1 (st0 [.one (.int .i64 a0), .one (.int .i64 a1)] [] : St D0) zq19.K0 = zq19.o0 N a0 a1 ((fun w0 w1 => runC zq19.C (zq19.O N) N H15 15 (mkSt [(6, .one (.int .i64 w0)), (7, .one (.int .i64 w1))] [] : St D0) zq19.K0)) := by kernel_rfl
noncomputable def zq19.B7 (N : Nat) : St D0 → Option zq19.R := fun s' => runC zq19.C (zq19.O N) N zq19.c15 15 s' (zq19.K15 N)
noncomputable def zq19.g (N : Nat) (a0 : Int) (a1 : Int) : Option zq19.R := zq19.o0 N a0 a1 ((fun w0 w1 => zq19.d1 N w0 w1))
theorem zq19.c1_0 : zq19.c1 = (.seq zq19.c2 (.seq zq19.c6 (.seq zq19.c14 zq19.c15))) := by kernel_rfl
theorem zq19.g.run (N : Nat) (a0 : Int) (a1 : Int) : runC zq19.C (zq19.O N) N zq19.c1 1 (st0 [.one (.int .i64 a0), .one (.int .i64 a1)] [] : St D0) zq19.K0 = zq19.g N a0 a1 := by
  rw [zq19.c1_0]; unfold zq19.g; exact (zq19.o0.run N zq19.c15 a0 a1).trans (congr rfl (funext fun w0 => funext fun w1 => zq19.d1.run N w0 w1))
theorem zq19.good (N : Nat) (a0 : Int) (a1 : Int) (r : zq19.R) (h : zq19.g N a0 a1 = some r) : Go.PM.Good Go.Proofs.Tryz.prog T0 70 [.one (.int .i64 a0), .one (.int .i64 a1)] [] (zq19.sig.ret r) (zq19.sig.bs r) :=
  good_fn tabOk0 mixed0 zq19.sig (zq19.E N) Go.Proofs.Tryz.func70 (by kernel_rfl) (by kernel_rfl) 33011 0 0 [(14, [6, 7], [])] 875264 false [] [(false, [.any]), (false, [.any])] (by kernel_rfl) rfl rfl ((zq19.g.run N a0 a1).trans h)
noncomputable def zq19.ent (N : Nat) : Ent Go.Proofs.Tryz.prog T0 := mkEnt 70 [(false, [.any]), (false, [.any])] zq19.sig (fun t => zq19.g N t.1 t.2) (fun t r h => zq19.good N t.1 t.2 r h)
end Go.Proofs.YtpeleommbipeaaaGreatDoor.M

namespace Go.Proofs.YtpeleommbipeaaaGreatDoor.M
open Go Go.PM Go.Proofs.YtpeleommbipeaaaGreatDoor.P
set_option linter.unusedVariables false
set_option maxRecDepth 100000
/-! ### zq20 -/
abbrev zq20.R : Type := Int
abbrev zq20.sig : Sig := ⟨[(false, 1), (false, 1)], [], [.int .i64, .int .i64], [(false, 1)], [], [.int .i64]⟩
noncomputable def zq20.C : Cfg D0 := ⟨Go.Proofs.Tryz.prog, T0, 83, 0, 15, 0, [(12, [0, 1], [])], 6944, false, []⟩
noncomputable def zq20.E (N : Nat) : List (Ent Go.Proofs.Tryz.prog T0) := []
noncomputable def zq20.O (N : Nat) : Orc D0 zq20.R := orcOf (zq20.E N)
noncomputable def zq20.K0 : Ex → St D0 → Option zq20.R := exitK zq20.C Go.Proofs.Tryz.f71.results.toList [(false, [.any])] (decOut zq20.sig)
noncomputable def zq20.c1 : Code := codeAt (Go.Proofs.Tryz.f71.body.getD .skip) []
noncomputable def zq20.c2 : Code := codeAt (Go.Proofs.Tryz.f71.body.getD .skip) [false]
noncomputable def zq20.c7 : Code := codeAt (Go.Proofs.Tryz.f71.body.getD .skip) [true, true]
noncomputable def zq20.c24 : Code := codeAt (Go.Proofs.Tryz.f71.body.getD .skip) [true, false, false, false]
noncomputable def zq20.K24 (N : Nat) (Kn12 : St D0 → Option zq20.R) : Ex → St D0 → Option zq20.R := ((fun up => (onN (fun s => zq20.C.tidy 12 s ((onN Kn12 up) .normal)) (onN Kn12 up))) (blockK 0 (onN (fun s => zq20.C.tidy 6 s (fun s' => runC zq20.C (zq20.O N) N zq20.c7 7 s' zq20.K0)) zq20.K0)))
noncomputable def zq20.o1 (N : Nat) (v0 : Int) (v1 : Int) (c1 : Int → Int → Option zq20.R) : Option zq20.R :=
 bif (v1 != 0) then
  bif (v1 == 0) then
   none
  else
  c1 v1 (Int.tmod v0 v1)
 else
 some ((if (w64 (0 - v0)) > v0 then (w64 (0 - v0)) else v0))
theorem zq20.o1.run (N : Nat) (Kn12 : St D0 → Option zq20.R) (v0 : Int) (v1 : Int) : runC zq20.C (zq20.O N) N zq20.c24 24 (mkSt [(0, .one (.int .i64 v0)), (1, .one (.int .i64 v1))] [] : St D0) ((fun up => (onN (fun s => zq20.C.tidy 12 s ((onN Kn12 up) .normal)) (onN Kn12 up))) (blockK 0 (onN (fun s => zq20.C.tidy 6 s (fun s' => runC zq20.C (zq20.O N) N zq20.c7 7 s' zq20.K0)) zq20.K0))) = zq20.o1 N v0 v1 ((fun w0 w1 => Kn12 (mkSt [(0, .one (.int .i64 w0)), (1, .one (.int .i64 w1))] [] : St D0))) := by kernel_rfl
noncomputable def zq20.d1 (N : Nat) (v0 : Int) (v1 : Int) (c1 : Int → Int → Option zq20.R) : Option zq20.R := zq20.o1 N v0 v1 c1
theorem zq20.d1.run (N : Nat) (Kn12 : St D0 → Option zq20.R) (v0 : Int) (v1 : Int) : runC zq20.C (zq20.O N) N zq20.c24 24 (mkSt [(0, .one (.int .i64 v0)), (1, .one (.int .i64 v1))] [] : St D0) (zq20.K24 N Kn12) = zq20.d1 N v0 v1 ((fun w0 w1 => Kn12 (mkSt [(0, .one (.int .i64 w0)), (1, .one (.int .i64 w1))] [] : St D0))) := by
  exact (zq20.o1.run N Kn12 v0 v1).trans rfl
noncomputable def zq20.K12 (N : Nat) : Ex → St D0 → Option zq20.R := (blockK 0 (onN (fun s => zq20.C.tidy 6 s (fun s' => runC zq20.C (zq20.O N) N zq20.c7 7 s' zq20.K0)) zq20.K0))
noncomputable def zq20.l1 (N : Nat) : Nat → Int → Int → Option zq20.R
  | 0, _, _ => none
  | n + 1, v0, v1 => zq20.d1 N v0 v1 ((fun w0 w1 => zq20.l1 N n w0 w1))
theorem zq20.loop12 (N : Nat) : ∀ n, (∀ (v0 : Int) (v1 : Int), iter (loopF zq20.C (zq20.O N) N zq20.c24 12) n (mkSt [(0, .one (.int .i64 v0)), (1, .one (.int .i64 v1))] [] : St D0) (zq20.K12 N) = zq20.l1 N n v0 v1)
  | 0 => (fun v0 v1 => rfl)
  | n + 1 => (fun v0 v1 => (zq20.d1.run N (fun s => iter (loopF zq20.C (zq20.O N) N zq20.c24 12) n s (zq20.K12 N)) v0 v1).trans (show _ = zq20.d1 N v0 v1 ((fun w0 w1 => zq20.l1 N n w0 w1)) from (congr rfl (funext fun w0 => funext fun w1 => (zq20.loop12 N n) w0 w1))))
noncomputable def zq20.o0 (N : Nat) (a0 : Int) (a1 : Int) (c1 : Int → Int → Option zq20.R) : Option zq20.R :=
 c1 a0 a1
theorem zq20.o0.run (N : Nat) (H24 : Code) (a0 : Int) (a1 : Int) : runC zq20.C (zq20.O N) N (.seq zq20.c2 (.seq (.block 0 (.loop H24)) zq20.c7)) 1 (st0 [.one (.int .i64 a0), .one (.int .i64 a1)] [] : St D0) zq20.K0 = zq20.o0 N a0 a1 ((fun w0 w1 => iter (loopF zq20.C (zq20.O N) N H24 12) N (mkSt [(0, .one (.int .i64 w0)), (1, .one (.int .i64 w1))] [] : St D0) (blockK 0 (onN (fun s => zq20.C.tidy 6 s (fun s' => runC zq20.C (zq20.O N) N zq20.c7 7 s' zq20.K0)) zq20.K0)))) := by kernel_rfl
noncomputable def zq20.g (N : Nat) (a0 : Int) (a1 : Int) : Option zq20.R := zq20.o0 N a0 a1 ((fun w0 w1 => zq20.l1 N N w0 w1))
theorem zq20.c1_0 : zq20.c1 = (.seq zq20.c2 (.seq (.block 0 (.loop zq20.c24)) zq20.c7)) := by kernel_rfl
theorem zq20.g.run (N : Nat) (a0 : Int) (a1 : Int) : runC zq20.C (zq20.O N) N zq20.c1 1 (st0 [.one (.int .i64 a0), .one (.int .i64 a1)] [] : St D0) zq20.K0 = zq20.g N a0 a1 := by
  rw [zq20.c1_0]; unfold zq20.g; exact (zq20.o0.run N zq20.c24 a0 a1).trans (congr rfl (funext fun w0 => funext fun w1 => (zq20.loop12 N N) w0 w1))
theorem zq20.good (N : Nat) (a0 : Int) (a1 : Int) (r : zq20.R) (h : zq20.g N a0 a1 = some r) : Go.PM.Good Go.Proofs.Tryz.prog T0 71 [.one (.int .i64 a0), .one (.int .i64 a1)] [] (zq20.sig.ret r) (zq20.sig.bs r) :=
  good_fn tabOk0 mixed0 zq20.sig (zq20.E N) Go.Proofs.Tryz.func71 (by kernel_rfl) (by kernel_rfl) 83 0 0 [(12, [0, 1], [])] 6944 false [] [(false, [.any])] (by kernel_rfl) rfl rfl ((zq20.g.run N a0 a1).trans h)
noncomputable def zq20.ent (N : Nat) : Ent Go.Proofs.Tryz.prog T0 := mkEnt 71 [(false, [.any]), (false, [.any])] zq20.sig (fun t => zq20.g N t.1 t.2) (fun t r h => zq20.good N t.1 t.2 r h)
end Go.Proofs.YtpeleommbipeaaaGreatDoor.M

namespace Go.Proofs.YtpeleommbipeaaaGreatDoor.M
open Go Go.PM Go.Proofs.YtpeleommbipeaaaGreatDoor.P
set_option linter.unusedVariables false
set_option maxRecDepth 100000
/-! ### zq24 -/
abbrev zq24.R : Type := Int × Int
abbrev zq24.sig : Sig := ⟨[(false, 1), (false, 1)], [], [.int .i64, .int .i64], [(true, 2)], [], [.int .i64, .int .i64]⟩
noncomputable def zq24.C : Cfg D0 := ⟨Go.Proofs.Tryz.prog, T0, 211, 0, 24, 0, [], 3589632, false, []⟩
noncomputable def zq24.E (N : Nat) : List (Ent Go.Proofs.Tryz.prog T0) := [zq19.ent N, zq20.ent N]
noncomputable def zq24.O (N : Nat) : Orc D0 zq24.R := orcOf (zq24.E N)
noncomputable def zq24.K0 : Ex → St D0 → Option zq24.R := exitK zq24.C Go.Proofs.Tryz.f41.results.toList [(true, [.any, .any])] (decOut zq24.sig)
noncomputable def zq24.c1 : Code := codeAt (Go.Proofs.Tryz.f41.body.getD .skip) []
noncomputable def zq24.o0 (N : Nat) (a0 : Int) (a1 : Int) : Option zq24.R :=
 (zq19.g N a0 a1).bind fun r1 =>
 (zq20.g N r1.2 a1).bind fun r2 =>
 bif (r2 == 0) then
  none
 else
 bif (r2 == 0) then
  none
 else
 some ((w64 (Int.tdiv r1.2 r2)), (w64 (Int.tdiv a1 r2)))
theorem zq24.o0.run (N : Nat) (a0 : Int) (a1 : Int) : runC zq24.C (zq24.O N) N zq24.c1 1 (st0 [.one (.int .i64 a0), .one (.int .i64 a1)] [] : St D0) zq24.K0 = zq24.o0 N a0 a1 := by kernel_rfl
noncomputable def zq24.g (N : Nat) (a0 : Int) (a1 : Int) : Option zq24.R := zq24.o0 N a0 a1
theorem zq24.g.run (N : Nat) (a0 : Int) (a1 : Int) : runC zq24.C (zq24.O N) N zq24.c1 1 (st0 [.one (.int .i64 a0), .one (.int .i64 a1)] [] : St D0) zq24.K0 = zq24.g N a0 a1 := by
  exact (zq24.o0.run N a0 a1).trans rfl
theorem zq24.good (N : Nat) (a0 : Int) (a1 : Int) (r : zq24.R) (h : zq24.g N a0 a1 = some r) : Go.PM.Good Go.Proofs.Tryz.prog T0 41 [.one (.int .i64 a0), .one (.int .i64 a1)] [] (zq24.sig.ret r) (zq24.sig.bs r) :=
  good_fn tabOk0 mixed0 zq24.sig (zq24.E N) Go.Proofs.Tryz.func41 (by kernel_rfl) (by kernel_rfl) 211 0 0 [] 3589632 false [] [(true, [.any, .any])] (by kernel_rfl) rfl rfl ((zq24.g.run N a0 a1).trans h)
noncomputable def zq24.ent (N : Nat) : Ent Go.Proofs.Tryz.prog T0 := mkEnt 41 [(false, [.any]), (false, [.any])] zq24.sig (fun t => zq24.g N t.1 t.2) (fun t r h => zq24.good N t.1 t.2 r h)
end Go.Proofs.YtpeleommbipeaaaGreatDoor.M

namespace Go.Proofs.YtpeleommbipeaaaGreatDoor.M
open Go Go.PM Go.Proofs.YtpeleommbipeaaaGreatDoor.P
set_option linter.unusedVariables false
set_option maxRecDepth 100000
/-! ### zq16 -/
abbrev zq16.R : Type := List S46 × Bool
abbrev zq16.sig : Sig := ⟨[(true, 2)], [], [.int .i64, .sl false 41], [(false, 1), (false, 1)], [], [.sl true 46, .bool]⟩
noncomputable def zq16.C : Cfg D0 := ⟨Go.Proofs.Tryz.prog, T0, 1999231, 0, 33, 0, [(250, [1, 6, 17, 18, 19], [1])], 16793600, false, []⟩
noncomputable def zq16.E (N : Nat) : List (Ent Go.Proofs.Tryz.prog T0) := [zq17.ent N, zq24.ent N]
noncomputable def zq16.O (N : Nat) : Orc D0 zq16.R := orcOf (zq16.E N)
noncomputable def zq16.K0 : Ex → St D0 → Option zq16.R := exitK zq16.C Go.Proofs.Tryz.f11.results.toList [(false, [.own 46]), (false, [.any])] (decOut zq16.sig)
noncomputable def zq16.c1 : Code := codeAt (Go.Proofs.Tryz.f11.body.getD .skip) []
noncomputable def zq16.c2 : Code := codeAt (Go.Proofs.Tryz.f11.body.getD .skip) [false]
noncomputable def zq16.c6 : Code := codeAt (Go.Proofs.Tryz.f11.body.getD .skip) [true, false]
noncomputable def zq16.c14 : Code := codeAt (Go.Proofs.Tryz.f11.body.getD .skip) [true, true, false]
noncomputable def zq16.c30 : Code := codeAt (Go.Proofs.Tryz.f11.body.getD .skip) [true, true, true, false]
noncomputable def zq16.c63 : Code := codeAt (Go.Proofs.Tryz.f11.body.getD .skip) [true, true, true, true, true]
noncomputable def zq16.c124 : Code := codeAt (Go.Proofs.Tryz.f11.body.getD .skip) [true, true, true, true, false, false]
noncomputable def zq16.c500 : Code := codeAt (Go.Proofs.Tryz.f11.body.getD .skip) [true, true, true, true, false, true, false, false]
noncomputable def zq16.K500 (N : Nat) (Kn250 : St D0 → Option zq16.R) : Ex → St D0 → Option zq16.R := ((fun up => (onN (fun s => zq16.C.tidy 250 s ((onN Kn250 up) .normal)) (onN Kn250 up))) (blockK 0 (onN (fun s => zq16.C.tidy 62 s (fun s' => runC zq16.C (zq16.O N) N zq16.c63 63 s' zq16.K0)) zq16.K0)))
noncomputable def zq16.o1 (N : Nat) (v0 : List S46) (v1 : List Int) (v2 : Int) (v3 : Int) (v4 : Int) (v5 : List S41) (c1 : (List S46) → (List Int) → Int → Int → Int → (List S41) → Option zq16.R) : Option zq16.R :=
 bif (decide (v3 < v2)) then
  bif (decide (0 ≤ v3)) then
   bif (decide (v3 < (v1.length : Int))) then
    (v1[(v3 : Int).toNat]?).bind fun x1 =>
    (zq24.g N x1 (w64 (60 * v4))).bind fun r2 =>
    bif (Nat.blt (v0.length + ([(⟨r2.1, r2.2⟩ : S46)] : List S46).length) 8796093022208) then
     c1 (v0 ++ ([(⟨r2.1, r2.2⟩ : S46)] : List S46)) v1 v2 (w64 (v3 + 1)) v4 v5
    else
    none
   else
   none
  else
  none
 else
 some (v0, true)
theorem zq16.o1.run (N : Nat) (Kn250 : St D0 → Option zq16.R) (v0 : List S46) (v1 : List Int) (v2 : Int) (v3 : Int) (v4 : Int) (v5 : List S41) : runC zq16.C (zq16.O N) N zq16.c500 500 (mkSt [(1, .one (.ptr 1 0)), (6, .one (.sl true 46 v0)), (17, .one (.sl true 3 v1)), (18, .one (.int .i64 v2)), (19, .one (.int .i64 v3))] [(1, some (24, [.int .i64 v4, .sl false 41 v5]))] : St D0) ((fun up => (onN (fun s => zq16.C.tidy 250 s ((onN Kn250 up) .normal)) (onN Kn250 up))) (blockK 0 (onN (fun s => zq16.C.tidy 62 s (fun s' => runC zq16.C (zq16.O N) N zq16.c63 63 s' zq16.K0)) zq16.K0))) = zq16.o1 N v0 v1 v2 v3 v4 v5 ((fun w0 w1 w2 w3 w4 w5 => Kn250 (mkSt [(1, .one (.ptr 1 0)), (6, .one (.sl true 46 w0)), (17, .one (.sl true 3 w1)), (18, .one (.int .i64 w2)), (19, .one (.int .i64 w3))] [(1, some (24, [.int .i64 w4, .sl false 41 w5]))] : St D0))) := by kernel_rfl
noncomputable def zq16.d1 (N : Nat) (v0 : List S46) (v1 : List Int) (v2 : Int) (v3 : Int) (v4 : Int) (v5 : List S41) (c1 : (List S46) → (List Int) → Int → Int → Int → (List S41) → Option zq16.R) : Option zq16.R := zq16.o1 N v0 v1 v2 v3 v4 v5 c1
theorem zq16.d1.run (N : Nat) (Kn250 : St D0 → Option zq16.R) (v0 : List S46) (v1 : List Int) (v2 : Int) (v3 : Int) (v4 : Int) (v5 : List S41) : runC zq16.C (zq16.O N) N zq16.c500 500 (mkSt [(1, .one (.ptr 1 0)), (6, .one (.sl true 46 v0)), (17, .one (.sl true 3 v1)), (18, .one (.int .i64 v2)), (19, .one (.int .i64 v3))] [(1, some (24, [.int .i64 v4, .sl false 41 v5]))] : St D0) (zq16.K500 N Kn250) = zq16.d1 N v0 v1 v2 v3 v4 v5 ((fun w0 w1 w2 w3 w4 w5 => Kn250 (mkSt [(1, .one (.ptr 1 0)), (6, .one (.sl true 46 w0)), (17, .one (.sl true 3 w1)), (18, .one (.int .i64 w2)), (19, .one (.int .i64 w3))] [(1, some (24, [.int .i64 w4, .sl false 41 w5]))] : St D0))) := by
  exact (zq16.o1.run N Kn250 v0 v1 v2 v3 v4 v5).trans rfl
noncomputable def zq16.K250 (N : Nat) : Ex → St D0 → Option zq16.R := (blockK 0 (onN (fun s => zq16.C.tidy 62 s (fun s' => runC zq16.C (zq16.O N) N zq16.c63 63 s' zq16.K0)) zq16.K0))
noncomputable def zq16.l1 (N : Nat) : Nat → (List S46) → (List Int) → Int → Int → Int → (List S41) → Option zq16.R
  | 0, _, _, _, _, _, _ => none
  | n + 1, v0, v1, v2, v3, v4, v5 => zq16.d1 N v0 v1 v2 v3 v4 v5 ((fun w0 w1 w2 w3 w4 w5 => zq16.l1 N n w0 w1 w2 w3 w4 w5))
theorem zq16.loop250 (N : Nat) : ∀ n, (∀ (v0 : List S46) (v1 : List Int) (v2 : Int) (v3 : Int) (v4 : Int) (v5 : List S41), iter (loopF zq16.C (zq16.O N) N zq16.c500 250) n (mkSt [(1, .one (.ptr 1 0)), (6, .one (.sl true 46 v0)), (17, .one (.sl true 3 v1)), (18, .one (.int .i64 v2)), (19, .one (.int .i64 v3))] [(1, some (24, [.int .i64 v4, .sl false 41 v5]))] : St D0) (zq16.K250 N) = zq16.l1 N n v0 v1 v2 v3 v4 v5)
  | 0 => (fun v0 v1 v2 v3 v4 v5 => rfl)
  | n + 1 => (fun v0 v1 v2 v3 v4 v5 => (zq16.d1.run N (fun s => iter (loopF zq16.C (zq16.O N) N zq16.c500 250) n s (zq16.K250 N)) v0 v1 v2 v3 v4 v5).trans (show _ = zq16.d1 N v0 v1 v2 v3 v4 v5 ((fun w0 w1 w2 w3 w4 w5 => zq16.l1 N n w0 w1 w2 w3 w4 w5)) from (congr rfl (funext fun w0 => funext fun w1 => funext fun w2 => funext fun w3 => funext fun w4 => funext fun w5 => (zq16.loop250 N n) w0 w1 w2 w3 w4 w5))))
noncomputable def zq16.o0 (N : Nat) (a0_0 : Int) (a0_1 : List S41) (c1 : (List S46) → (List Int) → Int → Int → Int → (List S41) → Option zq16.R) : Option zq16.R :=
 (zq17.g N a0_0 a0_1).bind fun r1 =>
 bif (!r1.2) then
  some (([] : List S46), false)
 else
 c1 ([] : List S46) r1.1 (r1.1.length : Int) 0 a0_0 a0_1
theorem zq16.o0.run (N : Nat) (H500 : Code) (a0_0 : Int) (a0_1 : List S41) : runC zq16.C (zq16.O N) N (.seq zq16.c2 (.seq zq16.c6 (.seq zq16.c14 (.seq zq16.c30 (.seq (.seq zq16.c124 (.block 0 (.loop H500))) zq16.c63))))) 1 (st0 [.agg [.int .i64 a0_0, .sl false 41 a0_1]] [] : St D0) zq16.K0 = zq16.o0 N a0_0 a0_1 ((fun w0 w1 w2 w3 w4 w5 => iter (loopF zq16.C (zq16.O N) N H500 250) N (mkSt [(1, .one (.ptr 1 0)), (6, .one (.sl true 46 w0)), (17, .one (.sl true 3 w1)), (18, .one (.int .i64 w2)), (19, .one (.int .i64 w3))] [(1, some (24, [.int .i64 w4, .sl false 41 w5]))] : St D0) (blockK 0 (onN (fun s => zq16.C.tidy 62 s (fun s' => runC zq16.C (zq16.O N) N zq16.c63 63 s' zq16.K0)) zq16.K0)))) := by kernel_rfl
noncomputable def zq16.g (N : Nat) (a0_0 : Int) (a0_1 : List S41) : Option zq16.R := zq16.o0 N a0_0 a0_1 ((fun w0 w1 w2 w3 w4 w5 => zq16.l1 N N w0 w1 w2 w3 w4 w5))
theorem zq16.c1_0 : zq16.c1 = (.seq zq16.c2 (.seq zq16.c6 (.seq zq16.c14 (.seq zq16.c30 (.seq (.seq zq16.c124 (.block 0 (.loop zq16.c500))) zq16.c63))))) := by kernel_rfl
theorem zq16.g.run (N : Nat) (a0_0 : Int) (a0_1 : List S41) : runC zq16.C (zq16.O N) N zq16.c1 1 (st0 [.agg [.int .i64 a0_0, .sl false 41 a0_1]] [] : St D0) zq16.K0 = zq16.g N a0_0 a0_1 := by
  rw [zq16.c1_0]; unfold zq16.g; exact (zq16.o0.run N zq16.c500 a0_0 a0_1).trans (congr rfl (funext fun w0 => funext fun w1 => funext fun w2 => funext fun w3 => funext fun w4 => funext fun w5 => (zq16.loop250 N N) w0 w1 w2 w3 w4 w5))
theorem zq16.good (N : Nat) (a0_0 : Int) (a0_1 : List S41) (r : zq16.R) (h : zq16.g N a0_0 a0_1 = some r) : Go.PM.Good Go.Proofs.Tryz.prog T0 11 [.agg [.int .i64 a0_0, .sl false 41 a0_1]] [] (zq16.sig.ret r) (zq16.sig.bs r) :=
  good_fn tabOk0 mixed0 zq16.sig (zq16.E N) Go.Proofs.Tryz.func11 (by kernel_rfl) (by kernel_rfl) 1999231 0 0 [(250, [1, 6, 17, 18, 19], [1])] 16793600 false [] [(false, [.own 46]), (false, [.any])] (by kernel_rfl) rfl rfl ((zq16.g.run N a0_0 a0_1).trans h)
noncomputable def zq16.ent (N : Nat) : Ent Go.Proofs.Tryz.prog T0 := mkEnt 11 [(true, [.any, .ro 41])] zq16.sig (fun t => zq16.g N t.1 t.2) (fun t r h => zq16.good N t.1 t.2 r h)
end Go.Proofs.YtpeleommbipeaaaGreatDoor.M

namespace Go.Proofs.YtpeleommbipeaaaGreatDoor.M
open Go Go.PM Go.Proofs.YtpeleommbipeaaaGreatDoor.P
set_option linter.unusedVariables false
set_option maxRecDepth 100000
/-! ### zq54 -/
abbrev zq54.R : Type := Int
abbrev zq54.sig : Sig := ⟨[(false, 1), (false, 1)], [], [.int .i64, .int .i64], [(false, 1)], [], [.int .i64]⟩
noncomputable def zq54.C : Cfg D0 := ⟨Go.Proofs.Tryz.prog, T0, 83, 0, 12, 0, [(12, [0, 1], [])], 800, false, []⟩
noncomputable def zq54.E (N : Nat) : List (Ent Go.Proofs.Tryz.prog T0) := []
noncomputable def zq54.O (N : Nat) : Orc D0 zq54.R := orcOf (zq54.E N)
noncomputable def zq54.K0 : Ex → St D0 → Option zq54.R := exitK zq54.C Go.Proofs.Tryz.f93.results.toList [(false, [.any])] (decOut zq54.sig)
noncomputable def zq54.c1 : Code := codeAt (Go.Proofs.Tryz.f93.body.getD .skip) []
noncomputable def zq54.c2 : Code := codeAt (Go.Proofs.Tryz.f93.body.getD .skip) [false]
noncomputable def zq54.c7 : Code := codeAt (Go.Proofs.Tryz.f93.body.getD .skip) [true, true]
noncomputable def zq54.c24 : Code := codeAt (Go.Proofs.Tryz.f93.body.getD .skip) [true, false, false, false]
noncomputable def zq54.K24 (N : Nat) (Kn12 : St D0 → Option zq54.R) : Ex → St D0 → Option zq54.R := ((fun up => (onN (fun s => zq54.C.tidy 12 s ((onN Kn12 up) .normal)) (onN Kn12 up))) (blockK 0 (onN (fun s => zq54.C.tidy 6 s (fun s' => runC zq54.C (zq54.O N) N zq54.c7 7 s' zq54.K0)) zq54.K0)))
noncomputable def zq54.o1 (N : Nat) (v0 : Int) (v1 : Int) (c1 : Int → Int → Option zq54.R) : Option zq54.R :=
 bif (decide (v1 > 0)) then
  bif (v1 == 0) then
   none
  else
  c1 v1 (Int.tmod v0 v1)
 else
 some (v0)
theorem zq54.o1.run (N : Nat) (Kn12 : St D0 → Option zq54.R) (v0 : Int) (v1 : Int) : runC zq54.C (zq54.O N) N zq54.c24 24 (mkSt [(0, .one (.int .i64 v0)), (1, .one (.int .i64 v1))] [] : St D0) ((fun up => (onN (fun s => zq54.C.tidy 12 s ((onN Kn12 up) .normal)) (onN Kn12 up))) (blockK 0 (onN (fun s => zq54.C.tidy 6 s (fun s' => runC zq54.C (zq54.O N) N zq54.c7 7 s' zq54.K0)) zq54.K0))) = zq54.o1 N v0 v1 ((fun w0 w1 => Kn12 (mkSt [(0, .one (.int .i64 w0)), (1, .one (.int .i64 w1))] [] : St D0))) := by kernel_rfl
noncomputable def zq54.d1 (N : Nat) (v0 : Int) (v1 : Int) (c1 : Int → Int → Option zq54.R) : Option zq54.R := zq54.o1 N v0 v1 c1
theorem zq54.d1.run (N : Nat) (Kn12 : St D0 → Option zq54.R) (v0 : Int) (v1 : Int) : runC zq54.C (zq54.O N) N zq54.c24 24 (mkSt [(0, .one (.int .i64 v0)), (1, .one (.int .i64 v1))] [] : St D0) (zq54.K24 N Kn12) = zq54.d1 N v0 v1 ((fun w0 w1 => Kn12 (mkSt [(0, .one (.int .i64 w0)), (1, .one (.int .i64 w1))] [] : St D0))) := by
  exact (zq54.o1.run N Kn12 v0 v1).trans rfl
noncomputable def zq54.K12 (N : Nat) : Ex → St D0 → Option zq54.R := (blockK 0 (onN (fun s => zq54.C.tidy 6 s (fun s' => runC zq54.C (zq54.O N) N zq54.c7 7 s' zq54.K0)) zq54.K0))
noncomputable def zq54.l1 (N : Nat) : Nat → Int → Int → Option zq54.R
  | 0, _, _ => none
  | n + 1, v0, v1 => zq54.d1 N v0 v1 ((fun w0 w1 => zq54.l1 N n w0 w1))
theorem zq54.loop12 (N : Nat) : ∀ n, (∀ (v0 : Int) (v1 : Int), iter (loopF zq54.C (zq54.O N) N zq54.c24 12) n (mkSt [(0, .one (.int .i64 v0)), (1, .one (.int .i64 v1))] [] : St D0) (zq54.K12 N) = zq54.l1 N n v0 v1)
  | 0 => (fun v0 v1 => rfl)
  | n + 1 => (fun v0 v1 => (zq54.d1.run N (fun s => iter (loopF zq54.C (zq54.O N) N zq54.c24 12) n s (zq54.K12 N)) v0 v1).trans (show _ = zq54.d1 N v0 v1 ((fun w0 w1 => zq54.l1 N n w0 w1)) from (congr rfl (funext fun w0 => funext fun w1 => (zq54.loop12 N n) w0 w1))))
noncomputable def zq54.o0 (N : Nat) (a0 : Int) (a1 : Int) (c1 : Int → Int → Option zq54.R) : Option zq54.R :=
 c1 a0 a1
theorem zq54.o0.run (N : Nat) (H24 : Code) (a0 : Int) (a1 : Int) : runC zq54.C (zq54.O N) N (.seq zq54.c2 (.seq (.block 0 (.loop H24)) zq54.c7)) 1 (st0 [.one (.int .i64 a0), .one (.int .i64 a1)] [] : St D0) zq54.K0 = zq54.o0 N a0 a1 ((fun w0 w1 => iter (loopF zq54.C (zq54.O N) N H24 12) N (mkSt [(0, .one (.int .i64 w0)), (1, .one (.int .i64 w1))] [] : St D0) (blockK 0 (onN (fun s => zq54.C.tidy 6 s (fun s' => runC zq54.C (zq54.O N) N zq54.c7 7 s' zq54.K0)) zq54.K0)))) := by kernel_rfl
noncomputable def zq54.g (N : Nat) (a0 : Int) (a1 : Int) : Option zq54.R := zq54.o0 N a0 a1 ((fun w0 w1 => zq54.l1 N N w0 w1))
theorem zq54.c1_0 : zq54.c1 = (.seq zq54.c2 (.seq (.block 0 (.loop zq54.c24)) zq54.c7)) := by kernel_rfl
theorem zq54.g.run (N : Nat) (a0 : Int) (a1 : Int) : runC zq54.C (zq54.O N) N zq54.c1 1 (st0 [.one (.int .i64 a0), .one (.int .i64 a1)] [] : St D0) zq54.K0 = zq54.g N a0 a1 := by
  rw [zq54.c1_0]; unfold zq54.g; exact (zq54.o0.run N zq54.c24 a0 a1).trans (congr rfl (funext fun w0 => funext fun w1 => (zq54.loop12 N N) w0 w1))
theorem zq54.good (N : Nat) (a0 : Int) (a1 : Int) (r : zq54.R) (h : zq54.g N a0 a1 = some r) : Go.PM.Good Go.Proofs.Tryz.prog T0 93 [.one (.int .i64 a0), .one (.int .i64 a1)] [] (zq54.sig.ret r) (zq54.sig.bs r) :=
  good_fn tabOk0 mixed0 zq54.sig (zq54.E N) Go.Proofs.Tryz.func93 (by kernel_rfl) (by kernel_rfl) 83 0 0 [(12, [0, 1], [])] 800 false [] [(false, [.any])] (by kernel_rfl) rfl rfl ((zq54.g.run N a0 a1).trans h)
noncomputable def zq54.ent (N : Nat) : Ent Go.Proofs.Tryz.prog T0 := mkEnt 93 [(false, [.any]), (false, [.any])] zq54.sig (fun t => zq54.g N t.1 t.2) (fun t r h => zq54.good N t.1 t.2 r h)
end Go.Proofs.YtpeleommbipeaaaGreatDoor.M

namespace Go.Proofs.YtpeleommbipeaaaGreatDoor.M
open Go Go.PM Go.Proofs.YtpeleommbipeaaaGreatDoor.P
set_option linter.unusedVariables false
set_option maxRecDepth 100000
/-! ### zq56 -/
abbrev zq56.R : Type := Int × Int × Bool
abbrev zq56.sig : Sig := ⟨[(false, 1), (false, 1)], [], [.int .i64, .int .i64], [(true, 2), (false, 1)], [], [.int .i64, .int .i64, .bool]⟩
noncomputable def zq56.C : Cfg D0 := ⟨Go.Proofs.Tryz.prog, T0, 134217971, 0, 30, 0, [], 7187200, false, []⟩
noncomputable def zq56.E (N : Nat) : List (Ent Go.Proofs.Tryz.prog T0) := [zq54.ent N]
noncomputable def zq56.O (N : Nat) : Orc D0 zq56.R := orcOf (zq56.E N)
noncomputable def zq56.K0 : Ex → St D0 → Option zq56.R := exitK zq56.C Go.Proofs.Tryz.f72.results.toList [(true, [.any, .any]), (false, [.any])] (decOut zq56.sig)
noncomputable def zq56.c1 : Code := codeAt (Go.Proofs.Tryz.f72.body.getD .skip) []
noncomputable def zq56.o0 (N : Nat) (a0 : Int) (a1 : Int) : Option zq56.R :=
 bif (a1 == 0) then
  none
 else
 bif (a1 == 0) then
  none
 else
 (zq54.g N (Int.tmod (w64 ((Int.tmod a0 a1) + a1)) a1) a1).bind fun r1 =>
 bif (r1 == 0) then
  none
 else
 bif (r1 == 0) then
  none
 else
 bif (decide ((w64 (Int.tdiv a1 r1)) > 1000000)) then
  some (0, 0, false)
 else
 some ((w64 (Int.tdiv (Int.tmod (w64 ((Int.tmod a0 a1) + a1)) a1) r1)), (w64 (Int.tdiv a1 r1)), true)
theorem zq56.o0.run (N : Nat) (a0 : Int) (a1 : Int) : runC zq56.C (zq56.O N) N zq56.c1 1 (st0 [.one (.int .i64 a0), .one (.int .i64 a1)] [] : St D0) zq56.K0 = zq56.o0 N a0 a1 := by kernel_rfl
noncomputable def zq56.g (N : Nat) (a0 : Int) (a1 : Int) : Option zq56.R := zq56.o0 N a0 a1
theorem zq56.g.run (N : Nat) (a0 : Int) (a1 : Int) : runC zq56.C (zq56.O N) N zq56.c1 1 (st0 [.one (.int .i64 a0), .one (.int .i64 a1)] [] : St D0) zq56.K0 = zq56.g N a0 a1 := by
  exact (zq56.o0.run N a0 a1).trans rfl
theorem zq56.good (N : Nat) (a0 : Int) (a1 : Int) (r : zq56.R) (h : zq56.g N a0 a1 = some r) : Go.PM.Good Go.Proofs.Tryz.prog T0 72 [.one (.int .i64 a0), .one (.int .i64 a1)] [] (zq56.sig.ret r) (zq56.sig.bs r) :=
  good_fn tabOk0 mixed0 zq56.sig (zq56.E N) Go.Proofs.Tryz.func72 (by kernel_rfl) (by kernel_rfl) 134217971 0 0 [] 7187200 false [] [(true, [.any, .any]), (false, [.any])] (by kernel_rfl) rfl rfl ((zq56.g.run N a0 a1).trans h)
noncomputable def zq56.ent (N : Nat) : Ent Go.Proofs.Tryz.prog T0 := mkEnt 72 [(false, [.any]), (false, [.any])] zq56.sig (fun t => zq56.g N t.1 t.2) (fun t r h => zq56.good N t.1 t.2 r h)
end Go.Proofs.YtpeleommbipeaaaGreatDoor.M

namespace Go.Proofs.YtpeleommbipeaaaGreatDoor.M
open Go Go.PM Go.Proofs.YtpeleommbipeaaaGreatDoor.P
set_option linter.unusedVariables false
set_option maxRecDepth 100000
/-! ### zq57 -/
abbrev zq57.R : Type := Int × Int
abbrev zq57.sig : Sig := ⟨[(false, 1), (false, 1), (false, 1), (false, 1)], [], [.int .i64, .int .i64, .int .i64, .int .i64], [(true, 2)], [], [.int .i64, .int .i64]⟩
noncomputable def zq57.C : Cfg D0 := ⟨Go.Proofs.Tryz.prog, T0, 783, 0, 25, 0, [], 675840, false, []⟩
noncomputable def zq57.E (N : Nat) : List (Ent Go.Proofs.Tryz.prog T0) := [zq56.ent N]
noncomputable def zq57.O (N : Nat) : Orc D0 zq57.R := orcOf (zq57.E N)
noncomputable def zq57.K0 : Ex → St D0 → Option zq57.R := exitK zq57.C Go.Proofs.Tryz.f42.results.toList [(true, [.any, .any])] (decOut zq57.sig)
noncomputable def zq57.c1 : Code := codeAt (Go.Proofs.Tryz.f42.body.getD .skip) []
noncomputable def zq57.o0 (N : Nat) (a0 : Int) (a1 : Int) (a2 : Int) (a3 : Int) : Option zq57.R :=
 (zq56.g N (w64 ((w64 ((w64 ((w64 (a1 * 60)) + a2)) * 60)) + a3)) (w64 (a0 * 3600))).bind fun r1 =>
 some (r1.1, r1.2.1)
theorem zq57.o0.run (N : Nat) (a0 : Int) (a1 : Int) (a2 : Int) (a3 : Int) : runC zq57.C (zq57.O N) N zq57.c1 1 (st0 [.one (.int .i64 a0), .one (.int .i64 a1), .one (.int .i64 a2), .one (.int .i64 a3)] [] : St D0) zq57.K0 = zq57.o0 N a0 a1 a2 a3 := by kernel_rfl
noncomputable def zq57.g (N : Nat) (a0 : Int) (a1 : Int) (a2 : Int) (a3 : Int) : Option zq57.R := zq57.o0 N a0 a1 a2 a3
theorem zq57.g.run (N : Nat) (a0 : Int) (a1 : Int) (a2 : Int) (a3 : Int) : runC zq57.C (zq57.O N) N zq57.c1 1 (st0 [.one (.int .i64 a0), .one (.int .i64 a1), .one (.int .i64 a2), .one (.int .i64 a3)] [] : St D0) zq57.K0 = zq57.g N a0 a1 a2 a3 := by
  exact (zq57.o0.run N a0 a1 a2 a3).trans rfl
theorem zq57.good (N : Nat) (a0 : Int) (a1 : Int) (a2 : Int) (a3 : Int) (r : zq57.R) (h : zq57.g N a0 a1 a2 a3 = some r) : Go.PM.Good Go.Proofs.Tryz.prog T0 42 [.one (.int .i64 a0), .one (.int .i64 a1), .one (.int .i64 a2), .one (.int .i64 a3)] [] (zq57.sig.ret r) (zq57.sig.bs r) :=
  good_fn tabOk0 mixed0 zq57.sig (zq57.E N) Go.Proofs.Tryz.func42 (by kernel_rfl) (by kernel_rfl) 783 0 0 [] 675840 false [] [(true, [.any, .any])] (by kernel_rfl) rfl rfl ((zq57.g.run N a0 a1 a2 a3).trans h)
noncomputable def zq57.ent (N : Nat) : Ent Go.Proofs.Tryz.prog T0 := mkEnt 42 [(false, [.any]), (false, [.any]), (false, [.any]), (false, [.any])] zq57.sig (fun t => zq57.g N t.1 t.2.1 t.2.2.1 t.2.2.2) (fun t r h => zq57.good N t.1 t.2.1 t.2.2.1 t.2.2.2 r h)
end Go.Proofs.YtpeleommbipeaaaGreatDoor.M

namespace Go.Proofs.YtpeleommbipeaaaGreatDoor.M
open Go Go.PM Go.Proofs.YtpeleommbipeaaaGreatDoor.P
set_option linter.unusedVariables false
set_option maxRecDepth 100000
/-! ### zq52 -/
abbrev zq52.R : Type := List S46 × Bool
abbrev zq52.sig : Sig := ⟨[(true, 2)], [], [.int .i64, .sl false 41], [(false, 1), (false, 1)], [], [.sl true 46, .bool]⟩
noncomputable def zq52.C : Cfg D0 := ⟨Go.Proofs.Tryz.prog, T0, 246367, 0, 32, 0, [(122, [1, 4, 14, 15, 16], [1])], 41943040, false, []⟩
noncomputable def zq52.E (N : Nat) : List (Ent Go.Proofs.Tryz.prog T0) := [zq76.ent N, zq73.ent N, zq57.ent N]
noncomputable def zq52.O (N : Nat) : Orc D0 zq52.R := orcOf (zq52.E N)
noncomputable def zq52.K0 : Ex → St D0 → Option zq52.R := exitK zq52.C Go.Proofs.Tryz.f12.results.toList [(false, [.own 46]), (false, [.any])] (decOut zq52.sig)
noncomputable def zq52.c1 : Code := codeAt (Go.Proofs.Tryz.f12.body.getD .skip) []
noncomputable def zq52.c2 : Code := codeAt (Go.Proofs.Tryz.f12.body.getD .skip) [false]
noncomputable def zq52.c6 : Code := codeAt (Go.Proofs.Tryz.f12.body.getD .skip) [true, false]
noncomputable def zq52.c14 : Code := codeAt (Go.Proofs.Tryz.f12.body.getD .skip) [true, true, false]
noncomputable def zq52.c31 : Code := codeAt (Go.Proofs.Tryz.f12.body.getD .skip) [true, true, true, true]
noncomputable def zq52.c60 : Code := codeAt (Go.Proofs.Tryz.f12.body.getD .skip) [true, true, true, false, false]
noncomputable def zq52.c244 : Code := codeAt (Go.Proofs.Tryz.f12.body.getD .skip) [true, true, true, false, true, false, false]
noncomputable def zq52.K244 (N : Nat) (Kn122 : St D0 → Option zq52.R) : Ex → St D0 → Option zq52.R := ((fun up => (onN (fun s => zq52.C.tidy 122 s ((onN Kn122 up) .normal)) (onN Kn122 up))) (blockK 0 (onN (fun s => zq52.C.tidy 30 s (fun s' => runC zq52.C (zq52.O N) N zq52.c31 31 s' zq52.K0)) zq52.K0)))
noncomputable def zq52.o1 (N : Nat) (v0 : List Int) (v1 : Int) (v2 : Int) (v3 : Int) (v4 : List S41) (c2 : (List S46) → (List Int) → Int → Int → Int → (List S41) → Option zq52.R) : Option zq52.R :=
 bif (decide (v2 < v1)) then
  bif (decide (0 ≤ v2)) then
   bif (decide (v2 < (v0.length : Int))) then
    (v0[(v2 : Int).toNat]?).bind fun x1 =>
    (zq57.g N v3 (w64 (Int.tdiv x1 60)) (Int.tmod x1 60) 0).bind fun r2 =>
    bif (Nat.blt (([] : List S46).length + ([(⟨r2.1, r2.2⟩ : S46)] : List S46).length) 8796093022208) then
     c2 (([] : List S46) ++ ([(⟨r2.1, r2.2⟩ : S46)] : List S46)) v0 v1 (w64 (v2 + 1)) v3 v4
    else
    none
   else
   none
  else
  none
 else
 some (([] : List S46), true)
theorem zq52.o1.run (N : Nat) (Kn122 : St D0 → Option zq52.R) (v0 : List Int) (v1 : Int) (v2 : Int) (v3 : Int) (v4 : List S41) : runC zq52.C (zq52.O N) N zq52.c244 244 (mkSt [(1, .one (.ptr 1 0)), (4, .one (.nl)), (14, .one (.sl true 3 v0)), (15, .one (.int .i64 v1)), (16, .one (.int .i64 v2))] [(1, some (24, [.int .i64 v3, .sl false 41 v4]))] : St D0) ((fun up => (onN (fun s => zq52.C.tidy 122 s ((onN Kn122 up) .normal)) (onN Kn122 up))) (blockK 0 (onN (fun s => zq52.C.tidy 30 s (fun s' => runC zq52.C (zq52.O N) N zq52.c31 31 s' zq52.K0)) zq52.K0))) = zq52.o1 N v0 v1 v2 v3 v4 ((fun w0 w1 w2 w3 w4 w5 => Kn122 (mkSt [(1, .one (.ptr 1 0)), (4, .one (.sl true 46 w0)), (14, .one (.sl true 3 w1)), (15, .one (.int .i64 w2)), (16, .one (.int .i64 w3))] [(1, some (24, [.int .i64 w4, .sl false 41 w5]))] : St D0))) := by kernel_rfl
noncomputable def zq52.d1 (N : Nat) (v0 : List Int) (v1 : Int) (v2 : Int) (v3 : Int) (v4 : List S41) (c2 : (List S46) → (List Int) → Int → Int → Int → (List S41) → Option zq52.R) : Option zq52.R := zq52.o1 N v0 v1 v2 v3 v4 c2
theorem zq52.d1.run (N : Nat) (Kn122 : St D0 → Option zq52.R) (v0 : List Int) (v1 : Int) (v2 : Int) (v3 : Int) (v4 : List S41) : runC zq52.C (zq52.O N) N zq52.c244 244 (mkSt [(1, .one (.ptr 1 0)), (4, .one (.nl)), (14, .one (.sl true 3 v0)), (15, .one (.int .i64 v1)), (16, .one (.int .i64 v2))] [(1, some (24, [.int .i64 v3, .sl false 41 v4]))] : St D0) (zq52.K244 N Kn122) = zq52.d1 N v0 v1 v2 v3 v4 ((fun w0 w1 w2 w3 w4 w5 => Kn122 (mkSt [(1, .one (.ptr 1 0)), (4, .one (.sl true 46 w0)), (14, .one (.sl true 3 w1)), (15, .one (.int .i64 w2)), (16, .one (.int .i64 w3))] [(1, some (24, [.int .i64 w4, .sl false 41 w5]))] : St D0))) := by
  exact (zq52.o1.run N Kn122 v0 v1 v2 v3 v4).trans rfl
noncomputable def zq52.o2 (N : Nat) (v0 : List S46) (v1 : List Int) (v2 : Int) (v3 : Int) (v4 : Int) (v5 : List S41) (c2 : (List S46) → (List Int) → Int → Int → Int → (List S41) → Option zq52.R) : Option zq52.R :=
 bif (decide (v3 < v2)) then
  bif (decide (0 ≤ v3)) then
   bif (decide (v3 < (v1.length : Int))) then
    (v1[(v3 : Int).toNat]?).bind fun x1 =>
    (zq57.g N v4 (w64 (Int.tdiv x1 60)) (Int.tmod x1 60) 0).bind fun r2 =>
    bif (Nat.blt (v0.length + ([(⟨r2.1, r2.2⟩ : S46)] : List S46).length) 8796093022208) then
     c2 (v0 ++ ([(⟨r2.1, r2.2⟩ : S46)] : List S46)) v1 v2 (w64 (v3 + 1)) v4 v5
    else
    none
   else
   none
  else
  none
 else
 some (v0, true)
theorem zq52.o2.run (N : Nat) (Kn122 : St D0 → Option zq52.R) (v0 : List S46) (v1 : List Int) (v2 : Int) (v3 : Int) (v4 : Int) (v5 : List S41) : runC zq52.C (zq52.O N) N zq52.c244 244 (mkSt [(1, .one (.ptr 1 0)), (4, .one (.sl true 46 v0)), (14, .one (.sl true 3 v1)), (15, .one (.int .i64 v2)), (16, .one (.int .i64 v3))] [(1, some (24, [.int .i64 v4, .sl false 41 v5]))] : St D0) ((fun up => (onN (fun s => zq52.C.tidy 122 s ((onN Kn122 up) .normal)) (onN Kn122 up))) (blockK 0 (onN (fun s => zq52.C.tidy 30 s (fun s' => runC zq52.C (zq52.O N) N zq52.c31 31 s' zq52.K0)) zq52.K0))) = zq52.o2 N v0 v1 v2 v3 v4 v5 ((fun w0 w1 w2 w3 w4 w5 => Kn122 (mkSt [(1, .one (.ptr 1 0)), (4, .one (.sl true 46 w0)), (14, .one (.sl true 3 w1)), (15, .one (.int .i64 w2)), (16, .one (.int .i64 w3))] [(1, some (24, [.int .i64 w4, .sl false 41 w5]))] : St D0))) := by kernel_rfl
noncomputable def zq52.d2 (N : Nat) (v0 : List S46) (v1 : List Int) (v2 : Int) (v3 : Int) (v4 : Int) (v5 : List S41) (c2 : (List S46) → (List Int) → Int → Int → Int → (List S41) → Option zq52.R) : Option zq52.R := zq52.o2 N v0 v1 v2 v3 v4 v5 c2
theorem zq52.d2.run (N : Nat) (Kn122 : St D0 → Option zq52.R) (v0 : List S46) (v1 : List Int) (v2 : Int) (v3 : Int) (v4 : Int) (v5 : List S41) : runC zq52.C (zq52.O N) N zq52.c244 244 (mkSt [(1, .one (.ptr 1 0)), (4, .one (.sl true 46 v0)), (14, .one (.sl true 3 v1)), (15, .one (.int .i64 v2)), (16, .one (.int .i64 v3))] [(1, some (24, [.int .i64 v4, .sl false 41 v5]))] : St D0) (zq52.K244 N Kn122) = zq52.d2 N v0 v1 v2 v3 v4 v5 ((fun w0 w1 w2 w3 w4 w5 => Kn122 (mkSt [(1, .one (.ptr 1 0)), (4, .one (.sl true 46 w0)), (14, .one (.sl true 3 w1)), (15, .one (.int .i64 w2)), (16, .one (.int .i64 w3))] [(1, some (24, [.int .i64 w4, .sl false 41 w5]))] : St D0))) := by
  exact (zq52.o2.run N Kn122 v0 v1 v2 v3 v4 v5).trans rfl
noncomputable def zq52.K122 (N : Nat) : Ex → St D0 → Option zq52.R := (blockK 0 (onN (fun s => zq52.C.tidy 30 s (fun s' => runC zq52.C (zq52.O N) N zq52.c31 31 s' zq52.K0)) zq52.K0))
mutual
noncomputable def zq52.l1 (N : Nat) : Nat → (List Int) → Int → Int → Int → (List S41) → Option zq52.R
  | 0, _, _, _, _, _ => none
  | n + 1, v0, v1, v2, v3, v4 => zq52.d1 N v0 v1 v2 v3 v4 ((fun w0 w1 w2 w3 w4 w5 => zq52.l2 N n w0 w1 w2 w3 w4 w5))
noncomputable def zq52.l2 (N : Nat) : Nat → (List S46) → (List Int) → Int → Int → Int → (List S41) → Option zq52.R
  | 0, _, _, _, _, _, _ => none
  | n + 1, v0, v1, v2, v3, v4, v5 => zq52.d2 N v0 v1 v2 v3 v4 v5 ((fun w0 w1 w2 w3 w4 w5 => zq52.l2 N n w0 w1 w2 w3 w4 w5))
end
theorem zq52.loop122 (N : Nat) : ∀ n, (∀ (v0 : List Int) (v1 : Int) (v2 : Int) (v3 : Int) (v4 : List S41), iter (loopF zq52.C (zq52.O N) N zq52.c244 122) n (mkSt [(1, .one (.ptr 1 0)), (4, .one (.nl)), (14, .one (.sl true 3 v0)), (15, .one (.int .i64 v1)), (16, .one (.int .i64 v2))] [(1, some (24, [.int .i64 v3, .sl false 41 v4]))] : St D0) (zq52.K122 N) = zq52.l1 N n v0 v1 v2 v3 v4) ∧ (∀ (v0 : List S46) (v1 : List Int) (v2 : Int) (v3 : Int) (v4 : Int) (v5 : List S41), iter (loopF zq52.C (zq52.O N) N zq52.c244 122) n (mkSt [(1, .one (.ptr 1 0)), (4, .one (.sl true 46 v0)), (14, .one (.sl true 3 v1)), (15, .one (.int .i64 v2)), (16, .one (.int .i64 v3))] [(1, some (24, [.int .i64 v4, .sl false 41 v5]))] : St D0) (zq52.K122 N) = zq52.l2 N n v0 v1 v2 v3 v4 v5)
  | 0 => ⟨(fun v0 v1 v2 v3 v4 => rfl), (fun v0 v1 v2 v3 v4 v5 => rfl)⟩
  | n + 1 => ⟨(fun v0 v1 v2 v3 v4 => (zq52.d1.run N (fun s => iter (loopF zq52.C (zq52.O N) N zq52.c244 122) n s (zq52.K122 N)) v0 v1 v2 v3 v4).trans (show _ = zq52.d1 N v0 v1 v2 v3 v4 ((fun w0 w1 w2 w3 w4 w5 => zq52.l2 N n w0 w1 w2 w3 w4 w5)) from (congr rfl (funext fun w0 => funext fun w1 => funext fun w2 => funext fun w3 => funext fun w4 => funext fun w5 => (zq52.loop122 N n).2 w0 w1 w2 w3 w4 w5)))), (fun v0 v1 v2 v3 v4 v5 => (zq52.d2.run N (fun s => iter (loopF zq52.C (zq52.O N) N zq52.c244 122) n s (zq52.K122 N)) v0 v1 v2 v3 v4 v5).trans (show _ = zq52.d2 N v0 v1 v2 v3 v4 v5 ((fun w0 w1 w2 w3 w4 w5 => zq52.l2 N n w0 w1 w2 w3 w4 w5)) from (congr rfl (funext fun w0 => funext fun w1 => funext fun w2 => funext fun w3 => funext fun w4 => funext fun w5 => (zq52.loop122 N n).2 w0 w1 w2 w3 w4 w5))))⟩
noncomputable def zq52.o0 (N : Nat) (a0_0 : Int) (a0_1 : List S41) (c1 : (List Int) → Int → Int → Int → (List S41) → Option zq52.R) : Option zq52.R :=
 (zq76.g N a0_0 a0_1).bind fun r1 =>
 bif (!r1) then
  some (([] : List S46), false)
 else
 (zq73.g N a0_0 a0_1).bind fun r2 =>
 c1 r2 (r2.length : Int) 0 a0_0 a0_1
theorem zq52.o0.run (N : Nat) (H244 : Code) (a0_0 : Int) (a0_1 : List S41) : runC zq52.C (zq52.O N) N (.seq zq52.c2 (.seq zq52.c6 (.seq zq52.c14 (.seq (.seq zq52.c60 (.block 0 (.loop H244))) zq52.c31)))) 1 (st0 [.agg [.int .i64 a0_0, .sl false 41 a0_1]] [] : St D0) zq52.K0 = zq52.o0 N a0_0 a0_1 ((fun w0 w1 w2 w3 w4 => iter (loopF zq52.C (zq52.O N) N H244 122) N (mkSt [(1, .one (.ptr 1 0)), (4, .one (.nl)), (14, .one (.sl true 3 w0)), (15, .one (.int .i64 w1)), (16, .one (.int .i64 w2))] [(1, some (24, [.int .i64 w3, .sl false 41 w4]))] : St D0) (blockK 0 (onN (fun s => zq52.C.tidy 30 s (fun s' => runC zq52.C (zq52.O N) N zq52.c31 31 s' zq52.K0)) zq52.K0)))) := by kernel_rfl
noncomputable def zq52.g (N : Nat) (a0_0 : Int) (a0_1 : List S41) : Option zq52.R := zq52.o0 N a0_0 a0_1 ((fun w0 w1 w2 w3 w4 => zq52.l1 N N w0 w1 w2 w3 w4))
theorem zq52.c1_0 : zq52.c1 = (.seq zq52.c2 (.seq zq52.c6 (.seq zq52.c14 (.seq (.seq zq52.c60 (.block 0 (.loop zq52.c244))) zq52.c31)))) := by kernel_rfl
theorem zq52.g.run (N : Nat) (a0_0 : Int) (a0_1 : List S41) : runC zq52.C (zq52.O N) N zq52.c1 1 (st0 [.agg [.int .i64 a0_0, .sl false 41 a0_1]] [] : St D0) zq52.K0 = zq52.g N a0_0 a0_1 := by
  rw [zq52.c1_0]; unfold zq52.g; exact (zq52.o0.run N zq52.c244 a0_0 a0_1).trans (congr rfl (funext fun w0 => funext fun w1 => funext fun w2 => funext fun w3 => funext fun w4 => (zq52.loop122 N N).1 w0 w1 w2 w3 w4))
theorem zq52.good (N : Nat) (a0_0 : Int) (a0_1 : List S41) (r : zq52.R) (h : zq52.g N a0_0 a0_1 = some r) : Go.PM.Good Go.Proofs.Tryz.prog T0 12 [.agg [.int .i64 a0_0, .sl false 41 a0_1]] [] (zq52.sig.ret r) (zq52.sig.bs r) :=
  good_fn tabOk0 mixed0 zq52.sig (zq52.E N) Go.Proofs.Tryz.func12 (by kernel_rfl) (by kernel_rfl) 246367 0 0 [(122, [1, 4, 14, 15, 16], [1])] 41943040 false [] [(false, [.own 46]), (false, [.any])] (by kernel_rfl) rfl rfl ((zq52.g.run N a0_0 a0_1).trans h)
noncomputable def zq52.ent (N : Nat) : Ent Go.Proofs.Tryz.prog T0 := mkEnt 12 [(true, [.any, .ro 41])] zq52.sig (fun t => zq52.g N t.1 t.2) (fun t r h => zq52.good N t.1 t.2 r h)
end Go.Proofs.YtpeleommbipeaaaGreatDoor.M

namespace Go.Proofs.YtpeleommbipeaaaGreatDoor.M
open Go Go.PM Go.Proofs.YtpeleommbipeaaaGreatDoor.P
set_option linter.unusedVariables false
set_option maxRecDepth 100000
/-! ### zq47 -/
abbrev zq47.R : Type := Bool × Bool
abbrev zq47.sig : Sig := ⟨[(true, 2)], [], [.int .i64, .sl false 41], [(false, 1), (false, 1)], [], [.bool, .bool]⟩
noncomputable def zq47.C : Cfg D0 := ⟨Go.Proofs.Tryz.prog, T0, 79, 0, 12, 0, [], 0, false, []⟩
noncomputable def zq47.E (N : Nat) : List (Ent Go.Proofs.Tryz.prog T0) := [zq76.ent N, zq80.ent N]
noncomputable def zq47.O (N : Nat) : Orc D0 zq47.R := orcOf (zq47.E N)
noncomputable def zq47.K0 : Ex → St D0 → Option zq47.R := exitK zq47.C Go.Proofs.Tryz.f14.results.toList [(false, [.any]), (false, [.any])] (decOut zq47.sig)
noncomputable def zq47.c1 : Code := codeAt (Go.Proofs.Tryz.f14.body.getD .skip) []
noncomputable def zq47.o0 (N : Nat) (a0_0 : Int) (a0_1 : List S41) : Option zq47.R :=
 (zq76.g N a0_0 a0_1).bind fun r1 =>
 bif (!r1) then
  some (false, false)
 else
 (zq80.g N a0_0 a0_1).bind fun r2 =>
 some (r2, true)
theorem zq47.o0.run (N : Nat) (a0_0 : Int) (a0_1 : List S41) : runC zq47.C (zq47.O N) N zq47.c1 1 (st0 [.agg [.int .i64 a0_0, .sl false 41 a0_1]] [] : St D0) zq47.K0 = zq47.o0 N a0_0 a0_1 := by kernel_rfl
noncomputable def zq47.g (N : Nat) (a0_0 : Int) (a0_1 : List S41) : Option zq47.R := zq47.o0 N a0_0 a0_1
theorem zq47.g.run (N : Nat) (a0_0 : Int) (a0_1 : List S41) : runC zq47.C (zq47.O N) N zq47.c1 1 (st0 [.agg [.int .i64 a0_0, .sl false 41 a0_1]] [] : St D0) zq47.K0 = zq47.g N a0_0 a0_1 := by
  exact (zq47.o0.run N a0_0 a0_1).trans rfl
theorem zq47.good (N : Nat) (a0_0 : Int) (a0_1 : List S41) (r : zq47.R) (h : zq47.g N a0_0 a0_1 = some r) : Go.PM.Good Go.Proofs.Tryz.prog T0 14 [.agg [.int .i64 a0_0, .sl false 41 a0_1]] [] (zq47.sig.ret r) (zq47.sig.bs r) :=
  good_fn tabOk0 mixed0 zq47.sig (zq47.E N) Go.Proofs.Tryz.func14 (by kernel_rfl) (by kernel_rfl) 79 0 0 [] 0 false [] [(false, [.any]), (false, [.any])] (by kernel_rfl) rfl rfl ((zq47.g.run N a0_0 a0_1).trans h)
noncomputable def zq47.ent (N : Nat) : Ent Go.Proofs.Tryz.prog T0 := mkEnt 14 [(true, [.any, .ro 41])] zq47.sig (fun t => zq47.g N t.1 t.2) (fun t r h => zq47.good N t.1 t.2 r h)
end Go.Proofs.YtpeleommbipeaaaGreatDoor.M

namespace Go.Proofs.YtpeleommbipeaaaGreatDoor.M
open Go Go.PM Go.Proofs.YtpeleommbipeaaaGreatDoor.P
set_option linter.unusedVariables false
set_option maxRecDepth 100000
/-! ### zq70 -/
abbrev zq70.R : Type := Bool
abbrev zq70.sig : Sig := ⟨[(false, 1), (false, 1)], [], [.sl false 3, .sl false 3], [(false, 1)], [], [.bool]⟩
noncomputable def zq70.C : Cfg D0 := ⟨Go.Proofs.Tryz.prog, T0, 16806963, 0, 26, 0, [(58, [0, 1, 12, 13], [])], 3344704, false, []⟩
noncomputable def zq70.E (N : Nat) : List (Ent Go.Proofs.Tryz.prog T0) := []
noncomputable def zq70.O (N : Nat) : Orc D0 zq70.R := orcOf (zq70.E N)
noncomputable def zq70.K0 : Ex → St D0 → Option zq70.R := exitK zq70.C Go.Proofs.Tryz.f45.results.toList [(false, [.any])] (decOut zq70.sig)
noncomputable def zq70.c1 : Code := codeAt (Go.Proofs.Tryz.f45.body.getD .skip) []
noncomputable def zq70.c2 : Code := codeAt (Go.Proofs.Tryz.f45.body.getD .skip) [false]
noncomputable def zq70.c6 : Code := codeAt (Go.Proofs.Tryz.f45.body.getD .skip) [true, false]
noncomputable def zq70.c15 : Code := codeAt (Go.Proofs.Tryz.f45.body.getD .skip) [true, true, true]
noncomputable def zq70.c28 : Code := codeAt (Go.Proofs.Tryz.f45.body.getD .skip) [true, true, false, false]
noncomputable def zq70.c116 : Code := codeAt (Go.Proofs.Tryz.f45.body.getD .skip) [true, true, false, true, false, false]
noncomputable def zq70.K116 (N : Nat) (Kn58 : St D0 → Option zq70.R) : Ex → St D0 → Option zq70.R := ((fun up => (onN (fun s => zq70.C.tidy 58 s ((onN Kn58 up) .normal)) (onN Kn58 up))) (blockK 0 (onN (fun s => zq70.C.tidy 14 s (fun s' => runC zq70.C (zq70.O N) N zq70.c15 15 s' zq70.K0)) zq70.K0)))
noncomputable def zq70.o1 (N : Nat) (v0 : List Int) (v1 : List Int) (v2 : Int) (v3 : Int) (c1 : (List Int) → (List Int) → Int → Int → Option zq70.R) : Option zq70.R :=
 bif (decide (v3 < v2)) then
  bif (decide (0 ≤ v3)) then
   bif (decide (v3 < (v0.length : Int))) then
    (v0[(v3 : Int).toNat]?).bind fun x1 =>
    bif (decide (0 ≤ v3)) then
     bif (decide (v3 < (v1.length : Int))) then
      (v1[(v3 : Int).toNat]?).bind fun x2 =>
      bif (x1 != x2) then
       some (false)
      else
      c1 v0 v1 v2 (w64 (v3 + 1))
     else
     none
    else
    none
   else
   none
  else
  none
 else
 some (true)
theorem zq70.o1.run (N : Nat) (Kn58 : St D0 → Option zq70.R) (v0 : List Int) (v1 : List Int) (v2 : Int) (v3 : Int) : runC zq70.C (zq70.O N) N zq70.c116 116 (mkSt [(0, .one (.sl false 3 v0)), (1, .one (.sl false 3 v1)), (12, .one (.int .i64 v2)), (13, .one (.int .i64 v3))] [] : St D0) ((fun up => (onN (fun s => zq70.C.tidy 58 s ((onN Kn58 up) .normal)) (onN Kn58 up))) (blockK 0 (onN (fun s => zq70.C.tidy 14 s (fun s' => runC zq70.C (zq70.O N) N zq70.c15 15 s' zq70.K0)) zq70.K0))) = zq70.o1 N v0 v1 v2 v3 ((fun w0 w1 w2 w3 => Kn58 (mkSt [(0, .one (.sl false 3 w0)), (1, .one (.sl false 3 w1)), (12, .one (.int .i64 w2)), (13, .one (.int .i64 w3))] [] : St D0))) := by kernel_rfl
noncomputable def zq70.d1 (N : Nat) (v0 : List Int) (v1 : List Int) (v2 : Int) (v3 : Int) (c1 : (List Int) → (List Int) → Int → Int → Option zq70.R) : Option zq70.R := zq70.o1 N v0 v1 v2 v3 c1
theorem zq70.d1.run (N : Nat) (Kn58 : St D0 → Option zq70.R) (v0 : List Int) (v1 : List Int) (v2 : Int) (v3 : Int) : runC zq70.C (zq70.O N) N zq70.c116 116 (mkSt [(0, .one (.sl false 3 v0)), (1, .one (.sl false 3 v1)), (12, .one (.int .i64 v2)), (13, .one (.int .i64 v3))] [] : St D0) (zq70.K116 N Kn58) = zq70.d1 N v0 v1 v2 v3 ((fun w0 w1 w2 w3 => Kn58 (mkSt [(0, .one (.sl false 3 w0)), (1, .one (.sl false 3 w1)), (12, .one (.int .i64 w2)), (13, .one (.int .i64 w3))] [] : St D0))) := by
  exact (zq70.o1.run N Kn58 v0 v1 v2 v3).trans rfl
noncomputable def zq70.K58 (N : Nat) : Ex → St D0 → Option zq70.R := (blockK 0 (onN (fun s => zq70.C.tidy 14 s (fun s' => runC zq70.C (zq70.O N) N zq70.c15 15 s' zq70.K0)) zq70.K0))
noncomputable def zq70.l1 (N : Nat) : Nat → (List Int) → (List Int) → Int → Int → Option zq70.R
  | 0, _, _, _, _ => none
  | n + 1, v0, v1, v2, v3 => zq70.d1 N v0 v1 v2 v3 ((fun w0 w1 w2 w3 => zq70.l1 N n w0 w1 w2 w3))
theorem zq70.loop58 (N : Nat) : ∀ n, (∀ (v0 : List Int) (v1 : List Int) (v2 : Int) (v3 : Int), iter (loopF zq70.C (zq70.O N) N zq70.c116 58) n (mkSt [(0, .one (.sl false 3 v0)), (1, .one (.sl false 3 v1)), (12, .one (.int .i64 v2)), (13, .one (.int .i64 v3))] [] : St D0) (zq70.K58 N) = zq70.l1 N n v0 v1 v2 v3)
  | 0 => (fun v0 v1 v2 v3 => rfl)
  | n + 1 => (fun v0 v1 v2 v3 => (zq70.d1.run N (fun s => iter (loopF zq70.C (zq70.O N) N zq70.c116 58) n s (zq70.K58 N)) v0 v1 v2 v3).trans (show _ = zq70.d1 N v0 v1 v2 v3 ((fun w0 w1 w2 w3 => zq70.l1 N n w0 w1 w2 w3)) from (congr rfl (funext fun w0 => funext fun w1 => funext fun w2 => funext fun w3 => (zq70.loop58 N n) w0 w1 w2 w3))))
noncomputable def zq70.o0 (N : Nat) (a0 : List Int) (a1 : List Int) (c1 : (List Int) → (List Int) → Int → Int → Option zq70.R) : Option zq70.R :=
 bif ((a0.length : Int) != (a1.length : Int)) then
  some (false)
 else
 c1 a0 a1 (a0.length : Int) 0
theorem zq70.o0.run (N : Nat) (H116 : Code) (a0 : List Int) (a1 : List Int) : runC zq70.C (zq70.O N) N (.seq zq70.c2 (.seq zq70.c6 (.seq (.seq zq70.c28 (.block 0 (.loop H116))) zq70.c15))) 1 (st0 [.one (.sl false 3 a0), .one (.sl false 3 a1)] [] : St D0) zq70.K0 = zq70.o0 N a0 a1 ((fun w0 w1 w2 w3 => iter (loopF zq70.C (zq70.O N) N H116 58) N (mkSt [(0, .one (.sl false 3 w0)), (1, .one (.sl false 3 w1)), (12, .one (.int .i64 w2)), (13, .one (.int .i64 w3))] [] : St D0) (blockK 0 (onN (fun s => zq70.C.tidy 14 s (fun s' => runC zq70.C (zq70.O N) N zq70.c15 15 s' zq70.K0)) zq70.K0)))) := by kernel_rfl
noncomputable def zq70.g (N : Nat) (a0 : List Int) (a1 : List Int) : Option zq70.R := zq70.o0 N a0 a1 ((fun w0 w1 w2 w3 => zq70.l1 N N w0 w1 w2 w3))
theorem zq70.c1_0 : zq70.c1 = (.seq zq70.c2 (.seq zq70.c6 (.seq (.seq zq70.c28 (.block 0 (.loop zq70.c116))) zq70.c15))) := by kernel_rfl
theorem zq70.g.run (N : Nat) (a0 : List Int) (a1 : List Int) : runC zq70.C (zq70.O N) N zq70.c1 1 (st0 [.one (.sl false 3 a0), .one (.sl false 3 a1)] [] : St D0) zq70.K0 = zq70.g N a0 a1 := by
  rw [zq70.c1_0]; unfold zq70.g; exact (zq70.o0.run N zq70.c116 a0 a1).trans (congr rfl (funext fun w0 => funext fun w1 => funext fun w2 => funext fun w3 => (zq70.loop58 N N) w0 w1 w2 w3))
theorem zq70.good (N : Nat) (a0 : List Int) (a1 : List Int) (r : zq70.R) (h : zq70.g N a0 a1 = some r) : Go.PM.Good Go.Proofs.Tryz.prog T0 45 [.one (.sl false 3 a0), .one (.sl false 3 a1)] [] (zq70.sig.ret r) (zq70.sig.bs r) :=
  good_fn tabOk0 mixed0 zq70.sig (zq70.E N) Go.Proofs.Tryz.func45 (by kernel_rfl) (by kernel_rfl) 16806963 0 0 [(58, [0, 1, 12, 13], [])] 3344704 false [] [(false, [.any])] (by kernel_rfl) rfl rfl ((zq70.g.run N a0 a1).trans h)
noncomputable def zq70.ent (N : Nat) : Ent Go.Proofs.Tryz.prog T0 := mkEnt 45 [(false, [.ro 3]), (false, [.ro 3])] zq70.sig (fun t => zq70.g N t.1 t.2) (fun t r h => zq70.good N t.1 t.2 r h)
end Go.Proofs.YtpeleommbipeaaaGreatDoor.M

namespace Go.Proofs.YtpeleommbipeaaaGreatDoor.M
open Go Go.PM Go.Proofs.YtpeleommbipeaaaGreatDoor.P
set_option linter.unusedVariables false
set_option maxRecDepth 100000
/-! ### zq49 -/
abbrev zq49.R : Type := List Int × Bool
abbrev zq49.sig : Sig := ⟨[(true, 2)], [], [.int .i64, .sl false 41], [(false, 1), (false, 1)], [], [.sl true 3, .bool]⟩
noncomputable def zq49.C : Cfg D0 := ⟨Go.Proofs.Tryz.prog, T0, 537789055, 0, 36, 0, [(250, [1, 4, 5, 17, 18], [1])], 301989888, false, []⟩
noncomputable def zq49.E (N : Nat) : List (Ent Go.Proofs.Tryz.prog T0) := [zq76.ent N, zq73.ent N, zq82.ent N, zq70.ent N]
noncomputable def zq49.O (N : Nat) : Orc D0 zq49.R := orcOf (zq49.E N)
noncomputable def zq49.K0 : Ex → St D0 → Option zq49.R := exitK zq49.C Go.Proofs.Tryz.f16.results.toList [(false, [.own 3]), (false, [.any])] (decOut zq49.sig)
noncomputable def zq49.c1 : Code := codeAt (Go.Proofs.Tryz.f16.body.getD .skip) []
noncomputable def zq49.c2 : Code := codeAt (Go.Proofs.Tryz.f16.body.getD .skip) [false]
noncomputable def zq49.c6 : Code := codeAt (Go.Proofs.Tryz.f16.body.getD .skip) [true, false]
noncomputable def zq49.c14 : Code := codeAt (Go.Proofs.Tryz.f16.body.getD .skip) [true, true, false]
noncomputable def zq49.c30 : Code := codeAt (Go.Proofs.Tryz.f16.body.getD .skip) [true, true, true, false]
noncomputable def zq49.c63 : Code := codeAt (Go.Proofs.Tryz.f16.body.getD .skip) [true, true, true, true, true]
noncomputable def zq49.c124 : Code := codeAt (Go.Proofs.Tryz.f16.body.getD .skip) [true, true, true, true, false, false]
noncomputable def zq49.c500 : Code := codeAt (Go.Proofs.Tryz.f16.body.getD .skip) [true, true, true, true, false, true, false, false]
noncomputable def zq49.K500 (N : Nat) (Kn250 : St D0 → Option zq49.R) : Ex → St D0 → Option zq49.R := ((fun up => (onN (fun s => zq49.C.tidy 250 s ((onN Kn250 up) .normal)) (onN Kn250 up))) (blockK 0 (onN (fun s => zq49.C.tidy 62 s (fun s' => runC zq49.C (zq49.O N) N zq49.c63 63 s' zq49.K0)) zq49.K0)))
noncomputable def zq49.o1 (N : Nat) (v0 : List Int) (v1 : Int) (v2 : Int) (v3 : Int) (v4 : List S41) (c2 : (List Int) → (List Int) → Int → Int → Int → (List S41) → Option zq49.R) (c1 : (List Int) → Int → Int → Int → (List S41) → Option zq49.R) : Option zq49.R :=
 bif (decide (v2 < v1)) then
  (zq82.g N v4 v2).bind fun r1 =>
  (zq73.g N v3 r1).bind fun r2 =>
  (zq70.g N r2 v0).bind fun r3 =>
  bif r3 then
   bif (Nat.blt (([] : List Int).length + ([v2] : List Int).length) 17592186044416) then
    c2 (([] : List Int) ++ ([v2] : List Int)) v0 v1 (w64 (v2 + 1)) v3 v4
   else
   none
  else
  c1 v0 v1 (w64 (v2 + 1)) v3 v4
 else
 some (([] : List Int), true)
theorem zq49.o1.run (N : Nat) (Kn250 : St D0 → Option zq49.R) (v0 : List Int) (v1 : Int) (v2 : Int) (v3 : Int) (v4 : List S41) : runC zq49.C (zq49.O N) N zq49.c500 500 (mkSt [(1, .one (.ptr 1 0)), (4, .one (.nl)), (5, .one (.sl true 3 v0)), (17, .one (.int .i64 v1)), (18, .one (.int .i64 v2))] [(1, some (24, [.int .i64 v3, .sl false 41 v4]))] : St D0) ((fun up => (onN (fun s => zq49.C.tidy 250 s ((onN Kn250 up) .normal)) (onN Kn250 up))) (blockK 0 (onN (fun s => zq49.C.tidy 62 s (fun s' => runC zq49.C (zq49.O N) N zq49.c63 63 s' zq49.K0)) zq49.K0))) = zq49.o1 N v0 v1 v2 v3 v4 ((fun w0 w1 w2 w3 w4 w5 => Kn250 (mkSt [(1, .one (.ptr 1 0)), (4, .one (.sl true 3 w0)), (5, .one (.sl true 3 w1)), (17, .one (.int .i64 w2)), (18, .one (.int .i64 w3))] [(1, some (24, [.int .i64 w4, .sl false 41 w5]))] : St D0))) ((fun w0 w1 w2 w3 w4 => Kn250 (mkSt [(1, .one (.ptr 1 0)), (4, .one (.nl)), (5, .one (.sl true 3 w0)), (17, .one (.int .i64 w1)), (18, .one (.int .i64 w2))] [(1, some (24, [.int .i64 w3, .sl false 41 w4]))] : St D0))) := by kernel_rfl
noncomputable def zq49.d1 (N : Nat) (v0 : List Int) (v1 : Int) (v2 : Int) (v3 : Int) (v4 : List S41) (c1 : (List Int) → Int → Int → Int → (List S41) → Option zq49.R) (c2 : (List Int) → (List Int) → Int → Int → Int → (List S41) → Option zq49.R) : Option zq49.R := zq49.o1 N v0 v1 v2 v3 v4 c2 c1
theorem zq49.d1.run (N : Nat) (Kn250 : St D0 → Option zq49.R) (v0 : List Int) (v1 : Int) (v2 : Int) (v3 : Int) (v4 : List S41) : runC zq49.C (zq49.O N) N zq49.c500 500 (mkSt [(1, .one (.ptr 1 0)), (4, .one (.nl)), (5, .one (.sl true 3 v0)), (17, .one (.int .i64 v1)), (18, .one (.int .i64 v2))] [(1, some (24, [.int .i64 v3, .sl false 41 v4]))] : St D0) (zq49.K500 N Kn250) = zq49.d1 N v0 v1 v2 v3 v4 ((fun w0 w1 w2 w3 w4 => Kn250 (mkSt [(1, .one (.ptr 1 0)), (4, .one (.nl)), (5, .one (.sl true 3 w0)), (17, .one (.int .i64 w1)), (18, .one (.int .i64 w2))] [(1, some (24, [.int .i64 w3, .sl false 41 w4]))] : St D0))) ((fun w0 w1 w2 w3 w4 w5 => Kn250 (mkSt [(1, .one (.ptr 1 0)), (4, .one (.sl true 3 w0)), (5, .one (.sl true 3 w1)), (17, .one (.int .i64 w2)), (18, .one (.int .i64 w3))] [(1, some (24, [.int .i64 w4, .sl false 41 w5]))] : St D0))) := by
  exact (zq49.o1.run N Kn250 v0 v1 v2 v3 v4).trans rfl
noncomputable def zq49.o2 (N : Nat) (v0 : List Int) (v1 : List Int) (v2 : Int) (v3 : Int) (v4 : Int) (v5 : List S41) (c2 : (List Int) → (List Int) → Int → Int → Int → (List S41) → Option zq49.R) : Option zq49.R :=
 bif (decide (v3 < v2)) then
  (zq82.g N v5 v3).bind fun r1 =>
  (zq73.g N v4 r1).bind fun r2 =>
  (zq70.g N r2 v1).bind fun r3 =>
  bif r3 then
   bif (Nat.blt (v0.length + ([v3] : List Int).length) 17592186044416) then
    c2 (v0 ++ ([v3] : List Int)) v1 v2 (w64 (v3 + 1)) v4 v5
   else
   none
  else
  c2 v0 v1 v2 (w64 (v3 + 1)) v4 v5
 else
 some (v0, true)
theorem zq49.o2.run (N : Nat) (Kn250 : St D0 → Option zq49.R) (v0 : List Int) (v1 : List Int) (v2 : Int) (v3 : Int) (v4 : Int) (v5 : List S41) : runC zq49.C (zq49.O N) N zq49.c500 500 (mkSt [(1, .one (.ptr 1 0)), (4, .one (.sl true 3 v0)), (5, .one (.sl true 3 v1)), (17, .one (.int .i64 v2)), (18, .one (.int .i64 v3))] [(1, some (24, [.int .i64 v4, .sl false 41 v5]))] : St D0) ((fun up => (onN (fun s => zq49.C.tidy 250 s ((onN Kn250 up) .normal)) (onN Kn250 up))) (blockK 0 (onN (fun s => zq49.C.tidy 62 s (fun s' => runC zq49.C (zq49.O N) N zq49.c63 63 s' zq49.K0)) zq49.K0))) = zq49.o2 N v0 v1 v2 v3 v4 v5 ((fun w0 w1 w2 w3 w4 w5 => Kn250 (mkSt [(1, .one (.ptr 1 0)), (4, .one (.sl true 3 w0)), (5, .one (.sl true 3 w1)), (17, .one (.int .i64 w2)), (18, .one (.int .i64 w3))] [(1, some (24, [.int .i64 w4, .sl false 41 w5]))] : St D0))) := by kernel_rfl
noncomputable def zq49.d2 (N : Nat) (v0 : List Int) (v1 : List Int) (v2 : Int) (v3 : Int) (v4 : Int) (v5 : List S41) (c2 : (List Int) → (List Int) → Int → Int → Int → (List S41) → Option zq49.R) : Option zq49.R := zq49.o2 N v0 v1 v2 v3 v4 v5 c2
theorem zq49.d2.run (N : Nat) (Kn250 : St D0 → Option zq49.R) (v0 : List Int) (v1 : List Int) (v2 : Int) (v3 : Int) (v4 : Int) (v5 : List S41) : runC zq49.C (zq49.O N) N zq49.c500 500 (mkSt [(1, .one (.ptr 1 0)), (4, .one (.sl true 3 v0)), (5, .one (.sl true 3 v1)), (17, .one (.int .i64 v2)), (18, .one (.int .i64 v3))] [(1, some (24, [.int .i64 v4, .sl false 41 v5]))] : St D0) (zq49.K500 N Kn250) = zq49.d2 N v0 v1 v2 v3 v4 v5 ((fun w0 w1 w2 w3 w4 w5 => Kn250 (mkSt [(1, .one (.ptr 1 0)), (4, .one (.sl true 3 w0)), (5, .one (.sl true 3 w1)), (17, .one (.int .i64 w2)), (18, .one (.int .i64 w3))] [(1, some (24, [.int .i64 w4, .sl false 41 w5]))] : St D0))) := by
  exact (zq49.o2.run N Kn250 v0 v1 v2 v3 v4 v5).trans rfl
noncomputable def zq49.K250 (N : Nat) : Ex → St D0 → Option zq49.R := (blockK 0 (onN (fun s => zq49.C.tidy 62 s (fun s' => runC zq49.C (zq49.O N) N zq49.c63 63 s' zq49.K0)) zq49.K0))
mutual
noncomputable def zq49.l1 (N : Nat) : Nat → (List Int) → Int → Int → Int → (List S41) → Option zq49.R
  | 0, _, _, _, _, _ => none
  | n + 1, v0, v1, v2, v3, v4 => zq49.d1 N v0 v1 v2 v3 v4 ((fun w0 w1 w2 w3 w4 => zq49.l1 N n w0 w1 w2 w3 w4)) ((fun w0 w1 w2 w3 w4 w5 => zq49.l2 N n w0 w1 w2 w3 w4 w5))
noncomputable def zq49.l2 (N : Nat) : Nat → (List Int) → (List Int) → Int → Int → Int → (List S41) → Option zq49.R
  | 0, _, _, _, _, _, _ => none
  | n + 1, v0, v1, v2, v3, v4, v5 => zq49.d2 N v0 v1 v2 v3 v4 v5 ((fun w0 w1 w2 w3 w4 w5 => zq49.l2 N n w0 w1 w2 w3 w4 w5))
end
theorem zq49.loop250 (N : Nat) : ∀ n, (∀ (v0 : List Int) (v1 : Int) (v2 : Int) (v3 : Int) (v4 : List S41), iter (loopF zq49.C (zq49.O N) N zq49.c500 250) n (mkSt [(1, .one (.ptr 1 0)), (4, .one (.nl)), (5, .one (.sl true 3 v0)), (17, .one (.int .i64 v1)), (18, .one (.int .i64 v2))] [(1, some (24, [.int .i64 v3, .sl false 41 v4]))] : St D0) (zq49.K250 N) = zq49.l1 N n v0 v1 v2 v3 v4) ∧ (∀ (v0 : List Int) (v1 : List Int) (v2 : Int) (v3 : Int) (v4 : Int) (v5 : List S41), iter (loopF zq49.C (zq49.O N) N zq49.c500 250) n (mkSt [(1, .one (.ptr 1 0)), (4, .one (.sl true 3 v0)), (5, .one (.sl true 3 v1)), (17, .one (.int .i64 v2)), (18, .one (.int .i64 v3))] [(1, some (24, [.int .i64 v4, .sl false 41 v5]))] : St D0) (zq49.K250 N) = zq49.l2 N n v0 v1 v2 v3 v4 v5)
  | 0 => ⟨(fun v0 v1 v2 v3 v4 => rfl), (fun v0 v1 v2 v3 v4 v5 => rfl)⟩
  | n + 1 => ⟨(fun v0 v1 v2 v3 v4 => (zq49.d1.run N (fun s => iter (loopF zq49.C (zq49.O N) N zq49.c500 250) n s (zq49.K250 N)) v0 v1 v2 v3 v4).trans (show _ = zq49.d1 N v0 v1 v2 v3 v4 ((fun w0 w1 w2 w3 w4 => zq49.l1 N n w0 w1 w2 w3 w4)) ((fun w0 w1 w2 w3 w4 w5 => zq49.l2 N n w0 w1 w2 w3 w4 w5)) from (congr (congr rfl (funext fun w0 => funext fun w1 => funext fun w2 => funext fun w3 => funext fun w4 => (zq49.loop250 N n).1 w0 w1 w2 w3 w4)) (funext fun w0 => funext fun w1 => funext fun w2 => funext fun w3 => funext fun w4 => funext fun w5 => (zq49.loop250 N n).2 w0 w1 w2 w3 w4 w5)))), (fun v0 v1 v2 v3 v4 v5 => (zq49.d2.run N (fun s => iter (loopF zq49.C (zq49.O N) N zq49.c500 250) n s (zq49.K250 N)) v0 v1 v2 v3 v4 v5).trans (show _ = zq49.d2 N v0 v1 v2 v3 v4 v5 ((fun w0 w1 w2 w3 w4 w5 => zq49.l2 N n w0 w1 w2 w3 w4 w5)) from (congr rfl (funext fun w0 => funext fun w1 => funext fun w2 => funext fun w3 => funext fun w4 => funext fun w5 => (zq49.loop250 N n).2 w0 w1 w2 w3 w4 w5))))⟩
noncomputable def zq49.o0 (N : Nat) (a0_0 : Int) (a0_1 : List S41) (c1 : (List Int) → Int → Int → Int → (List S41) → Option zq49.R) : Option zq49.R :=
 (zq76.g N a0_0 a0_1).bind fun r1 =>
 bif (!r1) then
  some (([] : List Int), false)
 else
 (zq73.g N a0_0 a0_1).bind fun r2 =>
 c1 r2 (a0_1.length : Int) 0 a0_0 a0_1
theorem zq49.o0.run (N : Nat) (H500 : Code) (a0_0 : Int) (a0_1 : List S41) : runC zq49.C (zq49.O N) N (.seq zq49.c2 (.seq zq49.c6 (.seq zq49.c14 (.seq zq49.c30 (.seq (.seq zq49.c124 (.block 0 (.loop H500))) zq49.c63))))) 1 (st0 [.agg [.int .i64 a0_0, .sl false 41 a0_1]] [] : St D0) zq49.K0 = zq49.o0 N a0_0 a0_1 ((fun w0 w1 w2 w3 w4 => iter (loopF zq49.C (zq49.O N) N H500 250) N (mkSt [(1, .one (.ptr 1 0)), (4, .one (.nl)), (5, .one (.sl true 3 w0)), (17, .one (.int .i64 w1)), (18, .one (.int .i64 w2))] [(1, some (24, [.int .i64 w3, .sl false 41 w4]))] : St D0) (blockK 0 (onN (fun s => zq49.C.tidy 62 s (fun s' => runC zq49.C (zq49.O N) N zq49.c63 63 s' zq49.K0)) zq49.K0)))) := by kernel_rfl
noncomputable def zq49.g (N : Nat) (a0_0 : Int) (a0_1 : List S41) : Option zq49.R := zq49.o0 N a0_0 a0_1 ((fun w0 w1 w2 w3 w4 => zq49.l1 N N w0 w1 w2 w3 w4))
theorem zq49.c1_0 : zq49.c1 = (.seq zq49.c2 (.seq zq49.c6 (.seq zq49.c14 (.seq zq49.c30 (.seq (.seq zq49.c124 (.block 0 (.loop zq49.c500))) zq49.c63))))) := by kernel_rfl
theorem zq49.g.run (N : Nat) (a0_0 : Int) (a0_1 : List S41) : runC zq49.C (zq49.O N) N zq49.c1 1 (st0 [.agg [.int .i64 a0_0, .sl false 41 a0_1]] [] : St D0) zq49.K0 = zq49.g N a0_0 a0_1 := by
  rw [zq49.c1_0]; unfold zq49.g; exact (zq49.o0.run N zq49.c500 a0_0 a0_1).trans (congr rfl (funext fun w0 => funext fun w1 => funext fun w2 => funext fun w3 => funext fun w4 => (zq49.loop250 N N).1 w0 w1 w2 w3 w4))
theorem zq49.good (N : Nat) (a0_0 : Int) (a0_1 : List S41) (r : zq49.R) (h : zq49.g N a0_0 a0_1 = some r) : Go.PM.Good Go.Proofs.Tryz.prog T0 16 [.agg [.int .i64 a0_0, .sl false 41 a0_1]] [] (zq49.sig.ret r) (zq49.sig.bs r) :=
  good_fn tabOk0 mixed0 zq49.sig (zq49.E N) Go.Proofs.Tryz.func16 (by kernel_rfl) (by kernel_rfl) 537789055 0 0 [(250, [1, 4, 5, 17, 18], [1])] 301989888 false [] [(false, [.own 3]), (false, [.any])] (by kernel_rfl) rfl rfl ((zq49.g.run N a0_0 a0_1).trans h)
noncomputable def zq49.ent (N : Nat) : Ent Go.Proofs.Tryz.prog T0 := mkEnt 16 [(true, [.any, .ro 41])] zq49.sig (fun t => zq49.g N t.1 t.2) (fun t r h => zq49.good N t.1 t.2 r h)
end Go.Proofs.YtpeleommbipeaaaGreatDoor.M

namespace Go.Proofs.YtpeleommbipeaaaGreatDoor.M
open Go Go.PM Go.Proofs.YtpeleommbipeaaaGreatDoor.P
set_option linter.unusedVariables false
set_option maxRecDepth 100000
/-! ### zq11 -/
abbrev zq11.R : Type := List Int × Bool
abbrev zq11.sig : Sig := ⟨[(true, 2)], [], [.int .i64, .sl false 41], [(false, 1), (false, 1)], [], [.sl true 3, .bool]⟩
noncomputable def zq11.C : Cfg D0 := ⟨Go.Proofs.Tryz.prog, T0, 57663, 0, 30, 0, [(122, [1, 4, 13, 14], [1])], 4194304, false, []⟩
noncomputable def zq11.E (N : Nat) : List (Ent Go.Proofs.Tryz.prog T0) := [zq7.ent N, zq27.ent N]
noncomputable def zq11.O (N : Nat) : Orc D0 zq11.R := orcOf (zq11.E N)
noncomputable def zq11.K0 : Ex → St D0 → Option zq11.R := exitK zq11.C Go.Proofs.Tryz.f17.results.toList [(false, [.own 3]), (false, [.any])] (decOut zq11.sig)
noncomputable def zq11.c1 : Code := codeAt (Go.Proofs.Tryz.f17.body.getD .skip) []
noncomputable def zq11.c2 : Code := codeAt (Go.Proofs.Tryz.f17.body.getD .skip) [false]
noncomputable def zq11.c6 : Code := codeAt (Go.Proofs.Tryz.f17.body.getD .skip) [true, false]
noncomputable def zq11.c14 : Code := codeAt (Go.Proofs.Tryz.f17.body.getD .skip) [true, true, false]
noncomputable def zq11.c31 : Code := codeAt (Go.Proofs.Tryz.f17.body.getD .skip) [true, true, true, true]
noncomputable def zq11.c60 : Code := codeAt (Go.Proofs.Tryz.f17.body.getD .skip) [true, true, true, false, false]
noncomputable def zq11.c244 : Code := codeAt (Go.Proofs.Tryz.f17.body.getD .skip) [true, true, true, false, true, false, false]
noncomputable def zq11.K244 (N : Nat) (Kn122 : St D0 → Option zq11.R) : Ex → St D0 → Option zq11.R := ((fun up => (onN (fun s => zq11.C.tidy 122 s ((onN Kn122 up) .normal)) (onN Kn122 up))) (blockK 0 (onN (fun s => zq11.C.tidy 30 s (fun s' => runC zq11.C (zq11.O N) N zq11.c31 31 s' zq11.K0)) zq11.K0)))
noncomputable def zq11.o1 (N : Nat) (v0 : List Int) (v1 : Int) (v2 : Int) (v3 : Int) (v4 : List S41) (c1 : (List Int) → Int → Int → Int → (List S41) → Option zq11.R) : Option zq11.R :=
 bif (decide (v2 < v1)) then
  bif (decide (0 ≤ v2)) then
   bif (decide (v2 ≤ (v4.length : Int))) then
    bif (decide (0 ≤ v2)) then
     (zq27.g N v3 ((v4.take (v2 : Int).toNat).drop (0 : Int).toNat)).bind fun r1 =>
     bif (Nat.blt (v0.length + ([(r1.length : Int)] : List Int).length) 17592186044416) then
      c1 (v0 ++ ([(r1.length : Int)] : List Int)) v1 (w64 (v2 + 1)) v3 v4
     else
     none
    else
    none
   else
   none
  else
  none
 else
 some (v0, true)
theorem zq11.o1.run (N : Nat) (Kn122 : St D0 → Option zq11.R) (v0 : List Int) (v1 : Int) (v2 : Int) (v3 : Int) (v4 : List S41) : runC zq11.C (zq11.O N) N zq11.c244 244 (mkSt [(1, .one (.ptr 1 0)), (4, .one (.sl true 3 v0)), (13, .one (.int .i64 v1)), (14, .one (.int .i64 v2))] [(1, some (24, [.int .i64 v3, .sl false 41 v4]))] : St D0) ((fun up => (onN (fun s => zq11.C.tidy 122 s ((onN Kn122 up) .normal)) (onN Kn122 up))) (blockK 0 (onN (fun s => zq11.C.tidy 30 s (fun s' => runC zq11.C (zq11.O N) N zq11.c31 31 s' zq11.K0)) zq11.K0))) = zq11.o1 N v0 v1 v2 v3 v4 ((fun w0 w1 w2 w3 w4 => Kn122 (mkSt [(1, .one (.ptr 1 0)), (4, .one (.sl true 3 w0)), (13, .one (.int .i64 w1)), (14, .one (.int .i64 w2))] [(1, some (24, [.int .i64 w3, .sl false 41 w4]))] : St D0))) := by kernel_rfl
noncomputable def zq11.d1 (N : Nat) (v0 : List Int) (v1 : Int) (v2 : Int) (v3 : Int) (v4 : List S41) (c1 : (List Int) → Int → Int → Int → (List S41) → Option zq11.R) : Option zq11.R := zq11.o1 N v0 v1 v2 v3 v4 c1
theorem zq11.d1.run (N : Nat) (Kn122 : St D0 → Option zq11.R) (v0 : List Int) (v1 : Int) (v2 : Int) (v3 : Int) (v4 : List S41) : runC zq11.C (zq11.O N) N zq11.c244 244 (mkSt [(1, .one (.ptr 1 0)), (4, .one (.sl true 3 v0)), (13, .one (.int .i64 v1)), (14, .one (.int .i64 v2))] [(1, some (24, [.int .i64 v3, .sl false 41 v4]))] : St D0) (zq11.K244 N Kn122) = zq11.d1 N v0 v1 v2 v3 v4 ((fun w0 w1 w2 w3 w4 => Kn122 (mkSt [(1, .one (.ptr 1 0)), (4, .one (.sl true 3 w0)), (13, .one (.int .i64 w1)), (14, .one (.int .i64 w2))] [(1, some (24, [.int .i64 w3, .sl false 41 w4]))] : St D0))) := by
  exact (zq11.o1.run N Kn122 v0 v1 v2 v3 v4).trans rfl
noncomputable def zq11.K122 (N : Nat) : Ex → St D0 → Option zq11.R := (blockK 0 (onN (fun s => zq11.C.tidy 30 s (fun s' => runC zq11.C (zq11.O N) N zq11.c31 31 s' zq11.K0)) zq11.K0))
noncomputable def zq11.l1 (N : Nat) : Nat → (List Int) → Int → Int → Int → (List S41) → Option zq11.R
  | 0, _, _, _, _, _ => none
  | n + 1, v0, v1, v2, v3, v4 => zq11.d1 N v0 v1 v2 v3 v4 ((fun w0 w1 w2 w3 w4 => zq11.l1 N n w0 w1 w2 w3 w4))
theorem zq11.loop122 (N : Nat) : ∀ n, (∀ (v0 : List Int) (v1 : Int) (v2 : Int) (v3 : Int) (v4 : List S41), iter (loopF zq11.C (zq11.O N) N zq11.c244 122) n (mkSt [(1, .one (.ptr 1 0)), (4, .one (.sl true 3 v0)), (13, .one (.int .i64 v1)), (14, .one (.int .i64 v2))] [(1, some (24, [.int .i64 v3, .sl false 41 v4]))] : St D0) (zq11.K122 N) = zq11.l1 N n v0 v1 v2 v3 v4)
  | 0 => (fun v0 v1 v2 v3 v4 => rfl)
  | n + 1 => (fun v0 v1 v2 v3 v4 => (zq11.d1.run N (fun s => iter (loopF zq11.C (zq11.O N) N zq11.c244 122) n s (zq11.K122 N)) v0 v1 v2 v3 v4).trans (show _ = zq11.d1 N v0 v1 v2 v3 v4 ((fun w0 w1 w2 w3 w4 => zq11.l1 N n w0 w1 w2 w3 w4)) from (congr rfl (funext fun w0 => funext fun w1 => funext fun w2 => funext fun w3 => funext fun w4 => (zq11.loop122 N n) w0 w1 w2 w3 w4))))
noncomputable def zq11.o0 (N : Nat) (a0_0 : Int) (a0_1 : List S41) (c1 : (List Int) → Int → Int → Int → (List S41) → Option zq11.R) : Option zq11.R :=
 (zq7.g N a0_0 a0_1).bind fun r1 =>
 bif (!r1) then
  some (([] : List Int), false)
 else
 c1 ([] : List Int) (w64 ((a0_1.length : Int) + 1)) 0 a0_0 a0_1
theorem zq11.o0.run (N : Nat) (H244 : Code) (a0_0 : Int) (a0_1 : List S41) : runC zq11.C (zq11.O N) N (.seq zq11.c2 (.seq zq11.c6 (.seq zq11.c14 (.seq (.seq zq11.c60 (.block 0 (.loop H244))) zq11.c31)))) 1 (st0 [.agg [.int .i64 a0_0, .sl false 41 a0_1]] [] : St D0) zq11.K0 = zq11.o0 N a0_0 a0_1 ((fun w0 w1 w2 w3 w4 => iter (loopF zq11.C (zq11.O N) N H244 122) N (mkSt [(1, .one (.ptr 1 0)), (4, .one (.sl true 3 w0)), (13, .one (.int .i64 w1)), (14, .one (.int .i64 w2))] [(1, some (24, [.int .i64 w3, .sl false 41 w4]))] : St D0) (blockK 0 (onN (fun s => zq11.C.tidy 30 s (fun s' => runC zq11.C (zq11.O N) N zq11.c31 31 s' zq11.K0)) zq11.K0)))) := by kernel_rfl
noncomputable def zq11.g (N : Nat) (a0_0 : Int) (a0_1 : List S41) : Option zq11.R := zq11.o0 N a0_0 a0_1 ((fun w0 w1 w2 w3 w4 => zq11.l1 N N w0 w1 w2 w3 w4))
theorem zq11.c1_0 : zq11.c1 = (.seq zq11.c2 (.seq zq11.c6 (.seq zq11.c14 (.seq (.seq zq11.c60 (.block 0 (.loop zq11.c244))) zq11.c31)))) := by kernel_rfl
theorem zq11.g.run (N : Nat) (a0_0 : Int) (a0_1 : List S41) : runC zq11.C (zq11.O N) N zq11.c1 1 (st0 [.agg [.int .i64 a0_0, .sl false 41 a0_1]] [] : St D0) zq11.K0 = zq11.g N a0_0 a0_1 := by
  rw [zq11.c1_0]; unfold zq11.g; exact (zq11.o0.run N zq11.c244 a0_0 a0_1).trans (congr rfl (funext fun w0 => funext fun w1 => funext fun w2 => funext fun w3 => funext fun w4 => (zq11.loop122 N N) w0 w1 w2 w3 w4))
theorem zq11.good (N : Nat) (a0_0 : Int) (a0_1 : List S41) (r : zq11.R) (h : zq11.g N a0_0 a0_1 = some r) : Go.PM.Good Go.Proofs.Tryz.prog T0 17 [.agg [.int .i64 a0_0, .sl false 41 a0_1]] [] (zq11.sig.ret r) (zq11.sig.bs r) :=
  good_fn tabOk0 mixed0 zq11.sig (zq11.E N) Go.Proofs.Tryz.func17 (by kernel_rfl) (by kernel_rfl) 57663 0 0 [(122, [1, 4, 13, 14], [1])] 4194304 false [] [(false, [.own 3]), (false, [.any])] (by kernel_rfl) rfl rfl ((zq11.g.run N a0_0 a0_1).trans h)
noncomputable def zq11.ent (N : Nat) : Ent Go.Proofs.Tryz.prog T0 := mkEnt 17 [(true, [.any, .ro 41])] zq11.sig (fun t => zq11.g N t.1 t.2) (fun t r h => zq11.good N t.1 t.2 r h)
end Go.Proofs.YtpeleommbipeaaaGreatDoor.M

namespace Go.Proofs.YtpeleommbipeaaaGreatDoor.M
open Go Go.PM Go.Proofs.YtpeleommbipeaaaGreatDoor.P
set_option linter.unusedVariables false
set_option maxRecDepth 100000
/-! ### zq48 -/
abbrev zq48.R : Type := List Int × Bool
abbrev zq48.sig : Sig := ⟨[(true, 2)], [], [.int .i64, .sl false 41], [(false, 1), (false, 1)], [], [.sl true 3, .bool]⟩
noncomputable def zq48.C : Cfg D0 := ⟨Go.Proofs.Tryz.prog, T0, 8511, 0, 28, 0, [(122, [1, 4, 5], [1])], 2114048, false, []⟩
noncomputable def zq48.E (N : Nat) : List (Ent Go.Proofs.Tryz.prog T0) := [zq76.ent N, zq73.ent N]
noncomputable def zq48.O (N : Nat) : Orc D0 zq48.R := orcOf (zq48.E N)
noncomputable def zq48.K0 : Ex → St D0 → Option zq48.R := exitK zq48.C Go.Proofs.Tryz.f18.results.toList [(false, [.own 3]), (false, [.any])] (decOut zq48.sig)
noncomputable def zq48.c1 : Code := codeAt (Go.Proofs.Tryz.f18.body.getD .skip) []
noncomputable def zq48.c2 : Code := codeAt (Go.Proofs.Tryz.f18.body.getD .skip) [false]
noncomputable def zq48.c6 : Code := codeAt (Go.Proofs.Tryz.f18.body.getD .skip) [true, false]
noncomputable def zq48.c14 : Code := codeAt (Go.Proofs.Tryz.f18.body.getD .skip) [true, true, false]
noncomputable def zq48.c31 : Code := codeAt (Go.Proofs.Tryz.f18.body.getD .skip) [true, true, true, true]
noncomputable def zq48.c60 : Code := codeAt (Go.Proofs.Tryz.f18.body.getD .skip) [true, true, true, false, false]
noncomputable def zq48.c244 : Code := codeAt (Go.Proofs.Tryz.f18.body.getD .skip) [true, true, true, false, true, false, false]
noncomputable def zq48.K244 (N : Nat) (Kn122 : St D0 → Option zq48.R) : Ex → St D0 → Option zq48.R := ((fun up => (onN (fun s => zq48.C.tidy 122 s ((onN Kn122 up) .normal)) (onN Kn122 up))) (blockK 0 (onN (fun s => zq48.C.tidy 30 s (fun s' => runC zq48.C (zq48.O N) N zq48.c31 31 s' zq48.K0)) zq48.K0)))
noncomputable def zq48.o1 (N : Nat) (v0 : Int) (v1 : Int) (v2 : List S41) (c2 : (List Int) → Int → Int → (List S41) → Option zq48.R) : Option zq48.R :=
 bif (decide (v0 ≤ (v2.length : Int))) then
  bif (decide (0 ≤ v0)) then
   bif (decide (v0 ≤ (v2.length : Int))) then
    bif (decide (0 ≤ v0)) then
     (zq73.g N v1 ((v2.take (v0 : Int).toNat).drop (0 : Int).toNat)).bind fun r1 =>
     bif (Nat.blt (([] : List Int).length + ([(r1.length : Int)] : List Int).length) 17592186044416) then
      c2 (([] : List Int) ++ ([(r1.length : Int)] : List Int)) (w64 (v0 + 1)) v1 v2
     else
     none
    else
    none
   else
   none
  else
  none
 else
 some (([] : List Int), true)
theorem zq48.o1.run (N : Nat) (Kn122 : St D0 → Option zq48.R) (v0 : Int) (v1 : Int) (v2 : List S41) : runC zq48.C (zq48.O N) N zq48.c244 244 (mkSt [(1, .one (.ptr 1 0)), (4, .one (.nl)), (5, .one (.int .i64 v0))] [(1, some (24, [.int .i64 v1, .sl false 41 v2]))] : St D0) ((fun up => (onN (fun s => zq48.C.tidy 122 s ((onN Kn122 up) .normal)) (onN Kn122 up))) (blockK 0 (onN (fun s => zq48.C.tidy 30 s (fun s' => runC zq48.C (zq48.O N) N zq48.c31 31 s' zq48.K0)) zq48.K0))) = zq48.o1 N v0 v1 v2 ((fun w0 w1 w2 w3 => Kn122 (mkSt [(1, .one (.ptr 1 0)), (4, .one (.sl true 3 w0)), (5, .one (.int .i64 w1))] [(1, some (24, [.int .i64 w2, .sl false 41 w3]))] : St D0))) := by kernel_rfl
noncomputable def zq48.d1 (N : Nat) (v0 : Int) (v1 : Int) (v2 : List S41) (c2 : (List Int) → Int → Int → (List S41) → Option zq48.R) : Option zq48.R := zq48.o1 N v0 v1 v2 c2
theorem zq48.d1.run (N : Nat) (Kn122 : St D0 → Option zq48.R) (v0 : Int) (v1 : Int) (v2 : List S41) : runC zq48.C (zq48.O N) N zq48.c244 244 (mkSt [(1, .one (.ptr 1 0)), (4, .one (.nl)), (5, .one (.int .i64 v0))] [(1, some (24, [.int .i64 v1, .sl false 41 v2]))] : St D0) (zq48.K244 N Kn122) = zq48.d1 N v0 v1 v2 ((fun w0 w1 w2 w3 => Kn122 (mkSt [(1, .one (.ptr 1 0)), (4, .one (.sl true 3 w0)), (5, .one (.int .i64 w1))] [(1, some (24, [.int .i64 w2, .sl false 41 w3]))] : St D0))) := by
  exact (zq48.o1.run N Kn122 v0 v1 v2).trans rfl
noncomputable def zq48.o2 (N : Nat) (v0 : List Int) (v1 : Int) (v2 : Int) (v3 : List S41) (c2 : (List Int) → Int → Int → (List S41) → Option zq48.R) : Option zq48.R :=
 bif (decide (v1 ≤ (v3.length : Int))) then
  bif (decide (0 ≤ v1)) then
   bif (decide (v1 ≤ (v3.length : Int))) then
    bif (decide (0 ≤ v1)) then
     (zq73.g N v2 ((v3.take (v1 : Int).toNat).drop (0 : Int).toNat)).bind fun r1 =>
     bif (Nat.blt (v0.length + ([(r1.length : Int)] : List Int).length) 17592186044416) then
      c2 (v0 ++ ([(r1.length : Int)] : List Int)) (w64 (v1 + 1)) v2 v3
     else
     none
    else
    none
   else
   none
  else
  none
 else
 some (v0, true)
theorem zq48.o2.run (N : Nat) (Kn122 : St D0 → Option zq48.R) (v0 : List Int) (v1 : Int) (v2 : Int) (v3 : List S41) : runC zq48.C (zq48.O N) N zq48.c244 244 (mkSt [(1, .one (.ptr 1 0)), (4, .one (.sl true 3 v0)), (5, .one (.int .i64 v1))] [(1, some (24, [.int .i64 v2, .sl false 41 v3]))] : St D0) ((fun up => (onN (fun s => zq48.C.tidy 122 s ((onN Kn122 up) .normal)) (onN Kn122 up))) (blockK 0 (onN (fun s => zq48.C.tidy 30 s (fun s' => runC zq48.C (zq48.O N) N zq48.c31 31 s' zq48.K0)) zq48.K0))) = zq48.o2 N v0 v1 v2 v3 ((fun w0 w1 w2 w3 => Kn122 (mkSt [(1, .one (.ptr 1 0)), (4, .one (.sl true 3 w0)), (5, .one (.int .i64 w1))] [(1, some (24, [.int .i64 w2, .sl false 41 w3]))] : St D0))) := by kernel_rfl
noncomputable def zq48.d2 (N : Nat) (v0 : List Int) (v1 : Int) (v2 : Int) (v3 : List S41) (c2 : (List Int) → Int → Int → (List S41) → Option zq48.R) : Option zq48.R := zq48.o2 N v0 v1 v2 v3 c2
theorem zq48.d2.run (N : Nat) (Kn122 : St D0 → Option zq48.R) (v0 : List Int) (v1 : Int) (v2 : Int) (v3 : List S41) : runC zq48.C (zq48.O N) N zq48.c244 244 (mkSt [(1, .one (.ptr 1 0)), (4, .one (.sl true 3 v0)), (5, .one (.int .i64 v1))] [(1, some (24, [.int .i64 v2, .sl false 41 v3]))] : St D0) (zq48.K244 N Kn122) = zq48.d2 N v0 v1 v2 v3 ((fun w0 w1 w2 w3 => Kn122 (mkSt [(1, .one (.ptr 1 0)), (4, .one (.sl true 3 w0)), (5, .one (.int .i64 w1))] [(1, some (24, [.int .i64 w2, .sl false 41 w3]))] : St D0))) := by
  exact (zq48.o2.run N Kn122 v0 v1 v2 v3).trans rfl
noncomputable def zq48.K122 (N : Nat) : Ex → St D0 → Option zq48.R := (blockK 0 (onN (fun s => zq48.C.tidy 30 s (fun s' => runC zq48.C (zq48.O N) N zq48.c31 31 s' zq48.K0)) zq48.K0))
mutual
noncomputable def zq48.l1 (N : Nat) : Nat → Int → Int → (List S41) → Option zq48.R
  | 0, _, _, _ => none
  | n + 1, v0, v1, v2 => zq48.d1 N v0 v1 v2 ((fun w0 w1 w2 w3 => zq48.l2 N n w0 w1 w2 w3))
noncomputable def zq48.l2 (N : Nat) : Nat → (List Int) → Int → Int → (List S41) → Option zq48.R
  | 0, _, _, _, _ => none
  | n + 1, v0, v1, v2, v3 => zq48.d2 N v0 v1 v2 v3 ((fun w0 w1 w2 w3 => zq48.l2 N n w0 w1 w2 w3))
end
theorem zq48.loop122 (N : Nat) : ∀ n, (∀ (v0 : Int) (v1 : Int) (v2 : List S41), iter (loopF zq48.C (zq48.O N) N zq48.c244 122) n (mkSt [(1, .one (.ptr 1 0)), (4, .one (.nl)), (5, .one (.int .i64 v0))] [(1, some (24, [.int .i64 v1, .sl false 41 v2]))] : St D0) (zq48.K122 N) = zq48.l1 N n v0 v1 v2) ∧ (∀ (v0 : List Int) (v1 : Int) (v2 : Int) (v3 : List S41), iter (loopF zq48.C (zq48.O N) N zq48.c244 122) n (mkSt [(1, .one (.ptr 1 0)), (4, .one (.sl true 3 v0)), (5, .one (.int .i64 v1))] [(1, some (24, [.int .i64 v2, .sl false 41 v3]))] : St D0) (zq48.K122 N) = zq48.l2 N n v0 v1 v2 v3)
  | 0 => ⟨(fun v0 v1 v2 => rfl), (fun v0 v1 v2 v3 => rfl)⟩
  | n + 1 => ⟨(fun v0 v1 v2 => (zq48.d1.run N (fun s => iter (loopF zq48.C (zq48.O N) N zq48.c244 122) n s (zq48.K122 N)) v0 v1 v2).trans (show _ = zq48.d1 N v0 v1 v2 ((fun w0 w1 w2 w3 => zq48.l2 N n w0 w1 w2 w3)) from (congr rfl (funext fun w0 => funext fun w1 => funext fun w2 => funext fun w3 => (zq48.loop122 N n).2 w0 w1 w2 w3)))), (fun v0 v1 v2 v3 => (zq48.d2.run N (fun s => iter (loopF zq48.C (zq48.O N) N zq48.c244 122) n s (zq48.K122 N)) v0 v1 v2 v3).trans (show _ = zq48.d2 N v0 v1 v2 v3 ((fun w0 w1 w2 w3 => zq48.l2 N n w0 w1 w2 w3)) from (congr rfl (funext fun w0 => funext fun w1 => funext fun w2 => funext fun w3 => (zq48.loop122 N n).2 w0 w1 w2 w3))))⟩
noncomputable def zq48.o0 (N : Nat) (a0_0 : Int) (a0_1 : List S41) (c1 : Int → Int → (List S41) → Option zq48.R) : Option zq48.R :=
 (zq76.g N a0_0 a0_1).bind fun r1 =>
 bif (!r1) then
  some (([] : List Int), false)
 else
 c1 0 a0_0 a0_1
theorem zq48.o0.run (N : Nat) (H244 : Code) (a0_0 : Int) (a0_1 : List S41) : runC zq48.C (zq48.O N) N (.seq zq48.c2 (.seq zq48.c6 (.seq zq48.c14 (.seq (.seq zq48.c60 (.block 0 (.loop H244))) zq48.c31)))) 1 (st0 [.agg [.int .i64 a0_0, .sl false 41 a0_1]] [] : St D0) zq48.K0 = zq48.o0 N a0_0 a0_1 ((fun w0 w1 w2 => iter (loopF zq48.C (zq48.O N) N H244 122) N (mkSt [(1, .one (.ptr 1 0)), (4, .one (.nl)), (5, .one (.int .i64 w0))] [(1, some (24, [.int .i64 w1, .sl false 41 w2]))] : St D0) (blockK 0 (onN (fun s => zq48.C.tidy 30 s (fun s' => runC zq48.C (zq48.O N) N zq48.c31 31 s' zq48.K0)) zq48.K0)))) := by kernel_rfl
noncomputable def zq48.g (N : Nat) (a0_0 : Int) (a0_1 : List S41) : Option zq48.R := zq48.o0 N a0_0 a0_1 ((fun w0 w1 w2 => zq48.l1 N N w0 w1 w2))
theorem zq48.c1_0 : zq48.c1 = (.seq zq48.c2 (.seq zq48.c6 (.seq zq48.c14 (.seq (.seq zq48.c60 (.block 0 (.loop zq48.c244))) zq48.c31)))) := by kernel_rfl
theorem zq48.g.run (N : Nat) (a0_0 : Int) (a0_1 : List S41) : runC zq48.C (zq48.O N) N zq48.c1 1 (st0 [.agg [.int .i64 a0_0, .sl false 41 a0_1]] [] : St D0) zq48.K0 = zq48.g N a0_0 a0_1 := by
  rw [zq48.c1_0]; unfold zq48.g; exact (zq48.o0.run N zq48.c244 a0_0 a0_1).trans (congr rfl (funext fun w0 => funext fun w1 => funext fun w2 => (zq48.loop122 N N).1 w0 w1 w2))
theorem zq48.good (N : Nat) (a0_0 : Int) (a0_1 : List S41) (r : zq48.R) (h : zq48.g N a0_0 a0_1 = some r) : Go.PM.Good Go.Proofs.Tryz.prog T0 18 [.agg [.int .i64 a0_0, .sl false 41 a0_1]] [] (zq48.sig.ret r) (zq48.sig.bs r) :=
  good_fn tabOk0 mixed0 zq48.sig (zq48.E N) Go.Proofs.Tryz.func18 (by kernel_rfl) (by kernel_rfl) 8511 0 0 [(122, [1, 4, 5], [1])] 2114048 false [] [(false, [.own 3]), (false, [.any])] (by kernel_rfl) rfl rfl ((zq48.g.run N a0_0 a0_1).trans h)
noncomputable def zq48.ent (N : Nat) : Ent Go.Proofs.Tryz.prog T0 := mkEnt 18 [(true, [.any, .ro 41])] zq48.sig (fun t => zq48.g N t.1 t.2) (fun t r h => zq48.good N t.1 t.2 r h)
end Go.Proofs.YtpeleommbipeaaaGreatDoor.M

namespace Go.Proofs.YtpeleommbipeaaaGreatDoor.M
open Go Go.PM Go.Proofs.YtpeleommbipeaaaGreatDoor.P
set_option linter.unusedVariables false
set_option maxRecDepth 100000
/-! ### zq0 -/
abbrev zq0.R : Type := Int × Bool
abbrev zq0.sig : Sig := ⟨[(true, 2)], [], [.int .i64, .sl false 41], [(false, 1), (false, 1)], [], [.int .i64, .bool]⟩
noncomputable def zq0.C : Cfg D0 := ⟨Go.Proofs.Tryz.prog, T0, 549759549695, 0, 44, 0, [(12, [1, 16], [1]), (122, [1, 4, 5, 19, 20], [1]), (31334, [1, 4, 5, 6, 7, 19, 20, 39], [1])], 215151017984, false, []⟩
noncomputable def zq0.E (N : Nat) : List (Ent Go.Proofs.Tryz.prog T0) := [zq7.ent N, zq27.ent N]
noncomputable def zq0.O (N : Nat) : Orc D0 zq0.R := orcOf (zq0.E N)
noncomputable def zq0.K0 : Ex → St D0 → Option zq0.R := exitK zq0.C Go.Proofs.Tryz.f19.results.toList [(false, [.any]), (false, [.any])] (decOut zq0.sig)
noncomputable def zq0.c1 : Code := codeAt (Go.Proofs.Tryz.f19.body.getD .skip) []
noncomputable def zq0.c2 : Code := codeAt (Go.Proofs.Tryz.f19.body.getD .skip) [false]
noncomputable def zq0.c7 : Code := codeAt (Go.Proofs.Tryz.f19.body.getD .skip) [true, true]
noncomputable def zq0.c12 : Code := codeAt (Go.Proofs.Tryz.f19.body.getD .skip) [true, false, false]
noncomputable def zq0.c13 : Code := codeAt (Go.Proofs.Tryz.f19.body.getD .skip) [true, false, true]
noncomputable def zq0.c14 : Code := codeAt (Go.Proofs.Tryz.f19.body.getD .skip) [true, true, false]
noncomputable def zq0.c31 : Code := codeAt (Go.Proofs.Tryz.f19.body.getD .skip) [true, true, true, true]
noncomputable def zq0.c60 : Code := codeAt (Go.Proofs.Tryz.f19.body.getD .skip) [true, true, true, false, false]
noncomputable def zq0.c244 : Code := codeAt (Go.Proofs.Tryz.f19.body.getD .skip) [true, true, true, false, true, false, false]
noncomputable def zq0.c488 : Code := codeAt (Go.Proofs.Tryz.f19.body.getD .skip) [true, true, true, false, true, false, false, false]
noncomputable def zq0.c978 : Code := codeAt (Go.Proofs.Tryz.f19.body.getD .skip) [true, true, true, false, true, false, false, true, false]
noncomputable def zq0.c1959 : Code := codeAt (Go.Proofs.Tryz.f19.body.getD .skip) [true, true, true, false, true, false, false, true, true, true]
noncomputable def zq0.c7832 : Code := codeAt (Go.Proofs.Tryz.f19.body.getD .skip) [true, true, true, false, true, false, false, true, true, false, false, false]
noncomputable def zq0.c15666 : Code := codeAt (Go.Proofs.Tryz.f19.body.getD .skip) [true, true, true, false, true, false, false, true, true, false, false, true, false]
noncomputable def zq0.c31334 : Code := codeAt (Go.Proofs.Tryz.f19.body.getD .skip) [true, true, true, false, true, false, false, true, true, false, false, true, true, false]
noncomputable def zq0.c31335 : Code := codeAt (Go.Proofs.Tryz.f19.body.getD .skip) [true, true, true, false, true, false, false, true, true, false, false, true, true, true]
noncomputable def zq0.K31335 (N : Nat) (Kn122 : St D0 → Option zq0.R) : Ex → St D0 → Option zq0.R := (blockK 1 ((fun up => (onN (fun s => zq0.C.tidy 1958 s (fun s' => runC zq0.C (zq0.O N) N zq0.c1959 1959 s' up)) up)) ((fun up => (onN (fun s => zq0.C.tidy 122 s ((onN Kn122 up) .normal)) (onN Kn122 up))) (blockK 0 (onN (fun s => zq0.C.tidy 30 s (fun s' => runC zq0.C (zq0.O N) N zq0.c31 31 s' zq0.K0)) zq0.K0)))))
noncomputable def zq0.o3 (N : Nat) (v0 : Int) (v1 : Int) (v2 : Int) (v3 : Int) (v4 : Int) (v5 : Int) (v6 : Bool) (v7 : Int) (v8 : List S41) (c2 : Int → Int → Int → Int → Int → (List S41) → Option zq0.R) : Option zq0.R :=
 bif v6 then
  c2 v2 v3 v4 (w64 (v5 + 1)) v7 v8
 else
 c2 v0 v1 v4 (w64 (v5 + 1)) v7 v8
theorem zq0.o3.run (N : Nat) (Kn122 : St D0 → Option zq0.R) (v0 : Int) (v1 : Int) (v2 : Int) (v3 : Int) (v4 : Int) (v5 : Int) (v6 : Bool) (v7 : Int) (v8 : List S41) : runC zq0.C (zq0.O N) N zq0.c31335 31335 (mkSt [(1, .one (.ptr 1 0)), (4, .one (.int .i64 v0)), (5, .one (.int .i64 v1)), (6, .one (.int .i64 v2)), (7, .one (.int .i64 v3)), (19, .one (.int .i64 v4)), (20, .one (.int .i64 v5)), (39, .one (.bool v6))] [(1, some (24, [.int .i64 v7, .sl false 41 v8]))] : St D0) (blockK 1 ((fun up => (onN (fun s => zq0.C.tidy 1958 s (fun s' => runC zq0.C (zq0.O N) N zq0.c1959 1959 s' up)) up)) ((fun up => (onN (fun s => zq0.C.tidy 122 s ((onN Kn122 up) .normal)) (onN Kn122 up))) (blockK 0 (onN (fun s => zq0.C.tidy 30 s (fun s' => runC zq0.C (zq0.O N) N zq0.c31 31 s' zq0.K0)) zq0.K0))))) = zq0.o3 N v0 v1 v2 v3 v4 v5 v6 v7 v8 ((fun w0 w1 w2 w3 w4 w5 => Kn122 (mkSt [(1, .one (.ptr 1 0)), (4, .one (.int .i64 w0)), (5, .one (.int .i64 w1)), (19, .one (.int .i64 w2)), (20, .one (.int .i64 w3))] [(1, some (24, [.int .i64 w4, .sl false 41 w5]))] : St D0))) := by kernel_rfl
noncomputable def zq0.d3 (N : Nat) (v0 : Int) (v1 : Int) (v2 : Int) (v3 : Int) (v4 : Int) (v5 : Int) (v6 : Bool) (v7 : Int) (v8 : List S41) (c2 : Int → Int → Int → Int → Int → (List S41) → Option zq0.R) : Option zq0.R := zq0.o3 N v0 v1 v2 v3 v4 v5 v6 v7 v8 c2
theorem zq0.d3.run (N : Nat) (Kn122 : St D0 → Option zq0.R) (v0 : Int) (v1 : Int) (v2 : Int) (v3 : Int) (v4 : Int) (v5 : Int) (v6 : Bool) (v7 : Int) (v8 : List S41) : runC zq0.C (zq0.O N) N zq0.c31335 31335 (mkSt [(1, .one (.ptr 1 0)), (4, .one (.int .i64 v0)), (5, .one (.int .i64 v1)), (6, .one (.int .i64 v2)), (7, .one (.int .i64 v3)), (19, .one (.int .i64 v4)), (20, .one (.int .i64 v5)), (39, .one (.bool v6))] [(1, some (24, [.int .i64 v7, .sl false 41 v8]))] : St D0) (zq0.K31335 N Kn122) = zq0.d3 N v0 v1 v2 v3 v4 v5 v6 v7 v8 ((fun w0 w1 w2 w3 w4 w5 => Kn122 (mkSt [(1, .one (.ptr 1 0)), (4, .one (.int .i64 w0)), (5, .one (.int .i64 w1)), (19, .one (.int .i64 w2)), (20, .one (.int .i64 w3))] [(1, some (24, [.int .i64 w4, .sl false 41 w5]))] : St D0))) := by
  exact (zq0.o3.run N Kn122 v0 v1 v2 v3 v4 v5 v6 v7 v8).trans rfl
noncomputable def zq0.K244 (N : Nat) (Kn122 : St D0 → Option zq0.R) : Ex → St D0 → Option zq0.R := ((fun up => (onN (fun s => zq0.C.tidy 122 s ((onN Kn122 up) .normal)) (onN Kn122 up))) (blockK 0 (onN (fun s => zq0.C.tidy 30 s (fun s' => runC zq0.C (zq0.O N) N zq0.c31 31 s' zq0.K0)) zq0.K0)))
noncomputable def zq0.o2 (N : Nat) (v0 : Int) (v1 : Int) (v2 : Int) (v3 : Int) (v4 : Int) (v5 : List S41) (c3 : Int → Int → Int → Int → Int → Int → Bool → Int → (List S41) → Option zq0.R) : Option zq0.R :=
 bif (decide (v3 < v2)) then
  bif (decide (0 ≤ (w64 (v3 + 1)))) then
   bif (decide ((w64 (v3 + 1)) ≤ (v5.length : Int))) then
    bif (decide (0 ≤ v3)) then
     bif (decide (v3 ≤ (w64 (v3 + 1)))) then
      (zq27.g N v4 ((v5.take ((w64 (v3 + 1)) : Int).toNat).drop (v3 : Int).toNat)).bind fun r1 =>
      bif (decide (v1 < 0)) then
       c3 v0 v1 v3 (r1.length : Int) v2 v3 true v4 v5
      else
      c3 v0 v1 v3 (r1.length : Int) v2 v3 (decide ((r1.length : Int) < v1)) v4 v5
     else
     none
    else
    none
   else
   none
  else
  none
 else
 some (v0, true)
theorem zq0.o2.run (N : Nat) (Kn122 : St D0 → Option zq0.R) (H31335 : Code) (v0 : Int) (v1 : Int) (v2 : Int) (v3 : Int) (v4 : Int) (v5 : List S41) : runC zq0.C (zq0.O N) N (.seq zq0.c488 (.seq zq0.c978 (.seq (.block 1 (.seq zq0.c7832 (.seq zq0.c15666 (.seq zq0.c31334 H31335)))) zq0.c1959))) 244 (mkSt [(1, .one (.ptr 1 0)), (4, .one (.int .i64 v0)), (5, .one (.int .i64 v1)), (19, .one (.int .i64 v2)), (20, .one (.int .i64 v3))] [(1, some (24, [.int .i64 v4, .sl false 41 v5]))] : St D0) ((fun up => (onN (fun s => zq0.C.tidy 122 s ((onN Kn122 up) .normal)) (onN Kn122 up))) (blockK 0 (onN (fun s => zq0.C.tidy 30 s (fun s' => runC zq0.C (zq0.O N) N zq0.c31 31 s' zq0.K0)) zq0.K0))) = zq0.o2 N v0 v1 v2 v3 v4 v5 ((fun w0 w1 w2 w3 w4 w5 w6 w7 w8 => runC zq0.C (zq0.O N) N H31335 31335 (mkSt [(1, .one (.ptr 1 0)), (4, .one (.int .i64 w0)), (5, .one (.int .i64 w1)), (6, .one (.int .i64 w2)), (7, .one (.int .i64 w3)), (19, .one (.int .i64 w4)), (20, .one (.int .i64 w5)), (39, .one (.bool w6))] [(1, some (24, [.int .i64 w7, .sl false 41 w8]))] : St D0) (blockK 1 ((fun up => (onN (fun s => zq0.C.tidy 1958 s (fun s' => runC zq0.C (zq0.O N) N zq0.c1959 1959 s' up)) up)) ((fun up => (onN (fun s => zq0.C.tidy 122 s ((onN Kn122 up) .normal)) (onN Kn122 up))) (blockK 0 (onN (fun s => zq0.C.tidy 30 s (fun s' => runC zq0.C (zq0.O N) N zq0.c31 31 s' zq0.K0)) zq0.K0))))))) := by kernel_rfl
noncomputable def zq0.B15667 (N : Nat) (Kn122 : St D0 → Option zq0.R) : St D0 → Option zq0.R := fun s' => runC zq0.C (zq0.O N) N zq0.c31335 31335 s' (zq0.K31335 N Kn122)
noncomputable def zq0.d2 (N : Nat) (v0 : Int) (v1 : Int) (v2 : Int) (v3 : Int) (v4 : Int) (v5 : List S41) (c2 : Int → Int → Int → Int → Int → (List S41) → Option zq0.R) : Option zq0.R := zq0.o2 N v0 v1 v2 v3 v4 v5 ((fun w0 w1 w2 w3 w4 w5 w6 w7 w8 => zq0.d3 N w0 w1 w2 w3 w4 w5 w6 w7 w8 c2))
theorem zq0.c244_2 : zq0.c244 = (.seq zq0.c488 (.seq zq0.c978 (.seq (.block 1 (.seq zq0.c7832 (.seq zq0.c15666 (.seq zq0.c31334 zq0.c31335)))) zq0.c1959))) := by kernel_rfl
theorem zq0.d2.run (N : Nat) (Kn122 : St D0 → Option zq0.R) (v0 : Int) (v1 : Int) (v2 : Int) (v3 : Int) (v4 : Int) (v5 : List S41) : runC zq0.C (zq0.O N) N zq0.c244 244 (mkSt [(1, .one (.ptr 1 0)), (4, .one (.int .i64 v0)), (5, .one (.int .i64 v1)), (19, .one (.int .i64 v2)), (20, .one (.int .i64 v3))] [(1, some (24, [.int .i64 v4, .sl false 41 v5]))] : St D0) (zq0.K244 N Kn122) = zq0.d2 N v0 v1 v2 v3 v4 v5 ((fun w0 w1 w2 w3 w4 w5 => Kn122 (mkSt [(1, .one (.ptr 1 0)), (4, .one (.int .i64 w0)), (5, .one (.int .i64 w1)), (19, .one (.int .i64 w2)), (20, .one (.int .i64 w3))] [(1, some (24, [.int .i64 w4, .sl false 41 w5]))] : St D0))) := by
  rw [zq0.c244_2]; unfold zq0.d2; exact (zq0.o2.run N Kn122 zq0.c31335 v0 v1 v2 v3 v4 v5).trans (congr rfl (funext fun w0 => funext fun w1 => funext fun w2 => funext fun w3 => funext fun w4 => funext fun w5 => funext fun w6 => funext fun w7 => funext fun w8 => zq0.d3.run N Kn122 w0 w1 w2 w3 w4 w5 w6 w7 w8))
noncomputable def zq0.K122 (N : Nat) : Ex → St D0 → Option zq0.R := (blockK 0 (onN (fun s => zq0.C.tidy 30 s (fun s' => runC zq0.C (zq0.O N) N zq0.c31 31 s' zq0.K0)) zq0.K0))
noncomputable def zq0.l2 (N : Nat) : Nat → Int → Int → Int → Int → Int → (List S41) → Option zq0.R
  | 0, _, _, _, _, _, _ => none
  | n + 1, v0, v1, v2, v3, v4, v5 => zq0.d2 N v0 v1 v2 v3 v4 v5 ((fun w0 w1 w2 w3 w4 w5 => zq0.l2 N n w0 w1 w2 w3 w4 w5))
theorem zq0.loop122 (N : Nat) : ∀ n, (∀ (v0 : Int) (v1 : Int) (v2 : Int) (v3 : Int) (v4 : Int) (v5 : List S41), iter (loopF zq0.C (zq0.O N) N zq0.c244 122) n (mkSt [(1, .one (.ptr 1 0)), (4, .one (.int .i64 v0)), (5, .one (.int .i64 v1)), (19, .one (.int .i64 v2)), (20, .one (.int .i64 v3))] [(1, some (24, [.int .i64 v4, .sl false 41 v5]))] : St D0) (zq0.K122 N) = zq0.l2 N n v0 v1 v2 v3 v4 v5)
  | 0 => (fun v0 v1 v2 v3 v4 v5 => rfl)
  | n + 1 => (fun v0 v1 v2 v3 v4 v5 => (zq0.d2.run N (fun s => iter (loopF zq0.C (zq0.O N) N zq0.c244 122) n s (zq0.K122 N)) v0 v1 v2 v3 v4 v5).trans (show _ = zq0.d2 N v0 v1 v2 v3 v4 v5 ((fun w0 w1 w2 w3 w4 w5 => zq0.l2 N n w0 w1 w2 w3 w4 w5)) from (congr rfl (funext fun w0 => funext fun w1 => funext fun w2 => funext fun w3 => funext fun w4 => funext fun w5 => (zq0.loop122 N n) w0 w1 w2 w3 w4 w5))))
noncomputable def zq0.K13 (N : Nat) : Ex → St D0 → Option zq0.R := (onN (fun s => zq0.C.tidy 6 s (fun s' => runC zq0.C (zq0.O N) N zq0.c7 7 s' zq0.K0)) zq0.K0)
noncomputable def zq0.o1 (N : Nat) (v0 : Bool) (v1 : Int) (v2 : List S41) (c2 : Int → Int → Int → Int → Int → (List S41) → Option zq0.R) : Option zq0.R :=
 bif v0 then
  some (0, false)
 else
 c2 0 (-1) (v2.length : Int) 0 v1 v2
theorem zq0.o1.run (N : Nat) (H244 : Code) (v0 : Bool) (v1 : Int) (v2 : List S41) : runC zq0.C (zq0.O N) N zq0.c13 13 (mkSt [(1, .one (.ptr 1 0)), (16, .one (.bool v0))] [(1, some (24, [.int .i64 v1, .sl false 41 v2]))] : St D0) (onN (fun s => zq0.C.tidy 6 s (fun s' => runC zq0.C (zq0.O N) N (.seq zq0.c14 (.seq (.seq zq0.c60 (.block 0 (.loop H244))) zq0.c31)) 7 s' zq0.K0)) zq0.K0) = zq0.o1 N v0 v1 v2 ((fun w0 w1 w2 w3 w4 w5 => iter (loopF zq0.C (zq0.O N) N H244 122) N (mkSt [(1, .one (.ptr 1 0)), (4, .one (.int .i64 w0)), (5, .one (.int .i64 w1)), (19, .one (.int .i64 w2)), (20, .one (.int .i64 w3))] [(1, some (24, [.int .i64 w4, .sl false 41 w5]))] : St D0) (blockK 0 (onN (fun s => zq0.C.tidy 30 s (fun s' => runC zq0.C (zq0.O N) N zq0.c31 31 s' zq0.K0)) zq0.K0)))) := by kernel_rfl
noncomputable def zq0.d1 (N : Nat) (v0 : Bool) (v1 : Int) (v2 : List S41) : Option zq0.R := zq0.o1 N v0 v1 v2 ((fun w0 w1 w2 w3 w4 w5 => zq0.l2 N N w0 w1 w2 w3 w4 w5))
theorem zq0.d1.run (N : Nat) (v0 : Bool) (v1 : Int) (v2 : List S41) : runC zq0.C (zq0.O N) N zq0.c13 13 (mkSt [(1, .one (.ptr 1 0)), (16, .one (.bool v0))] [(1, some (24, [.int .i64 v1, .sl false 41 v2]))] : St D0) (zq0.K13 N) = zq0.d1 N v0 v1 v2 := by
  unfold zq0.d1; exact (zq0.o1.run N zq0.c244 v0 v1 v2).trans (congr rfl (funext fun w0 => funext fun w1 => funext fun w2 => funext fun w3 => funext fun w4 => funext fun w5 => (zq0.loop122 N N) w0 w1 w2 w3 w4 w5))
noncomputable def zq0.o0 (N : Nat) (a0_0 : Int) (a0_1 : List S41) (c1 : Bool → Int → (List S41) → Option zq0.R) : Option zq0.R :=
 (zq7.g N a0_0 a0_1).bind fun r1 =>
 bif (!r1) then
  c1 true a0_0 a0_1
 else
 c1 ((a0_1.length : Int) == 0) a0_0 a0_1
theorem zq0.o0.run (N : Nat) (H13 : Code) (a0_0 : Int) (a0_1 : List S41) : runC zq0.C (zq0.O N) N (.seq zq0.c2 (.seq (.seq zq0.c12 H13) zq0.c7)) 1 (st0 [.agg [.int .i64 a0_0, .sl false 41 a0_1]] [] : St D0) zq0.K0 = zq0.o0 N a0_0 a0_1 ((fun w0 w1 w2 => runC zq0.C (zq0.O N) N H13 13 (mkSt [(1, .one (.ptr 1 0)), (16, .one (.bool w0))] [(1, some (24, [.int .i64 w1, .sl false 41 w2]))] : St D0) (onN (fun s => zq0.C.tidy 6 s (fun s' => runC zq0.C (zq0.O N) N zq0.c7 7 s' zq0.K0)) zq0.K0))) := by kernel_rfl
noncomputable def zq0.B6 (N : Nat) : St D0 → Option zq0.R := fun s' => runC zq0.C (zq0.O N) N zq0.c13 13 s' (zq0.K13 N)
noncomputable def zq0.g (N : Nat) (a0_0 : Int) (a0_1 : List S41) : Option zq0.R := zq0.o0 N a0_0 a0_1 ((fun w0 w1 w2 => zq0.d1 N w0 w1 w2))
theorem zq0.c1_0 : zq0.c1 = (.seq zq0.c2 (.seq (.seq zq0.c12 zq0.c13) zq0.c7)) := by kernel_rfl
theorem zq0.g.run (N : Nat) (a0_0 : Int) (a0_1 : List S41) : runC zq0.C (zq0.O N) N zq0.c1 1 (st0 [.agg [.int .i64 a0_0, .sl false 41 a0_1]] [] : St D0) zq0.K0 = zq0.g N a0_0 a0_1 := by
  rw [zq0.c1_0]; unfold zq0.g; exact (zq0.o0.run N zq0.c13 a0_0 a0_1).trans (congr rfl (funext fun w0 => funext fun w1 => funext fun w2 => zq0.d1.run N w0 w1 w2))
theorem zq0.good (N : Nat) (a0_0 : Int) (a0_1 : List S41) (r : zq0.R) (h : zq0.g N a0_0 a0_1 = some r) : Go.PM.Good Go.Proofs.Tryz.prog T0 19 [.agg [.int .i64 a0_0, .sl false 41 a0_1]] [] (zq0.sig.ret r) (zq0.sig.bs r) :=
  good_fn tabOk0 mixed0 zq0.sig (zq0.E N) Go.Proofs.Tryz.func19 (by kernel_rfl) (by kernel_rfl) 549759549695 0 0 [(12, [1, 16], [1]), (122, [1, 4, 5, 19, 20], [1]), (31334, [1, 4, 5, 6, 7, 19, 20, 39], [1])] 215151017984 false [] [(false, [.any]), (false, [.any])] (by kernel_rfl) rfl rfl ((zq0.g.run N a0_0 a0_1).trans h)
noncomputable def zq0.ent (N : Nat) : Ent Go.Proofs.Tryz.prog T0 := mkEnt 19 [(true, [.any, .ro 41])] zq0.sig (fun t => zq0.g N t.1 t.2) (fun t r h => zq0.good N t.1 t.2 r h)
end Go.Proofs.YtpeleommbipeaaaGreatDoor.M

namespace Go.Proofs.YtpeleommbipeaaaGreatDoor.M
open Go Go.PM Go.Proofs.YtpeleommbipeaaaGreatDoor.P
set_option linter.unusedVariables false
set_option maxRecDepth 100000
/-! ### zq43 -/
abbrev zq43.R : Type := Int × Bool
abbrev zq43.sig : Sig := ⟨[(true, 2)], [], [.int .i64, .sl false 41], [(false, 1), (false, 1)], [], [.int .i64, .bool]⟩
noncomputable def zq43.C : Cfg D0 := ⟨Go.Proofs.Tryz.prog, T0, 549759549695, 0, 44, 0, [(12, [1, 16], [1]), (122, [1, 4, 5, 19, 20], [1]), (31334, [1, 4, 5, 6, 7, 19, 20, 39], [1])], 215151017984, false, []⟩
noncomputable def zq43.E (N : Nat) : List (Ent Go.Proofs.Tryz.prog T0) := [zq76.ent N, zq73.ent N]
noncomputable def zq43.O (N : Nat) : Orc D0 zq43.R := orcOf (zq43.E N)
noncomputable def zq43.K0 : Ex → St D0 → Option zq43.R := exitK zq43.C Go.Proofs.Tryz.f20.results.toList [(false, [.any]), (false, [.any])] (decOut zq43.sig)
noncomputable def zq43.c1 : Code := codeAt (Go.Proofs.Tryz.f20.body.getD .skip) []
noncomputable def zq43.c2 : Code := codeAt (Go.Proofs.Tryz.f20.body.getD .skip) [false]
noncomputable def zq43.c7 : Code := codeAt (Go.Proofs.Tryz.f20.body.getD .skip) [true, true]
noncomputable def zq43.c12 : Code := codeAt (Go.Proofs.Tryz.f20.body.getD .skip) [true, false, false]
noncomputable def zq43.c13 : Code := codeAt (Go.Proofs.Tryz.f20.body.getD .skip) [true, false, true]
noncomputable def zq43.c14 : Code := codeAt (Go.Proofs.Tryz.f20.body.getD .skip) [true, true, false]
noncomputable def zq43.c31 : Code := codeAt (Go.Proofs.Tryz.f20.body.getD .skip) [true, true, true, true]
noncomputable def zq43.c60 : Code := codeAt (Go.Proofs.Tryz.f20.body.getD .skip) [true, true, true, false, false]
noncomputable def zq43.c244 : Code := codeAt (Go.Proofs.Tryz.f20.body.getD .skip) [true, true, true, false, true, false, false]
noncomputable def zq43.c488 : Code := codeAt (Go.Proofs.Tryz.f20.body.getD .skip) [true, true, true, false, true, false, false, false]
noncomputable def zq43.c978 : Code := codeAt (Go.Proofs.Tryz.f20.body.getD .skip) [true, true, true, false, true, false, false, true, false]
noncomputable def zq43.c1959 : Code := codeAt (Go.Proofs.Tryz.f20.body.getD .skip) [true, true, true, false, true, false, false, true, true, true]
noncomputable def zq43.c7832 : Code := codeAt (Go.Proofs.Tryz.f20.body.getD .skip) [true, true, true, false, true, false, false, true, true, false, false, false]
noncomputable def zq43.c15666 : Code := codeAt (Go.Proofs.Tryz.f20.body.getD .skip) [true, true, true, false, true, false, false, true, true, false, false, true, false]
noncomputable def zq43.c31334 : Code := codeAt (Go.Proofs.Tryz.f20.body.getD .skip) [true, true, true, false, true, false, false, true, true, false, false, true, true, false]
noncomputable def zq43.c31335 : Code := codeAt (Go.Proofs.Tryz.f20.body.getD .skip) [true, true, true, false, true, false, false, true, true, false, false, true, true, true]
noncomputable def zq43.K31335 (N : Nat) (Kn122 : St D0 → Option zq43.R) : Ex → St D0 → Option zq43.R := (blockK 1 ((fun up => (onN (fun s => zq43.C.tidy 1958 s (fun s' => runC zq43.C (zq43.O N) N zq43.c1959 1959 s' up)) up)) ((fun up => (onN (fun s => zq43.C.tidy 122 s ((onN Kn122 up) .normal)) (onN Kn122 up))) (blockK 0 (onN (fun s => zq43.C.tidy 30 s (fun s' => runC zq43.C (zq43.O N) N zq43.c31 31 s' zq43.K0)) zq43.K0)))))
noncomputable def zq43.o3 (N : Nat) (v0 : Int) (v1 : Int) (v2 : Int) (v3 : Int) (v4 : Int) (v5 : Int) (v6 : Bool) (v7 : Int) (v8 : List S41) (c2 : Int → Int → Int → Int → Int → (List S41) → Option zq43.R) : Option zq43.R :=
 bif v6 then
  c2 v2 v3 v4 (w64 (v5 + 1)) v7 v8
 else
 c2 v0 v1 v4 (w64 (v5 + 1)) v7 v8
theorem zq43.o3.run (N : Nat) (Kn122 : St D0 → Option zq43.R) (v0 : Int) (v1 : Int) (v2 : Int) (v3 : Int) (v4 : Int) (v5 : Int) (v6 : Bool) (v7 : Int) (v8 : List S41) : runC zq43.C (zq43.O N) N zq43.c31335 31335 (mkSt [(1, .one (.ptr 1 0)), (4, .one (.int .i64 v0)), (5, .one (.int .i64 v1)), (6, .one (.int .i64 v2)), (7, .one (.int .i64 v3)), (19, .one (.int .i64 v4)), (20, .one (.int .i64 v5)), (39, .one (.bool v6))] [(1, some (24, [.int .i64 v7, .sl false 41 v8]))] : St D0) (blockK 1 ((fun up => (onN (fun s => zq43.C.tidy 1958 s (fun s' => runC zq43.C (zq43.O N) N zq43.c1959 1959 s' up)) up)) ((fun up => (onN (fun s => zq43.C.tidy 122 s ((onN Kn122 up) .normal)) (onN Kn122 up))) (blockK 0 (onN (fun s => zq43.C.tidy 30 s (fun s' => runC zq43.C (zq43.O N) N zq43.c31 31 s' zq43.K0)) zq43.K0))))) = zq43.o3 N v0 v1 v2 v3 v4 v5 v6 v7 v8 ((fun w0 w1 w2 w3 w4 w5 => Kn122 (mkSt [(1, .one (.ptr 1 0)), (4, .one (.int .i64 w0)), (5, .one (.int .i64 w1)), (19, .one (.int .i64 w2)), (20, .one (.int .i64 w3))] [(1, some (24, [.int .i64 w4, .sl false 41 w5]))] : St D0))) := by kernel_rfl
noncomputable def zq43.d3 (N : Nat) (v0 : Int) (v1 : Int) (v2 : Int) (v3 : Int) (v4 : Int) (v5 : Int) (v6 : Bool) (v7 : Int) (v8 : List S41) (c2 : Int → Int → Int → Int → Int → (List S41) → Option zq43.R) : Option zq43.R := zq43.o3 N v0 v1 v2 v3 v4 v5 v6 v7 v8 c2
theorem zq43.d3.run (N : Nat) (Kn122 : St D0 → Option zq43.R) (v0 : Int) (v1 : Int) (v2 : Int) (v3 : Int) (v4 : Int) (v5 : Int) (v6 : Bool) (v7 : Int) (v8 : List S41) : runC zq43.C (zq43.O N) N zq43.c31335 31335 (mkSt [(1, .one (.ptr 1 0)), (4, .one (.int .i64 v0)), (5, .one (.int .i64 v1)), (6, .one (.int .i64 v2)), (7, .one (.int .i64 v3)), (19, .one (.int .i64 v4)), (20, .one (.int .i64 v5)), (39, .one (.bool v6))] [(1, some (24, [.int .i64 v7, .sl false 41 v8]))] : St D0) (zq43.K31335 N Kn122) = zq43.d3 N v0 v1 v2 v3 v4 v5 v6 v7 v8 ((fun w0 w1 w2 w3 w4 w5 => Kn122 (mkSt [(1, .one (.ptr 1 0)), (4, .one (.int .i64 w0)), (5, .one (.int .i64 w1)), (19, .one (.int .i64 w2)), (20, .one (.int .i64 w3))] [(1, some (24, [.int .i64 w4, .sl false 41 w5]))] : St D0))) := by
  exact (zq43.o3.run N Kn122 v0 v1 v2 v3 v4 v5 v6 v7 v8).trans rfl
noncomputable def zq43.K244 (N : Nat) (Kn122 : St D0 → Option zq43.R) : Ex → St D0 → Option zq43.R := ((fun up => (onN (fun s => zq43.C.tidy 122 s ((onN Kn122 up) .normal)) (onN Kn122 up))) (blockK 0 (onN (fun s => zq43.C.tidy 30 s (fun s' => runC zq43.C (zq43.O N) N zq43.c31 31 s' zq43.K0)) zq43.K0)))
noncomputable def zq43.o2 (N : Nat) (v0 : Int) (v1 : Int) (v2 : Int) (v3 : Int) (v4 : Int) (v5 : List S41) (c3 : Int → Int → Int → Int → Int → Int → Bool → Int → (List S41) → Option zq43.R) : Option zq43.R :=
 bif (decide (v3 < v2)) then
  bif (decide (0 ≤ (w64 (v3 + 1)))) then
   bif (decide ((w64 (v3 + 1)) ≤ (v5.length : Int))) then
    bif (decide (0 ≤ v3)) then
     bif (decide (v3 ≤ (w64 (v3 + 1)))) then
      (zq73.g N v4 ((v5.take ((w64 (v3 + 1)) : Int).toNat).drop (v3 : Int).toNat)).bind fun r1 =>
      bif (v3 == 0) then
       c3 v0 v1 v3 (r1.length : Int) v2 v3 true v4 v5
      else
      c3 v0 v1 v3 (r1.length : Int) v2 v3 (decide ((r1.length : Int) < v1)) v4 v5
     else
     none
    else
    none
   else
   none
  else
  none
 else
 some (v0, true)
theorem zq43.o2.run (N : Nat) (Kn122 : St D0 → Option zq43.R) (H31335 : Code) (v0 : Int) (v1 : Int) (v2 : Int) (v3 : Int) (v4 : Int) (v5 : List S41) : runC zq43.C (zq43.O N) N (.seq zq43.c488 (.seq zq43.c978 (.seq (.block 1 (.seq zq43.c7832 (.seq zq43.c15666 (.seq zq43.c31334 H31335)))) zq43.c1959))) 244 (mkSt [(1, .one (.ptr 1 0)), (4, .one (.int .i64 v0)), (5, .one (.int .i64 v1)), (19, .one (.int .i64 v2)), (20, .one (.int .i64 v3))] [(1, some (24, [.int .i64 v4, .sl false 41 v5]))] : St D0) ((fun up => (onN (fun s => zq43.C.tidy 122 s ((onN Kn122 up) .normal)) (onN Kn122 up))) (blockK 0 (onN (fun s => zq43.C.tidy 30 s (fun s' => runC zq43.C (zq43.O N) N zq43.c31 31 s' zq43.K0)) zq43.K0))) = zq43.o2 N v0 v1 v2 v3 v4 v5 ((fun w0 w1 w2 w3 w4 w5 w6 w7 w8 => runC zq43.C (zq43.O N) N H31335 31335 (mkSt [(1, .one (.ptr 1 0)), (4, .one (.int .i64 w0)), (5, .one (.int .i64 w1)), (6, .one (.int .i64 w2)), (7, .one (.int .i64 w3)), (19, .one (.int .i64 w4)), (20, .one (.int .i64 w5)), (39, .one (.bool w6))] [(1, some (24, [.int .i64 w7, .sl false 41 w8]))] : St D0) (blockK 1 ((fun up => (onN (fun s => zq43.C.tidy 1958 s (fun s' => runC zq43.C (zq43.O N) N zq43.c1959 1959 s' up)) up)) ((fun up => (onN (fun s => zq43.C.tidy 122 s ((onN Kn122 up) .normal)) (onN Kn122 up))) (blockK 0 (onN (fun s => zq43.C.tidy 30 s (fun s' => runC zq43.C (zq43.O N) N zq43.c31 31 s' zq43.K0)) zq43.K0))))))) := by kernel_rfl
noncomputable def zq43.B15667 (N : Nat) (Kn122 : St D0 → Option zq43.R) : St D0 → Option zq43.R := fun s' => runC zq43.C (zq43.O N) N zq43.c31335 31335 s' (zq43.K31335 N Kn122)
noncomputable def zq43.d2 (N : Nat) (v0 : Int) (v1 : Int) (v2 : Int) (v3 : Int) (v4 : Int) (v5 : List S41) (c2 : Int → Int → Int → Int → Int → (List S41) → Option zq43.R) : Option zq43.R := zq43.o2 N v0 v1 v2 v3 v4 v5 ((fun w0 w1 w2 w3 w4 w5 w6 w7 w8 => zq43.d3 N w0 w1 w2 w3 w4 w5 w6 w7 w8 c2))
theorem zq43.c244_2 : zq43.c244 = (.seq zq43.c488 (.seq zq43.c978 (.seq (.block 1 (.seq zq43.c7832 (.seq zq43.c15666 (.seq zq43.c31334 zq43.c31335)))) zq43.c1959))) := by kernel_rfl
theorem zq43.d2.run (N : Nat) (Kn122 : St D0 → Option zq43.R) (v0 : Int) (v1 : Int) (v2 : Int) (v3 : Int) (v4 : Int) (v5 : List S41) : runC zq43.C (zq43.O N) N zq43.c244 244 (mkSt [(1, .one (.ptr 1 0)), (4, .one (.int .i64 v0)), (5, .one (.int .i64 v1)), (19, .one (.int .i64 v2)), (20, .one (.int .i64 v3))] [(1, some (24, [.int .i64 v4, .sl false 41 v5]))] : St D0) (zq43.K244 N Kn122) = zq43.d2 N v0 v1 v2 v3 v4 v5 ((fun w0 w1 w2 w3 w4 w5 => Kn122 (mkSt [(1, .one (.ptr 1 0)), (4, .one (.int .i64 w0)), (5, .one (.int .i64 w1)), (19, .one (.int .i64 w2)), (20, .one (.int .i64 w3))] [(1, some (24, [.int .i64 w4, .sl false 41 w5]))] : St D0))) := by
  rw [zq43.c244_2]; unfold zq43.d2; exact (zq43.o2.run N Kn122 zq43.c31335 v0 v1 v2 v3 v4 v5).trans (congr rfl (funext fun w0 => funext fun w1 => funext fun w2 => funext fun w3 => funext fun w4 => funext fun w5 => funext fun w6 => funext fun w7 => funext fun w8 => zq43.d3.run N Kn122 w0 w1 w2 w3 w4 w5 w6 w7 w8))
noncomputable def zq43.K122 (N : Nat) : Ex → St D0 → Option zq43.R := (blockK 0 (onN (fun s => zq43.C.tidy 30 s (fun s' => runC zq43.C (zq43.O N) N zq43.c31 31 s' zq43.K0)) zq43.K0))
noncomputable def zq43.l2 (N : Nat) : Nat → Int → Int → Int → Int → Int → (List S41) → Option zq43.R
  | 0, _, _, _, _, _, _ => none
  | n + 1, v0, v1, v2, v3, v4, v5 => zq43.d2 N v0 v1 v2 v3 v4 v5 ((fun w0 w1 w2 w3 w4 w5 => zq43.l2 N n w0 w1 w2 w3 w4 w5))
theorem zq43.loop122 (N : Nat) : ∀ n, (∀ (v0 : Int) (v1 : Int) (v2 : Int) (v3 : Int) (v4 : Int) (v5 : List S41), iter (loopF zq43.C (zq43.O N) N zq43.c244 122) n (mkSt [(1, .one (.ptr 1 0)), (4, .one (.int .i64 v0)), (5, .one (.int .i64 v1)), (19, .one (.int .i64 v2)), (20, .one (.int .i64 v3))] [(1, some (24, [.int .i64 v4, .sl false 41 v5]))] : St D0) (zq43.K122 N) = zq43.l2 N n v0 v1 v2 v3 v4 v5)
  | 0 => (fun v0 v1 v2 v3 v4 v5 => rfl)
  | n + 1 => (fun v0 v1 v2 v3 v4 v5 => (zq43.d2.run N (fun s => iter (loopF zq43.C (zq43.O N) N zq43.c244 122) n s (zq43.K122 N)) v0 v1 v2 v3 v4 v5).trans (show _ = zq43.d2 N v0 v1 v2 v3 v4 v5 ((fun w0 w1 w2 w3 w4 w5 => zq43.l2 N n w0 w1 w2 w3 w4 w5)) from (congr rfl (funext fun w0 => funext fun w1 => funext fun w2 => funext fun w3 => funext fun w4 => funext fun w5 => (zq43.loop122 N n) w0 w1 w2 w3 w4 w5))))
noncomputable def zq43.K13 (N : Nat) : Ex → St D0 → Option zq43.R := (onN (fun s => zq43.C.tidy 6 s (fun s' => runC zq43.C (zq43.O N) N zq43.c7 7 s' zq43.K0)) zq43.K0)
noncomputable def zq43.o1 (N : Nat) (v0 : Bool) (v1 : Int) (v2 : List S41) (c2 : Int → Int → Int → Int → Int → (List S41) → Option zq43.R) : Option zq43.R :=
 bif v0 then
  some (0, false)
 else
 c2 0 0 (v2.length : Int) 0 v1 v2
theorem zq43.o1.run (N : Nat) (H244 : Code) (v0 : Bool) (v1 : Int) (v2 : List S41) : runC zq43.C (zq43.O N) N zq43.c13 13 (mkSt [(1, .one (.ptr 1 0)), (16, .one (.bool v0))] [(1, some (24, [.int .i64 v1, .sl false 41 v2]))] : St D0) (onN (fun s => zq43.C.tidy 6 s (fun s' => runC zq43.C (zq43.O N) N (.seq zq43.c14 (.seq (.seq zq43.c60 (.block 0 (.loop H244))) zq43.c31)) 7 s' zq43.K0)) zq43.K0) = zq43.o1 N v0 v1 v2 ((fun w0 w1 w2 w3 w4 w5 => iter (loopF zq43.C (zq43.O N) N H244 122) N (mkSt [(1, .one (.ptr 1 0)), (4, .one (.int .i64 w0)), (5, .one (.int .i64 w1)), (19, .one (.int .i64 w2)), (20, .one (.int .i64 w3))] [(1, some (24, [.int .i64 w4, .sl false 41 w5]))] : St D0) (blockK 0 (onN (fun s => zq43.C.tidy 30 s (fun s' => runC zq43.C (zq43.O N) N zq43.c31 31 s' zq43.K0)) zq43.K0)))) := by kernel_rfl
noncomputable def zq43.d1 (N : Nat) (v0 : Bool) (v1 : Int) (v2 : List S41) : Option zq43.R := zq43.o1 N v0 v1 v2 ((fun w0 w1 w2 w3 w4 w5 => zq43.l2 N N w0 w1 w2 w3 w4 w5))
theorem zq43.d1.run (N : Nat) (v0 : Bool) (v1 : Int) (v2 : List S41) : runC zq43.C (zq43.O N) N zq43.c13 13 (mkSt [(1, .one (.ptr 1 0)), (16, .one (.bool v0))] [(1, some (24, [.int .i64 v1, .sl false 41 v2]))] : St D0) (zq43.K13 N) = zq43.d1 N v0 v1 v2 := by
  unfold zq43.d1; exact (zq43.o1.run N zq43.c244 v0 v1 v2).trans (congr rfl (funext fun w0 => funext fun w1 => funext fun w2 => funext fun w3 => funext fun w4 => funext fun w5 => (zq43.loop122 N N) w0 w1 w2 w3 w4 w5))
noncomputable def zq43.o0 (N : Nat) (a0_0 : Int) (a0_1 : List S41) (c1 : Bool → Int → (List S41) → Option zq43.R) : Option zq43.R :=
 (zq76.g N a0_0 a0_1).bind fun r1 =>
 bif (!r1) then
  c1 true a0_0 a0_1
 else
 c1 ((a0_1.length : Int) == 0) a0_0 a0_1
theorem zq43.o0.run (N : Nat) (H13 : Code) (a0_0 : Int) (a0_1 : List S41) : runC zq43.C (zq43.O N) N (.seq zq43.c2 (.seq (.seq zq43.c12 H13) zq43.c7)) 1 (st0 [.agg [.int .i64 a0_0, .sl false 41 a0_1]] [] : St D0) zq43.K0 = zq43.o0 N a0_0 a0_1 ((fun w0 w1 w2 => runC zq43.C (zq43.O N) N H13 13 (mkSt [(1, .one (.ptr 1 0)), (16, .one (.bool w0))] [(1, some (24, [.int .i64 w1, .sl false 41 w2]))] : St D0) (onN (fun s => zq43.C.tidy 6 s (fun s' => runC zq43.C (zq43.O N) N zq43.c7 7 s' zq43.K0)) zq43.K0))) := by kernel_rfl
noncomputable def zq43.B6 (N : Nat) : St D0 → Option zq43.R := fun s' => runC zq43.C (zq43.O N) N zq43.c13 13 s' (zq43.K13 N)
noncomputable def zq43.g (N : Nat) (a0_0 : Int) (a0_1 : List S41) : Option zq43.R := zq43.o0 N a0_0 a0_1 ((fun w0 w1 w2 => zq43.d1 N w0 w1 w2))
theorem zq43.c1_0 : zq43.c1 = (.seq zq43.c2 (.seq (.seq zq43.c12 zq43.c13) zq43.c7)) := by kernel_rfl
theorem zq43.g.run (N : Nat) (a0_0 : Int) (a0_1 : List S41) : runC zq43.C (zq43.O N) N zq43.c1 1 (st0 [.agg [.int .i64 a0_0, .sl false 41 a0_1]] [] : St D0) zq43.K0 = zq43.g N a0_0 a0_1 := by
  rw [zq43.c1_0]; unfold zq43.g; exact (zq43.o0.run N zq43.c13 a0_0 a0_1).trans (congr rfl (funext fun w0 => funext fun w1 => funext fun w2 => zq43.d1.run N w0 w1 w2))
theorem zq43.good (N : Nat) (a0_0 : Int) (a0_1 : List S41) (r : zq43.R) (h : zq43.g N a0_0 a0_1 = some r) : Go.PM.Good Go.Proofs.Tryz.prog T0 20 [.agg [.int .i64 a0_0, .sl false 41 a0_1]] [] (zq43.sig.ret r) (zq43.sig.bs r) :=
  good_fn tabOk0 mixed0 zq43.sig (zq43.E N) Go.Proofs.Tryz.func20 (by kernel_rfl) (by kernel_rfl) 549759549695 0 0 [(12, [1, 16], [1]), (122, [1, 4, 5, 19, 20], [1]), (31334, [1, 4, 5, 6, 7, 19, 20, 39], [1])] 215151017984 false [] [(false, [.any]), (false, [.any])] (by kernel_rfl) rfl rfl ((zq43.g.run N a0_0 a0_1).trans h)
noncomputable def zq43.ent (N : Nat) : Ent Go.Proofs.Tryz.prog T0 := mkEnt 20 [(true, [.any, .ro 41])] zq43.sig (fun t => zq43.g N t.1 t.2) (fun t r h => zq43.good N t.1 t.2 r h)
end Go.Proofs.YtpeleommbipeaaaGreatDoor.M

namespace Go.Proofs.YtpeleommbipeaaaGreatDoor.M
open Go Go.PM Go.Proofs.YtpeleommbipeaaaGreatDoor.P
set_option linter.unusedVariables false
set_option maxRecDepth 100000
/-! ### zq46 -/
abbrev zq46.R : Type := Bool
abbrev zq46.sig : Sig := ⟨[(true, 2)], [], [.int .i64, .sl false 41], [(false, 1)], [], [.bool]⟩
noncomputable def zq46.C : Cfg D0 := ⟨Go.Proofs.Tryz.prog, T0, 7, 0, 5, 0, [], 0, false, []⟩
noncomputable def zq46.E (N : Nat) : List (Ent Go.Proofs.Tryz.prog T0) := [zq76.ent N]
noncomputable def zq46.O (N : Nat) : Orc D0 zq46.R := orcOf (zq46.E N)
noncomputable def zq46.K0 : Ex → St D0 → Option zq46.R := exitK zq46.C Go.Proofs.Tryz.f26.results.toList [(false, [.any])] (decOut zq46.sig)
noncomputable def zq46.c1 : Code := codeAt (Go.Proofs.Tryz.f26.body.getD .skip) []
noncomputable def zq46.o0 (N : Nat) (a0_0 : Int) (a0_1 : List S41) : Option zq46.R :=
 (zq76.g N a0_0 a0_1).bind fun r1 =>
 some (r1)
theorem zq46.o0.run (N : Nat) (a0_0 : Int) (a0_1 : List S41) : runC zq46.C (zq46.O N) N zq46.c1 1 (st0 [.agg [.int .i64 a0_0, .sl false 41 a0_1]] [] : St D0) zq46.K0 = zq46.o0 N a0_0 a0_1 := by kernel_rfl
noncomputable def zq46.g (N : Nat) (a0_0 : Int) (a0_1 : List S41) : Option zq46.R := zq46.o0 N a0_0 a0_1
theorem zq46.g.run (N : Nat) (a0_0 : Int) (a0_1 : List S41) : runC zq46.C (zq46.O N) N zq46.c1 1 (st0 [.agg [.int .i64 a0_0, .sl false 41 a0_1]] [] : St D0) zq46.K0 = zq46.g N a0_0 a0_1 := by
  exact (zq46.o0.run N a0_0 a0_1).trans rfl
theorem zq46.good (N : Nat) (a0_0 : Int) (a0_1 : List S41) (r : zq46.R) (h : zq46.g N a0_0 a0_1 = some r) : Go.PM.Good Go.Proofs.Tryz.prog T0 26 [.agg [.int .i64 a0_0, .sl false 41 a0_1]] [] (zq46.sig.ret r) (zq46.sig.bs r) :=
  good_fn tabOk0 mixed0 zq46.sig (zq46.E N) Go.Proofs.Tryz.func26 (by kernel_rfl) (by kernel_rfl) 7 0 0 [] 0 false [] [(false, [.any])] (by kernel_rfl) rfl rfl ((zq46.g.run N a0_0 a0_1).trans h)
noncomputable def zq46.ent (N : Nat) : Ent Go.Proofs.Tryz.prog T0 := mkEnt 26 [(true, [.any, .ro 41])] zq46.sig (fun t => zq46.g N t.1 t.2) (fun t r h => zq46.good N t.1 t.2 r h)
end Go.Proofs.YtpeleommbipeaaaGreatDoor.M

namespace Go.Proofs.YtpeleommbipeaaaGreatDoor.M
open Go Go.PM Go.Proofs.YtpeleommbipeaaaGreatDoor.P
set_option linter.unusedVariables false
set_option maxRecDepth 100000
/-! ### zq37 -/
abbrev zq37.R : Type := Bool
abbrev zq37.sig : Sig := ⟨[(false, 1), (false, 1)], [], [.sl false 46, .sl false 46], [(false, 1)], [], [.bool]⟩
noncomputable def zq37.C : Cfg D0 := ⟨Go.Proofs.Tryz.prog, T0, 16806963, 0, 26, 0, [(58, [0, 1, 12, 13], [])], 3344704, false, []⟩
noncomputable def zq37.E (N : Nat) : List (Ent Go.Proofs.Tryz.prog T0) := []
noncomputable def zq37.O (N : Nat) : Orc D0 zq37.R := orcOf (zq37.E N)
noncomputable def zq37.K0 : Ex → St D0 → Option zq37.R := exitK zq37.C Go.Proofs.Tryz.f24.results.toList [(false, [.any])] (decOut zq37.sig)
noncomputable def zq37.c1 : Code := codeAt (Go.Proofs.Tryz.f24.body.getD .skip) []
noncomputable def zq37.c2 : Code := codeAt (Go.Proofs.Tryz.f24.body.getD .skip) [false]
noncomputable def zq37.c6 : Code := codeAt (Go.Proofs.Tryz.f24.body.getD .skip) [true, false]
noncomputable def zq37.c15 : Code := codeAt (Go.Proofs.Tryz.f24.body.getD .skip) [true, true, true]
noncomputable def zq37.c28 : Code := codeAt (Go.Proofs.Tryz.f24.body.getD .skip) [true, true, false, false]
noncomputable def zq37.c116 : Code := codeAt (Go.Proofs.Tryz.f24.body.getD .skip) [true, true, false, true, false, false]
noncomputable def zq37.K116 (N : Nat) (Kn58 : St D0 → Option zq37.R) : Ex → St D0 → Option zq37.R := ((fun up => (onN (fun s => zq37.C.tidy 58 s ((onN Kn58 up) .normal)) (onN Kn58 up))) (blockK 0 (onN (fun s => zq37.C.tidy 14 s (fun s' => runC zq37.C (zq37.O N) N zq37.c15 15 s' zq37.K0)) zq37.K0)))
noncomputable def zq37.o1 (N : Nat) (v0 : List S46) (v1 : List S46) (v2 : Int) (v3 : Int) (c1 : (List S46) → (List S46) → Int → Int → Option zq37.R) : Option zq37.R :=
 bif (decide (v3 < v2)) then
  bif (decide (0 ≤ v3)) then
   bif (decide (v3 < (v0.length : Int))) then
    (v0[(v3 : Int).toNat]?).bind fun x1 =>
    bif (decide (0 ≤ v3)) then
     bif (decide (v3 < (v1.length : Int))) then
      (v1[(v3 : Int).toNat]?).bind fun x2 =>
      bif (!((x1.f0 == x2.f0) && ((x1.f1 == x2.f1) && true))) then
       some (false)
      else
      c1 v0 v1 v2 (w64 (v3 + 1))
     else
     none
    else
    none
   else
   none
  else
  none
 else
 some (true)
theorem zq37.o1.run (N : Nat) (Kn58 : St D0 → Option zq37.R) (v0 : List S46) (v1 : List S46) (v2 : Int) (v3 : Int) : runC zq37.C (zq37.O N) N zq37.c116 116 (mkSt [(0, .one (.sl false 46 v0)), (1, .one (.sl false 46 v1)), (12, .one (.int .i64 v2)), (13, .one (.int .i64 v3))] [] : St D0) ((fun up => (onN (fun s => zq37.C.tidy 58 s ((onN Kn58 up) .normal)) (onN Kn58 up))) (blockK 0 (onN (fun s => zq37.C.tidy 14 s (fun s' => runC zq37.C (zq37.O N) N zq37.c15 15 s' zq37.K0)) zq37.K0))) = zq37.o1 N v0 v1 v2 v3 ((fun w0 w1 w2 w3 => Kn58 (mkSt [(0, .one (.sl false 46 w0)), (1, .one (.sl false 46 w1)), (12, .one (.int .i64 w2)), (13, .one (.int .i64 w3))] [] : St D0))) := by kernel_rfl
noncomputable def zq37.d1 (N : Nat) (v0 : List S46) (v1 : List S46) (v2 : Int) (v3 : Int) (c1 : (List S46) → (List S46) → Int → Int → Option zq37.R) : Option zq37.R := zq37.o1 N v0 v1 v2 v3 c1
theorem zq37.d1.run (N : Nat) (Kn58 : St D0 → Option zq37.R) (v0 : List S46) (v1 : List S46) (v2 : Int) (v3 : Int) : runC zq37.C (zq37.O N) N zq37.c116 116 (mkSt [(0, .one (.sl false 46 v0)), (1, .one (.sl false 46 v1)), (12, .one (.int .i64 v2)), (13, .one (.int .i64 v3))] [] : St D0) (zq37.K116 N Kn58) = zq37.d1 N v0 v1 v2 v3 ((fun w0 w1 w2 w3 => Kn58 (mkSt [(0, .one (.sl false 46 w0)), (1, .one (.sl false 46 w1)), (12, .one (.int .i64 w2)), (13, .one (.int .i64 w3))] [] : St D0))) := by
  exact (zq37.o1.run N Kn58 v0 v1 v2 v3).trans rfl
noncomputable def zq37.K58 (N : Nat) : Ex → St D0 → Option zq37.R := (blockK 0 (onN (fun s => zq37.C.tidy 14 s (fun s' => runC zq37.C (zq37.O N) N zq37.c15 15 s' zq37.K0)) zq37.K0))
noncomputable def zq37.l1 (N : Nat) : Nat → (List S46) → (List S46) → Int → Int → Option zq37.R
  | 0, _, _, _, _ => none
  | n + 1, v0, v1, v2, v3 => zq37.d1 N v0 v1 v2 v3 ((fun w0 w1 w2 w3 => zq37.l1 N n w0 w1 w2 w3))
theorem zq37.loop58 (N : Nat) : ∀ n, (∀ (v0 : List S46) (v1 : List S46) (v2 : Int) (v3 : Int), iter (loopF zq37.C (zq37.O N) N zq37.c116 58) n (mkSt [(0, .one (.sl false 46 v0)), (1, .one (.sl false 46 v1)), (12, .one (.int .i64 v2)), (13, .one (.int .i64 v3))] [] : St D0) (zq37.K58 N) = zq37.l1 N n v0 v1 v2 v3)
  | 0 => (fun v0 v1 v2 v3 => rfl)
  | n + 1 => (fun v0 v1 v2 v3 => (zq37.d1.run N (fun s => iter (loopF zq37.C (zq37.O N) N zq37.c116 58) n s (zq37.K58 N)) v0 v1 v2 v3).trans (show _ = zq37.d1 N v0 v1 v2 v3 ((fun w0 w1 w2 w3 => zq37.l1 N n w0 w1 w2 w3)) from (congr rfl (funext fun w0 => funext fun w1 => funext fun w2 => funext fun w3 => (zq37.loop58 N n) w0 w1 w2 w3))))
noncomputable def zq37.o0 (N : Nat) (a0 : List S46) (a1 : List S46) (c1 : (List S46) → (List S46) → Int → Int → Option zq37.R) : Option zq37.R :=
 bif ((a0.length : Int) != (a1.length : Int)) then
  some (false)
 else
 c1 a0 a1 (a0.length : Int) 0
theorem zq37.o0.run (N : Nat) (H116 : Code) (a0 : List S46) (a1 : List S46) : runC zq37.C (zq37.O N) N (.seq zq37.c2 (.seq zq37.c6 (.seq (.seq zq37.c28 (.block 0 (.loop H116))) zq37.c15))) 1 (st0 [.one (.sl false 46 a0), .one (.sl false 46 a1)] [] : St D0) zq37.K0 = zq37.o0 N a0 a1 ((fun w0 w1 w2 w3 => iter (loopF zq37.C (zq37.O N) N H116 58) N (mkSt [(0, .one (.sl false 46 w0)), (1, .one (.sl false 46 w1)), (12, .one (.int .i64 w2)), (13, .one (.int .i64 w3))] [] : St D0) (blockK 0 (onN (fun s => zq37.C.tidy 14 s (fun s' => runC zq37.C (zq37.O N) N zq37.c15 15 s' zq37.K0)) zq37.K0)))) := by kernel_rfl
noncomputable def zq37.g (N : Nat) (a0 : List S46) (a1 : List S46) : Option zq37.R := zq37.o0 N a0 a1 ((fun w0 w1 w2 w3 => zq37.l1 N N w0 w1 w2 w3))
theorem zq37.c1_0 : zq37.c1 = (.seq zq37.c2 (.seq zq37.c6 (.seq (.seq zq37.c28 (.block 0 (.loop zq37.c116))) zq37.c15))) := by kernel_rfl
theorem zq37.g.run (N : Nat) (a0 : List S46) (a1 : List S46) : runC zq37.C (zq37.O N) N zq37.c1 1 (st0 [.one (.sl false 46 a0), .one (.sl false 46 a1)] [] : St D0) zq37.K0 = zq37.g N a0 a1 := by
  rw [zq37.c1_0]; unfold zq37.g; exact (zq37.o0.run N zq37.c116 a0 a1).trans (congr rfl (funext fun w0 => funext fun w1 => funext fun w2 => funext fun w3 => (zq37.loop58 N N) w0 w1 w2 w3))
theorem zq37.good (N : Nat) (a0 : List S46) (a1 : List S46) (r : zq37.R) (h : zq37.g N a0 a1 = some r) : Go.PM.Good Go.Proofs.Tryz.prog T0 24 [.one (.sl false 46 a0), .one (.sl false 46 a1)] [] (zq37.sig.ret r) (zq37.sig.bs r) :=
  good_fn tabOk0 mixed0 zq37.sig (zq37.E N) Go.Proofs.Tryz.func24 (by kernel_rfl) (by kernel_rfl) 16806963 0 0 [(58, [0, 1, 12, 13], [])] 3344704 false [] [(false, [.any])] (by kernel_rfl) rfl rfl ((zq37.g.run N a0 a1).trans h)
noncomputable def zq37.ent (N : Nat) : Ent Go.Proofs.Tryz.prog T0 := mkEnt 24 [(false, [.ro 46]), (false, [.ro 46])] zq37.sig (fun t => zq37.g N t.1 t.2) (fun t r h => zq37.good N t.1 t.2 r h)
end Go.Proofs.YtpeleommbipeaaaGreatDoor.M

namespace Go.Proofs.YtpeleommbipeaaaGreatDoor.M
open Go Go.PM Go.Proofs.YtpeleommbipeaaaGreatDoor.P
set_option linter.unusedVariables false
set_option maxRecDepth 100000
/-! ### zq10 -/
abbrev zq10.R : Type := Bool
abbrev zq10.sig : Sig := ⟨[(true, 2)], [], [.int .i64, .int .i64], [(false, 1)], [], [.bool]⟩
noncomputable def zq10.C : Cfg D0 := ⟨Go.Proofs.Tryz.prog, T0, 7, 0, 22, 0, [], 0, false, []⟩
noncomputable def zq10.E (N : Nat) : List (Ent Go.Proofs.Tryz.prog T0) := [zq31.ent N, zq20.ent N]
noncomputable def zq10.O (N : Nat) : Orc D0 zq10.R := orcOf (zq10.E N)
noncomputable def zq10.K0 : Ex → St D0 → Option zq10.R := exitK zq10.C Go.Proofs.Tryz.f80.results.toList [(false, [.any])] (decOut zq10.sig)
noncomputable def zq10.c1 : Code := codeAt (Go.Proofs.Tryz.f80.body.getD .skip) []
noncomputable def zq10.o0 (N : Nat) (a0_0 : Int) (a0_1 : Int) : Option zq10.R :=
 (zq31.g N a0_1 1 1000000).bind fun r1 =>
 bif r1 then
  (zq31.g N a0_0 0 (w64 (a0_1 - 1))).bind fun r2 =>
  bif r2 then
   (zq20.g N a0_0 a0_1).bind fun r3 =>
   some ((r3 == 1))
  else
  some (false)
 else
 some (false)
theorem zq10.o0.run (N : Nat) (a0_0 : Int) (a0_1 : Int) : runC zq10.C (zq10.O N) N zq10.c1 1 (st0 [.agg [.int .i64 a0_0, .int .i64 a0_1]] [] : St D0) zq10.K0 = zq10.o0 N a0_0 a0_1 := by kernel_rfl
noncomputable def zq10.g (N : Nat) (a0_0 : Int) (a0_1 : Int) : Option zq10.R := zq10.o0 N a0_0 a0_1
theorem zq10.g.run (N : Nat) (a0_0 : Int) (a0_1 : Int) : runC zq10.C (zq10.O N) N zq10.c1 1 (st0 [.agg [.int .i64 a0_0, .int .i64 a0_1]] [] : St D0) zq10.K0 = zq10.g N a0_0 a0_1 := by
  exact (zq10.o0.run N a0_0 a0_1).trans rfl
theorem zq10.good (N : Nat) (a0_0 : Int) (a0_1 : Int) (r : zq10.R) (h : zq10.g N a0_0 a0_1 = some r) : Go.PM.Good Go.Proofs.Tryz.prog T0 80 [.agg [.int .i64 a0_0, .int .i64 a0_1]] [] (zq10.sig.ret r) (zq10.sig.bs r) :=
  good_fn tabOk0 mixed0 zq10.sig (zq10.E N) Go.Proofs.Tryz.func80 (by kernel_rfl) (by kernel_rfl) 7 0 0 [] 0 false [] [(false, [.any])] (by kernel_rfl) rfl rfl ((zq10.g.run N a0_0 a0_1).trans h)
noncomputable def zq10.ent (N : Nat) : Ent Go.Proofs.Tryz.prog T0 := mkEnt 80 [(true, [.any, .any])] zq10.sig (fun t => zq10.g N t.1 t.2) (fun t r h => zq10.good N t.1 t.2 r h)
end Go.Proofs.YtpeleommbipeaaaGreatDoor.M

namespace Go.Proofs.YtpeleommbipeaaaGreatDoor.M
open Go Go.PM Go.Proofs.YtpeleommbipeaaaGreatDoor.P
set_option linter.unusedVariables false
set_option maxRecDepth 100000
/-! ### zq23 -/
abbrev zq23.R : Type := Bool
abbrev zq23.sig : Sig := ⟨[(false, 1), (true, 2)], [], [.int .i64, .int .i64, .int .i64], [(false, 1)], [], [.bool]⟩
noncomputable def zq23.C : Cfg D0 := ⟨Go.Proofs.Tryz.prog, T0, 27, 0, 11, 0, [], 32, false, []⟩
noncomputable def zq23.E (N : Nat) : List (Ent Go.Proofs.Tryz.prog T0) := [zq21.ent N, zq10.ent N]
noncomputable def zq23.O (N : Nat) : Orc D0 zq23.R := orcOf (zq23.E N)
noncomputable def zq23.K0 : Ex → St D0 → Option zq23.R := exitK zq23.C Go.Proofs.Tryz.f55.results.toList [(false, [.any])] (decOut zq23.sig)
noncomputable def zq23.c1 : Code := codeAt (Go.Proofs.Tryz.f55.body.getD .skip) []
noncomputable def zq23.o0 (N : Nat) (a0 : Int) (a1_0 : Int) (a1_1 : Int) : Option zq23.R :=
 (zq21.g N a0).bind fun r1 =>
 bif r1 then
  (zq10.g N a1_0 a1_1).bind fun r2 =>
  some (r2)
 else
 some (false)
theorem zq23.o0.run (N : Nat) (a0 : Int) (a1_0 : Int) (a1_1 : Int) : runC zq23.C (zq23.O N) N zq23.c1 1 (st0 [.one (.int .i64 a0), .agg [.int .i64 a1_0, .int .i64 a1_1]] [] : St D0) zq23.K0 = zq23.o0 N a0 a1_0 a1_1 := by kernel_rfl
noncomputable def zq23.g (N : Nat) (a0 : Int) (a1_0 : Int) (a1_1 : Int) : Option zq23.R := zq23.o0 N a0 a1_0 a1_1
theorem zq23.g.run (N : Nat) (a0 : Int) (a1_0 : Int) (a1_1 : Int) : runC zq23.C (zq23.O N) N zq23.c1 1 (st0 [.one (.int .i64 a0), .agg [.int .i64 a1_0, .int .i64 a1_1]] [] : St D0) zq23.K0 = zq23.g N a0 a1_0 a1_1 := by
  exact (zq23.o0.run N a0 a1_0 a1_1).trans rfl
theorem zq23.good (N : Nat) (a0 : Int) (a1_0 : Int) (a1_1 : Int) (r : zq23.R) (h : zq23.g N a0 a1_0 a1_1 = some r) : Go.PM.Good Go.Proofs.Tryz.prog T0 55 [.one (.int .i64 a0), .agg [.int .i64 a1_0, .int .i64 a1_1]] [] (zq23.sig.ret r) (zq23.sig.bs r) :=
  good_fn tabOk0 mixed0 zq23.sig (zq23.E N) Go.Proofs.Tryz.func55 (by kernel_rfl) (by kernel_rfl) 27 0 0 [] 32 false [] [(false, [.any])] (by kernel_rfl) rfl rfl ((zq23.g.run N a0 a1_0 a1_1).trans h)
noncomputable def zq23.ent (N : Nat) : Ent Go.Proofs.Tryz.prog T0 := mkEnt 55 [(false, [.any]), (true, [.any, .any])] zq23.sig (fun t => zq23.g N t.1 t.2.1 t.2.2) (fun t r h => zq23.good N t.1 t.2.1 t.2.2 r h)
end Go.Proofs.YtpeleommbipeaaaGreatDoor.M

namespace Go.Proofs.YtpeleommbipeaaaGreatDoor.M
open Go Go.PM Go.Proofs.YtpeleommbipeaaaGreatDoor.P
set_option linter.unusedVariables false
set_option maxRecDepth 100000
/-! ### zq29 -/
abbrev zq29.R : Type := Int × Int × Int × Int
abbrev zq29.sig : Sig := ⟨[(false, 1), (true, 2)], [], [.int .i64, .int .i64, .int .i64], [(false, 1), (false, 1), (true, 2)], [], [.int .i64, .int .i64, .int .i64, .int .i64]⟩
noncomputable def zq29.C : Cfg D0 := ⟨Go.Proofs.Tryz.prog, T0, 507, 0, 26, 0, [], 5523456, false, []⟩
noncomputable def zq29.E (N : Nat) : List (Ent Go.Proofs.Tryz.prog T0) := [zq24.ent N]
noncomputable def zq29.O (N : Nat) : Orc D0 zq29.R := orcOf (zq29.E N)
noncomputable def zq29.K0 : Ex → St D0 → Option zq29.R := exitK zq29.C Go.Proofs.Tryz.f56.results.toList [(false, [.any]), (false, [.any]), (true, [.any, .any])] (decOut zq29.sig)
noncomputable def zq29.c1 : Code := codeAt (Go.Proofs.Tryz.f56.body.getD .skip) []
noncomputable def zq29.o0 (N : Nat) (a0 : Int) (a1_0 : Int) (a1_1 : Int) : Option zq29.R :=
 bif (a1_1 == 0) then
  none
 else
 (zq24.g N (w64 ((w64 (a1_0 * a0)) * 60)) a1_1).bind fun r1 =>
 some ((w64 (Int.tdiv (w64 (Int.tdiv (w64 ((w64 (a1_0 * a0)) * 60)) a1_1)) 60)), (Int.tmod (w64 (Int.tdiv (w64 ((w64 (a1_0 * a0)) * 60)) a1_1)) 60), r1.1, r1.2)
theorem zq29.o0.run (N : Nat) (a0 : Int) (a1_0 : Int) (a1_1 : Int) : runC zq29.C (zq29.O N) N zq29.c1 1 (st0 [.one (.int .i64 a0), .agg [.int .i64 a1_0, .int .i64 a1_1]] [] : St D0) zq29.K0 = zq29.o0 N a0 a1_0 a1_1 := by kernel_rfl
noncomputable def zq29.g (N : Nat) (a0 : Int) (a1_0 : Int) (a1_1 : Int) : Option zq29.R := zq29.o0 N a0 a1_0 a1_1
theorem zq29.g.run (N : Nat) (a0 : Int) (a1_0 : Int) (a1_1 : Int) : runC zq29.C (zq29.O N) N zq29.c1 1 (st0 [.one (.int .i64 a0), .agg [.int .i64 a1_0, .int .i64 a1_1]] [] : St D0) zq29.K0 = zq29.g N a0 a1_0 a1_1 := by
  exact (zq29.o0.run N a0 a1_0 a1_1).trans rfl
theorem zq29.good (N : Nat) (a0 : Int) (a1_0 : Int) (a1_1 : Int) (r : zq29.R) (h : zq29.g N a0 a1_0 a1_1 = some r) : Go.PM.Good Go.Proofs.Tryz.prog T0 56 [.one (.int .i64 a0), .agg [.int .i64 a1_0, .int .i64 a1_1]] [] (zq29.sig.ret r) (zq29.sig.bs r) :=
  good_fn tabOk0 mixed0 zq29.sig (zq29.E N) Go.Proofs.Tryz.func56 (by kernel_rfl) (by kernel_rfl) 507 0 0 [] 5523456 false [] [(false, [.any]), (false, [.any]), (true, [.any, .any])] (by kernel_rfl) rfl rfl ((zq29.g.run N a0 a1_0 a1_1).trans h)
noncomputable def zq29.ent (N : Nat) : Ent Go.Proofs.Tryz.prog T0 := mkEnt 56 [(false, [.any]), (true, [.any, .any])] zq29.sig (fun t => zq29.g N t.1 t.2.1 t.2.2) (fun t r h => zq29.good N t.1 t.2.1 t.2.2 r h)
end Go.Proofs.YtpeleommbipeaaaGreatDoor.M

namespace Go.Proofs.YtpeleommbipeaaaGreatDoor.M
open Go Go.PM Go.Proofs.YtpeleommbipeaaaGreatDoor.P
set_option linter.unusedVariables false
set_option maxRecDepth 100000
/-! ### zq5 -/
abbrev zq5.R : Type := Int × Bool
abbrev zq5.sig : Sig := ⟨[(false, 1), (true, 2)], [], [.int .i64, .int .i64, .int .i64], [(false, 1), (false, 1)], [], [.int .i64, .bool]⟩
noncomputable def zq5.C : Cfg D0 := ⟨Go.Proofs.Tryz.prog, T0, 4219, 0, 21, 0, [], 16896, false, []⟩
noncomputable def zq5.E (N : Nat) : List (Ent Go.Proofs.Tryz.prog T0) := [zq23.ent N, zq29.ent N]
noncomputable def zq5.O (N : Nat) : Orc D0 zq5.R := orcOf (zq5.E N)
noncomputable def zq5.K0 : Ex → St D0 → Option zq5.R := exitK zq5.C Go.Proofs.Tryz.f29.results.toList [(false, [.any]), (false, [.any])] (decOut zq5.sig)
noncomputable def zq5.c1 : Code := codeAt (Go.Proofs.Tryz.f29.body.getD .skip) []
noncomputable def zq5.o0 (N : Nat) (a0 : Int) (a1_0 : Int) (a1_1 : Int) : Option zq5.R :=
 (zq23.g N a0 a1_0 a1_1).bind fun r1 =>
 bif (!r1) then
  some (0, false)
 else
 (zq29.g N a0 a1_0 a1_1).bind fun r2 =>
 some (r2.1, true)
theorem zq5.o0.run (N : Nat) (a0 : Int) (a1_0 : Int) (a1_1 : Int) : runC zq5.C (zq5.O N) N zq5.c1 1 (st0 [.one (.int .i64 a0), .agg [.int .i64 a1_0, .int .i64 a1_1]] [] : St D0) zq5.K0 = zq5.o0 N a0 a1_0 a1_1 := by kernel_rfl
noncomputable def zq5.g (N : Nat) (a0 : Int) (a1_0 : Int) (a1_1 : Int) : Option zq5.R := zq5.o0 N a0 a1_0 a1_1
theorem zq5.g.run (N : Nat) (a0 : Int) (a1_0 : Int) (a1_1 : Int) : runC zq5.C (zq5.O N) N zq5.c1 1 (st0 [.one (.int .i64 a0), .agg [.int .i64 a1_0, .int .i64 a1_1]] [] : St D0) zq5.K0 = zq5.g N a0 a1_0 a1_1 := by
  exact (zq5.o0.run N a0 a1_0 a1_1).trans rfl
theorem zq5.good (N : Nat) (a0 : Int) (a1_0 : Int) (a1_1 : Int) (r : zq5.R) (h : zq5.g N a0 a1_0 a1_1 = some r) : Go.PM.Good Go.Proofs.Tryz.prog T0 29 [.one (.int .i64 a0), .agg [.int .i64 a1_0, .int .i64 a1_1]] [] (zq5.sig.ret r) (zq5.sig.bs r) :=
  good_fn tabOk0 mixed0 zq5.sig (zq5.E N) Go.Proofs.Tryz.func29 (by kernel_rfl) (by kernel_rfl) 4219 0 0 [] 16896 false [] [(false, [.any]), (false, [.any])] (by kernel_rfl) rfl rfl ((zq5.g.run N a0 a1_0 a1_1).trans h)
noncomputable def zq5.ent (N : Nat) : Ent Go.Proofs.Tryz.prog T0 := mkEnt 29 [(false, [.any]), (true, [.any, .any])] zq5.sig (fun t => zq5.g N t.1 t.2.1 t.2.2) (fun t r h => zq5.good N t.1 t.2.1 t.2.2 r h)
end Go.Proofs.YtpeleommbipeaaaGreatDoor.M

namespace Go.Proofs.YtpeleommbipeaaaGreatDoor.M
open Go Go.PM Go.Proofs.YtpeleommbipeaaaGreatDoor.P
set_option linter.unusedVariables false
set_option maxRecDepth 100000
/-! ### zq12 -/
abbrev zq12.R : Type := Int × Bool
abbrev zq12.sig : Sig := ⟨[(false, 1), (true, 2)], [], [.int .i64, .int .i64, .int .i64], [(false, 1), (false, 1)], [], [.int .i64, .bool]⟩
noncomputable def zq12.C : Cfg D0 := ⟨Go.Proofs.Tryz.prog, T0, 4283, 0, 21, 0, [], 16896, false, []⟩
noncomputable def zq12.E (N : Nat) : List (Ent Go.Proofs.Tryz.prog T0) := [zq23.ent N, zq29.ent N]
noncomputable def zq12.O (N : Nat) : Orc D0 zq12.R := orcOf (zq12.E N)
noncomputable def zq12.K0 : Ex → St D0 → Option zq12.R := exitK zq12.C Go.Proofs.Tryz.f30.results.toList [(false, [.any]), (false, [.any])] (decOut zq12.sig)
noncomputable def zq12.c1 : Code := codeAt (Go.Proofs.Tryz.f30.body.getD .skip) []
noncomputable def zq12.o0 (N : Nat) (a0 : Int) (a1_0 : Int) (a1_1 : Int) : Option zq12.R :=
 (zq23.g N a0 a1_0 a1_1).bind fun r1 =>
 bif (!r1) then
  some (0, false)
 else
 (zq29.g N a0 a1_0 a1_1).bind fun r2 =>
 some (r2.2.1, true)
theorem zq12.o0.run (N : Nat) (a0 : Int) (a1_0 : Int) (a1_1 : Int) : runC zq12.C (zq12.O N) N zq12.c1 1 (st0 [.one (.int .i64 a0), .agg [.int .i64 a1_0, .int .i64 a1_1]] [] : St D0) zq12.K0 = zq12.o0 N a0 a1_0 a1_1 := by kernel_rfl
noncomputable def zq12.g (N : Nat) (a0 : Int) (a1_0 : Int) (a1_1 : Int) : Option zq12.R := zq12.o0 N a0 a1_0 a1_1
theorem zq12.g.run (N : Nat) (a0 : Int) (a1_0 : Int) (a1_1 : Int) : runC zq12.C (zq12.O N) N zq12.c1 1 (st0 [.one (.int .i64 a0), .agg [.int .i64 a1_0, .int .i64 a1_1]] [] : St D0) zq12.K0 = zq12.g N a0 a1_0 a1_1 := by
  exact (zq12.o0.run N a0 a1_0 a1_1).trans rfl
theorem zq12.good (N : Nat) (a0 : Int) (a1_0 : Int) (a1_1 : Int) (r : zq12.R) (h : zq12.g N a0 a1_0 a1_1 = some r) : Go.PM.Good Go.Proofs.Tryz.prog T0 30 [.one (.int .i64 a0), .agg [.int .i64 a1_0, .int .i64 a1_1]] [] (zq12.sig.ret r) (zq12.sig.bs r) :=
  good_fn tabOk0 mixed0 zq12.sig (zq12.E N) Go.Proofs.Tryz.func30 (by kernel_rfl) (by kernel_rfl) 4283 0 0 [] 16896 false [] [(false, [.any]), (false, [.any])] (by kernel_rfl) rfl rfl ((zq12.g.run N a0 a1_0 a1_1).trans h)
noncomputable def zq12.ent (N : Nat) : Ent Go.Proofs.Tryz.prog T0 := mkEnt 30 [(false, [.any]), (true, [.any, .any])] zq12.sig (fun t => zq12.g N t.1 t.2.1 t.2.2) (fun t r h => zq12.good N t.1 t.2.1 t.2.2 r h)
end Go.Proofs.YtpeleommbipeaaaGreatDoor.M

namespace Go.Proofs.YtpeleommbipeaaaGreatDoor.M
open Go Go.PM Go.Proofs.YtpeleommbipeaaaGreatDoor.P
set_option linter.unusedVariables false
set_option maxRecDepth 100000
open Go.RowKit Go.Lib
/-! ### zq87 -/
theorem zq87.asd {p : Prop} (h : p) : Aside p := h
abbrev zq87.R : Type := List ByteArray
abbrev zq87.sig : Sig := ⟨[(false, 1), (false, 1)], [], [.str, .str], [(false, 1)], [], [.sl true 9]⟩
noncomputable def zq87.g (N : Nat) (a0 : ByteArray) (a1 : ByteArray) : Option zq87.R := match a1.data.toList with
  | [_] => bif decide (a0.size < 4294967281) then some (Lib.splitB a1 0 (Lib.countB a0 a1) a0) else none
  | _ => none
set_option maxHeartbeats 1000000 in
theorem zq87.walk (a0 : ByteArray) (ch : UInt8) (w : World) (hs : a0.size < 4294967281) :
    Calls Go.Proofs.Tryz.prog 60 #[.string a0, .string ⟨#[ch]⟩] w fun e w' => ∃ v', e = .returned v' ∧ w'.ownsRow w.heap.size 9 1 v' (Lib.splitB ⟨#[ch]⟩ 0 (Lib.countB a0 ⟨#[ch]⟩) a0).length ((Lib.splitB ⟨#[ch]⟩ 0 (Lib.countB a0 ⟨#[ch]⟩) a0).map Value.string) ∧ Below w.heap.size w w' := by
  have h1 : 1 ≤ (⟨#[ch]⟩ : ByteArray).size := Nat.le_refl 1
  have hle := Lib.countB_le ⟨#[ch]⟩ h1 a0.size a0 (Nat.le_refl _)
  have hlen := Lib.splitB_all ⟨#[ch]⟩ h1 0 _ a0 rfl
  have hI : ∀ (x : ByteArray) (c : Array Value), x.size ≤ a0.size → Calls Go.Proofs.Tryz.prog 103 #[.string x, .string ⟨#[ch]⟩] (w.alloc (.cells c 9)) fun e w' => e = .returned (.int .i64 (Lib.indexB x ⟨#[ch]⟩)) ∧ w' = w.alloc (.cells c 9) := by
    intro x c hx
    refine (Go.Proofs.Tryz.strings_Index_one x ch _).mono ?_
    rintro e w' ⟨rfl, rfl⟩
    exact ⟨by rw [show Lib.indexB x ⟨#[ch]⟩ = Lib.index x.data.toList [ch] from rfl, Lib.index_one], rfl⟩
  have hC : Calls Go.Proofs.Tryz.prog 102 #[.string a0, .string ⟨#[ch]⟩] w fun e w' => e = .returned (.int .i64 (Lib.countB a0 ⟨#[ch]⟩)) ∧ w' = w := by
    refine (Go.Proofs.Tryz.strings_Count_one a0 ch w).mono ?_
    rintro e w' ⟨rfl, rfl⟩
    exact ⟨by rw [show Lib.countB a0 ⟨#[ch]⟩ = Lib.count a0.data.toList [ch] from rfl, Lib.count_one]; rfl, rfl⟩
  have c := Go.Proofs.Any.strings_genSplit_core Go.Proofs.Tryz.lays221 (by kernel_rfl) a0 ⟨#[ch]⟩ 0 (-1) (Lib.countB a0 ⟨#[ch]⟩ + 1) w hs h1 (Nat.zero_le _) hI hC (by decide) (by decide) (by rw [if_pos (by decide)]; omega)
  rw [Nat.add_sub_cancel, hlen] at c
  have e2 : Lib.cellsOf (Lib.splitB ⟨#[ch]⟩ 0 (Lib.countB a0 ⟨#[ch]⟩) a0) (Lib.countB a0 ⟨#[ch]⟩ + 1) = ((Lib.splitB ⟨#[ch]⟩ 0 (Lib.countB a0 ⟨#[ch]⟩) a0).map Value.string).toArray := by rw [← hlen]; exact Lib.cellsOf_full _
  rw [e2] at c
  have HC := zq87.asd (show Calls Go.Proofs.Tryz.prog 83 #[.string a0, .string ⟨#[ch]⟩, .int .i64 0, .int .i64 (-1)] w _ from c)
  have HL := zq87.asd hlen
  have HLE := zq87.asd hle
  clear c hI hC e2 hlen hle
  go_enter Go.Proofs.Tryz.func60, Go.Proofs.Tryz.ntmps60
  go_wp2_with (go_at_call 83; refine HC.out.mono ?_; rintro e w' ⟨rfl, hw⟩; have HW := zq87.asd hw; clear hw)
  go_ret
  have hw := HW.out
  have hlen := HL.out
  have hle := HLE.out
  subst hw
  refine ⟨_, rfl, ?_, (Below.refl _ _).alloc (Nat.le_refl _) _⟩
  have ho := World.ownsRow_lit (base := w.heap.size) (e := 9) (size := 1) w ((Lib.splitB ⟨#[ch]⟩ 0 (Lib.countB a0 ⟨#[ch]⟩) a0).map Value.string).toArray (Lib.countB a0 ⟨#[ch]⟩ + 1) (Nat.le_refl _) (by unfold maxLen; omega) (by simp [hlen])
  rw [hlen]
  simp at ho
  exact ho
theorem zq87.good (N : Nat) (a0 : ByteArray) (a1 : ByteArray) (r : zq87.R) (h : zq87.g N a0 a1 = some r) : Go.PM.Good Go.Proofs.Tryz.prog T0 60 [.one (.str a0), .one (.str a1)] [] (zq87.sig.ret r) (zq87.sig.bs r) := by
  obtain ⟨⟨l⟩⟩ := a1
  match l, h with
  | [ch], h =>
    obtain ⟨hc, h⟩ := bif_some (show (bif decide (a0.size < 4294967281) then some (Lib.splitB ⟨#[ch]⟩ 0 (Lib.countB a0 ⟨#[ch]⟩) a0) else none) = some r from h)
    have hc := of_decide_eq_true hc
    cases Option.some.inj h
    refine good_new tabOk0 9 ⟨_, Go.Proofs.Tryz.func60, by kernel_rfl, rfl⟩ [.one (.str a0), .one (.str ⟨#[ch]⟩)] (Lib.splitB ⟨#[ch]⟩ 0 (Lib.countB a0 ⟨#[ch]⟩) a0) ?_
    intro w C blk vargs hsz hrep hag
    have ev : vargs = #[.string a0, .string ⟨#[ch]⟩] := (args2 hsz).trans (by rw [rep_str (hrep 0), rep_str (hrep 1)])
    rw [ev]
    exact ⟨_, row_str (T := T0) (e := 9) (fun x => x) rfl (fun x => rfl), zq87.walk a0 ch w hc⟩
noncomputable def zq87.ent (N : Nat) : Ent Go.Proofs.Tryz.prog T0 := mkEnt 60 [(false, [.any]), (false, [.any])] zq87.sig (fun t => zq87.g N t.1 t.2) (fun t r h => zq87.good N t.1 t.2 r h)

end Go.Proofs.YtpeleommbipeaaaGreatDoor.M

namespace Go.Proofs.YtpeleommbipeaaaGreatDoor.M
open Go Go.PM Go.Proofs.YtpeleommbipeaaaGreatDoor.P
set_option linter.unusedVariables false
set_option maxRecDepth 100000
/-! ### zq71 -/
abbrev zq71.R : Type := List ByteArray
abbrev zq71.sig : Sig := ⟨[(false, 1), (false, 1)], [], [.str, .int .u8], [(false, 1)], [], [.sl true 9]⟩
noncomputable def zq71.C : Cfg D0 := ⟨Go.Proofs.Tryz.prog, T0, 264435, 0, 34, 0, [(122, [0, 1, 5, 6, 7], []), (978, [0, 1, 5, 6, 7], [])], 1685246720, false, []⟩
noncomputable def zq71.E (N : Nat) : List (Ent Go.Proofs.Tryz.prog T0) := []
noncomputable def zq71.O (N : Nat) : Orc D0 zq71.R := orcOf (zq71.E N)
noncomputable def zq71.K0 : Ex → St D0 → Option zq71.R := exitK zq71.C Go.Proofs.Tryz.f84.results.toList [(false, [.own 9])] (decOut zq71.sig)
noncomputable def zq71.c1 : Code := codeAt (Go.Proofs.Tryz.f84.body.getD .skip) []
noncomputable def zq71.c2 : Code := codeAt (Go.Proofs.Tryz.f84.body.getD .skip) [false]
noncomputable def zq71.c6 : Code := codeAt (Go.Proofs.Tryz.f84.body.getD .skip) [true, false]
noncomputable def zq71.c14 : Code := codeAt (Go.Proofs.Tryz.f84.body.getD .skip) [true, true, false]
noncomputable def zq71.c31 : Code := codeAt (Go.Proofs.Tryz.f84.body.getD .skip) [true, true, true, true]
noncomputable def zq71.c60 : Code := codeAt (Go.Proofs.Tryz.f84.body.getD .skip) [true, true, true, false, false]
noncomputable def zq71.c244 : Code := codeAt (Go.Proofs.Tryz.f84.body.getD .skip) [true, true, true, false, true, false, false]
noncomputable def zq71.c488 : Code := codeAt (Go.Proofs.Tryz.f84.body.getD .skip) [true, true, true, false, true, false, false, false]
noncomputable def zq71.c978 : Code := codeAt (Go.Proofs.Tryz.f84.body.getD .skip) [true, true, true, false, true, false, false, true, false]
noncomputable def zq71.c979 : Code := codeAt (Go.Proofs.Tryz.f84.body.getD .skip) [true, true, true, false, true, false, false, true, true]
noncomputable def zq71.K979 (N : Nat) (Kn122 : St D0 → Option zq71.R) : Ex → St D0 → Option zq71.R := ((fun up => (onN (fun s => zq71.C.tidy 122 s ((onN Kn122 up) .normal)) (onN Kn122 up))) (blockK 0 (onN (fun s => zq71.C.tidy 30 s (fun s' => runC zq71.C (zq71.O N) N zq71.c31 31 s' zq71.K0)) zq71.K0)))
noncomputable def zq71.o2 (N : Nat) (v0 : ByteArray) (v1 : Int) (v2 : List ByteArray) (v3 : Int) (v4 : Int) (c4 : ByteArray → Int → (List ByteArray) → Int → Int → Option zq71.R) : Option zq71.R :=
 c4 v0 v1 v2 v3 (w64 (v4 + 1))
theorem zq71.o2.run (N : Nat) (Kn122 : St D0 → Option zq71.R) (v0 : ByteArray) (v1 : Int) (v2 : List ByteArray) (v3 : Int) (v4 : Int) : runC zq71.C (zq71.O N) N zq71.c979 979 (mkSt [(0, .one (.str v0)), (1, .one (.int .u8 v1)), (5, .one (.sl true 9 v2)), (6, .one (.int .i64 v3)), (7, .one (.int .i64 v4))] [] : St D0) ((fun up => (onN (fun s => zq71.C.tidy 122 s ((onN Kn122 up) .normal)) (onN Kn122 up))) (blockK 0 (onN (fun s => zq71.C.tidy 30 s (fun s' => runC zq71.C (zq71.O N) N zq71.c31 31 s' zq71.K0)) zq71.K0))) = zq71.o2 N v0 v1 v2 v3 v4 ((fun w0 w1 w2 w3 w4 => Kn122 (mkSt [(0, .one (.str w0)), (1, .one (.int .u8 w1)), (5, .one (.sl true 9 w2)), (6, .one (.int .i64 w3)), (7, .one (.int .i64 w4))] [] : St D0))) := by kernel_rfl
noncomputable def zq71.d2 (N : Nat) (v0 : ByteArray) (v1 : Int) (v2 : List ByteArray) (v3 : Int) (v4 : Int) (c4 : ByteArray → Int → (List ByteArray) → Int → Int → Option zq71.R) : Option zq71.R := zq71.o2 N v0 v1 v2 v3 v4 c4
theorem zq71.d2.run (N : Nat) (Kn122 : St D0 → Option zq71.R) (v0 : ByteArray) (v1 : Int) (v2 : List ByteArray) (v3 : Int) (v4 : Int) : runC zq71.C (zq71.O N) N zq71.c979 979 (mkSt [(0, .one (.str v0)), (1, .one (.int .u8 v1)), (5, .one (.sl true 9 v2)), (6, .one (.int .i64 v3)), (7, .one (.int .i64 v4))] [] : St D0) (zq71.K979 N Kn122) = zq71.d2 N v0 v1 v2 v3 v4 ((fun w0 w1 w2 w3 w4 => Kn122 (mkSt [(0, .one (.str w0)), (1, .one (.int .u8 w1)), (5, .one (.sl true 9 w2)), (6, .one (.int .i64 w3)), (7, .one (.int .i64 w4))] [] : St D0))) := by
  exact (zq71.o2.run N Kn122 v0 v1 v2 v3 v4).trans rfl
noncomputable def zq71.o3 (N : Nat) (v0 : ByteArray) (v1 : Int) (v2 : Int) (v3 : Int) (c1 : ByteArray → Int → Int → Int → Option zq71.R) : Option zq71.R :=
 c1 v0 v1 v2 (w64 (v3 + 1))
theorem zq71.o3.run (N : Nat) (Kn122 : St D0 → Option zq71.R) (v0 : ByteArray) (v1 : Int) (v2 : Int) (v3 : Int) : runC zq71.C (zq71.O N) N zq71.c979 979 (mkSt [(0, .one (.str v0)), (1, .one (.int .u8 v1)), (5, .one (.nl)), (6, .one (.int .i64 v2)), (7, .one (.int .i64 v3))] [] : St D0) ((fun up => (onN (fun s => zq71.C.tidy 122 s ((onN Kn122 up) .normal)) (onN Kn122 up))) (blockK 0 (onN (fun s => zq71.C.tidy 30 s (fun s' => runC zq71.C (zq71.O N) N zq71.c31 31 s' zq71.K0)) zq71.K0))) = zq71.o3 N v0 v1 v2 v3 ((fun w0 w1 w2 w3 => Kn122 (mkSt [(0, .one (.str w0)), (1, .one (.int .u8 w1)), (5, .one (.nl)), (6, .one (.int .i64 w2)), (7, .one (.int .i64 w3))] [] : St D0))) := by kernel_rfl
noncomputable def zq71.d3 (N : Nat) (v0 : ByteArray) (v1 : Int) (v2 : Int) (v3 : Int) (c1 : ByteArray → Int → Int → Int → Option zq71.R) : Option zq71.R := zq71.o3 N v0 v1 v2 v3 c1
theorem zq71.d3.run (N : Nat) (Kn122 : St D0 → Option zq71.R) (v0 : ByteArray) (v1 : Int) (v2 : Int) (v3 : Int) : runC zq71.C (zq71.O N) N zq71.c979 979 (mkSt [(0, .one (.str v0)), (1, .one (.int .u8 v1)), (5, .one (.nl)), (6, .one (.int .i64 v2)), (7, .one (.int .i64 v3))] [] : St D0) (zq71.K979 N Kn122) = zq71.d3 N v0 v1 v2 v3 ((fun w0 w1 w2 w3 => Kn122 (mkSt [(0, .one (.str w0)), (1, .one (.int .u8 w1)), (5, .one (.nl)), (6, .one (.int .i64 w2)), (7, .one (.int .i64 w3))] [] : St D0))) := by
  exact (zq71.o3.run N Kn122 v0 v1 v2 v3).trans rfl
noncomputable def zq71.K244 (N : Nat) (Kn122 : St D0 → Option zq71.R) : Ex → St D0 → Option zq71.R := ((fun up => (onN (fun s => zq71.C.tidy 122 s ((onN Kn122 up) .normal)) (onN Kn122 up))) (blockK 0 (onN (fun s => zq71.C.tidy 30 s (fun s' => runC zq71.C (zq71.O N) N zq71.c31 31 s' zq71.K0)) zq71.K0)))
noncomputable def zq71.o1 (N : Nat) (v0 : ByteArray) (v1 : Int) (v2 : Int) (v3 : Int) (c2 : ByteArray → Int → (List ByteArray) → Int → Int → Option zq71.R) (c3 : ByteArray → Int → Int → Int → Option zq71.R) : Option zq71.R :=
 bif (decide (v3 < (v0.size : Int))) then
  bif (decide (0 ≤ v3)) then
   bif (decide (v3 < (v0.size : Int))) then
    bif ((bt v0 v3) == v1) then
     bif (decide (0 ≤ v3)) then
      bif (decide (v3 ≤ (v0.size : Int))) then
       bif (decide (0 ≤ v2)) then
        bif (decide (v2 ≤ v3)) then
         bif (Nat.blt (([] : List ByteArray).length + ([(v0.extract (v2 : Int).toNat (v3 : Int).toNat)] : List ByteArray).length) 8796093022208) then
          c2 v0 v1 (([] : List ByteArray) ++ ([(v0.extract (v2 : Int).toNat (v3 : Int).toNat)] : List ByteArray)) (w64 (v3 + 1)) v3
         else
         none
        else
        none
       else
       none
      else
      none
     else
     none
    else
    c3 v0 v1 v2 v3
   else
   none
  else
  none
 else
 bif (decide (0 ≤ (v0.size : Int))) then
  bif (decide ((v0.size : Int) ≤ (v0.size : Int))) then
   bif (decide (0 ≤ v2)) then
    bif (decide (v2 ≤ (v0.size : Int))) then
     bif (Nat.blt (([] : List ByteArray).length + ([(v0.extract (v2 : Int).toNat ((v0.size : Int) : Int).toNat)] : List ByteArray).length) 8796093022208) then
      some ((([] : List ByteArray) ++ ([(v0.extract (v2 : Int).toNat ((v0.size : Int) : Int).toNat)] : List ByteArray)))
     else
     none
    else
    none
   else
   none
  else
  none
 else
 none
theorem zq71.o1.run (N : Nat) (Kn122 : St D0 → Option zq71.R) (H979 : Code) (v0 : ByteArray) (v1 : Int) (v2 : Int) (v3 : Int) : runC zq71.C (zq71.O N) N (.seq zq71.c488 (.seq zq71.c978 H979)) 244 (mkSt [(0, .one (.str v0)), (1, .one (.int .u8 v1)), (5, .one (.nl)), (6, .one (.int .i64 v2)), (7, .one (.int .i64 v3))] [] : St D0) ((fun up => (onN (fun s => zq71.C.tidy 122 s ((onN Kn122 up) .normal)) (onN Kn122 up))) (blockK 0 (onN (fun s => zq71.C.tidy 30 s (fun s' => runC zq71.C (zq71.O N) N zq71.c31 31 s' zq71.K0)) zq71.K0))) = zq71.o1 N v0 v1 v2 v3 ((fun w0 w1 w2 w3 w4 => runC zq71.C (zq71.O N) N H979 979 (mkSt [(0, .one (.str w0)), (1, .one (.int .u8 w1)), (5, .one (.sl true 9 w2)), (6, .one (.int .i64 w3)), (7, .one (.int .i64 w4))] [] : St D0) ((fun up => (onN (fun s => zq71.C.tidy 122 s ((onN Kn122 up) .normal)) (onN Kn122 up))) (blockK 0 (onN (fun s => zq71.C.tidy 30 s (fun s' => runC zq71.C (zq71.O N) N zq71.c31 31 s' zq71.K0)) zq71.K0))))) ((fun w0 w1 w2 w3 => runC zq71.C (zq71.O N) N H979 979 (mkSt [(0, .one (.str w0)), (1, .one (.int .u8 w1)), (5, .one (.nl)), (6, .one (.int .i64 w2)), (7, .one (.int .i64 w3))] [] : St D0) ((fun up => (onN (fun s => zq71.C.tidy 122 s ((onN Kn122 up) .normal)) (onN Kn122 up))) (blockK 0 (onN (fun s => zq71.C.tidy 30 s (fun s' => runC zq71.C (zq71.O N) N zq71.c31 31 s' zq71.K0)) zq71.K0))))) := by kernel_rfl
noncomputable def zq71.B489 (N : Nat) (Kn122 : St D0 → Option zq71.R) : St D0 → Option zq71.R := fun s' => runC zq71.C (zq71.O N) N zq71.c979 979 s' (zq71.K979 N Kn122)
noncomputable def zq71.d1 (N : Nat) (v0 : ByteArray) (v1 : Int) (v2 : Int) (v3 : Int) (c1 : ByteArray → Int → Int → Int → Option zq71.R) (c4 : ByteArray → Int → (List ByteArray) → Int → Int → Option zq71.R) : Option zq71.R := zq71.o1 N v0 v1 v2 v3 ((fun w0 w1 w2 w3 w4 => zq71.d2 N w0 w1 w2 w3 w4 c4)) ((fun w0 w1 w2 w3 => zq71.d3 N w0 w1 w2 w3 c1))
theorem zq71.c244_1 : zq71.c244 = (.seq zq71.c488 (.seq zq71.c978 zq71.c979)) := by kernel_rfl
theorem zq71.d1.run (N : Nat) (Kn122 : St D0 → Option zq71.R) (v0 : ByteArray) (v1 : Int) (v2 : Int) (v3 : Int) : runC zq71.C (zq71.O N) N zq71.c244 244 (mkSt [(0, .one (.str v0)), (1, .one (.int .u8 v1)), (5, .one (.nl)), (6, .one (.int .i64 v2)), (7, .one (.int .i64 v3))] [] : St D0) (zq71.K244 N Kn122) = zq71.d1 N v0 v1 v2 v3 ((fun w0 w1 w2 w3 => Kn122 (mkSt [(0, .one (.str w0)), (1, .one (.int .u8 w1)), (5, .one (.nl)), (6, .one (.int .i64 w2)), (7, .one (.int .i64 w3))] [] : St D0))) ((fun w0 w1 w2 w3 w4 => Kn122 (mkSt [(0, .one (.str w0)), (1, .one (.int .u8 w1)), (5, .one (.sl true 9 w2)), (6, .one (.int .i64 w3)), (7, .one (.int .i64 w4))] [] : St D0))) := by
  rw [zq71.c244_1]; unfold zq71.d1; exact (zq71.o1.run N Kn122 zq71.c979 v0 v1 v2 v3).trans (congr (congr rfl (funext fun w0 => funext fun w1 => funext fun w2 => funext fun w3 => funext fun w4 => zq71.d2.run N Kn122 w0 w1 w2 w3 w4)) (funext fun w0 => funext fun w1 => funext fun w2 => funext fun w3 => zq71.d3.run N Kn122 w0 w1 w2 w3))
noncomputable def zq71.o4 (N : Nat) (v0 : ByteArray) (v1 : Int) (v2 : List ByteArray) (v3 : Int) (v4 : Int) (c2 : ByteArray → Int → (List ByteArray) → Int → Int → Option zq71.R) : Option zq71.R :=
 bif (decide (v4 < (v0.size : Int))) then
  bif (decide (0 ≤ v4)) then
   bif (decide (v4 < (v0.size : Int))) then
    bif ((bt v0 v4) == v1) then
     bif (decide (0 ≤ v4)) then
      bif (decide (v4 ≤ (v0.size : Int))) then
       bif (decide (0 ≤ v3)) then
        bif (decide (v3 ≤ v4)) then
         bif (Nat.blt (v2.length + ([(v0.extract (v3 : Int).toNat (v4 : Int).toNat)] : List ByteArray).length) 8796093022208) then
          c2 v0 v1 (v2 ++ ([(v0.extract (v3 : Int).toNat (v4 : Int).toNat)] : List ByteArray)) (w64 (v4 + 1)) v4
         else
         none
        else
        none
       else
       none
      else
      none
     else
     none
    else
    c2 v0 v1 v2 v3 v4
   else
   none
  else
  none
 else
 bif (decide (0 ≤ (v0.size : Int))) then
  bif (decide ((v0.size : Int) ≤ (v0.size : Int))) then
   bif (decide (0 ≤ v3)) then
    bif (decide (v3 ≤ (v0.size : Int))) then
     bif (Nat.blt (v2.length + ([(v0.extract (v3 : Int).toNat ((v0.size : Int) : Int).toNat)] : List ByteArray).length) 8796093022208) then
      some ((v2 ++ ([(v0.extract (v3 : Int).toNat ((v0.size : Int) : Int).toNat)] : List ByteArray)))
     else
     none
    else
    none
   else
   none
  else
  none
 else
 none
theorem zq71.o4.run (N : Nat) (Kn122 : St D0 → Option zq71.R) (H979 : Code) (v0 : ByteArray) (v1 : Int) (v2 : List ByteArray) (v3 : Int) (v4 : Int) : runC zq71.C (zq71.O N) N (.seq zq71.c488 (.seq zq71.c978 H979)) 244 (mkSt [(0, .one (.str v0)), (1, .one (.int .u8 v1)), (5, .one (.sl true 9 v2)), (6, .one (.int .i64 v3)), (7, .one (.int .i64 v4))] [] : St D0) ((fun up => (onN (fun s => zq71.C.tidy 122 s ((onN Kn122 up) .normal)) (onN Kn122 up))) (blockK 0 (onN (fun s => zq71.C.tidy 30 s (fun s' => runC zq71.C (zq71.O N) N zq71.c31 31 s' zq71.K0)) zq71.K0))) = zq71.o4 N v0 v1 v2 v3 v4 ((fun w0 w1 w2 w3 w4 => runC zq71.C (zq71.O N) N H979 979 (mkSt [(0, .one (.str w0)), (1, .one (.int .u8 w1)), (5, .one (.sl true 9 w2)), (6, .one (.int .i64 w3)), (7, .one (.int .i64 w4))] [] : St D0) ((fun up => (onN (fun s => zq71.C.tidy 122 s ((onN Kn122 up) .normal)) (onN Kn122 up))) (blockK 0 (onN (fun s => zq71.C.tidy 30 s (fun s' => runC zq71.C (zq71.O N) N zq71.c31 31 s' zq71.K0)) zq71.K0))))) := by kernel_rfl
noncomputable def zq71.d4 (N : Nat) (v0 : ByteArray) (v1 : Int) (v2 : List ByteArray) (v3 : Int) (v4 : Int) (c4 : ByteArray → Int → (List ByteArray) → Int → Int → Option zq71.R) : Option zq71.R := zq71.o4 N v0 v1 v2 v3 v4 ((fun w0 w1 w2 w3 w4 => zq71.d2 N w0 w1 w2 w3 w4 c4))
theorem zq71.c244_4 : zq71.c244 = (.seq zq71.c488 (.seq zq71.c978 zq71.c979)) := by kernel_rfl
theorem zq71.d4.run (N : Nat) (Kn122 : St D0 → Option zq71.R) (v0 : ByteArray) (v1 : Int) (v2 : List ByteArray) (v3 : Int) (v4 : Int) : runC zq71.C (zq71.O N) N zq71.c244 244 (mkSt [(0, .one (.str v0)), (1, .one (.int .u8 v1)), (5, .one (.sl true 9 v2)), (6, .one (.int .i64 v3)), (7, .one (.int .i64 v4))] [] : St D0) (zq71.K244 N Kn122) = zq71.d4 N v0 v1 v2 v3 v4 ((fun w0 w1 w2 w3 w4 => Kn122 (mkSt [(0, .one (.str w0)), (1, .one (.int .u8 w1)), (5, .one (.sl true 9 w2)), (6, .one (.int .i64 w3)), (7, .one (.int .i64 w4))] [] : St D0))) := by
  rw [zq71.c244_4]; unfold zq71.d4; exact (zq71.o4.run N Kn122 zq71.c979 v0 v1 v2 v3 v4).trans (congr rfl (funext fun w0 => funext fun w1 => funext fun w2 => funext fun w3 => funext fun w4 => zq71.d2.run N Kn122 w0 w1 w2 w3 w4))
noncomputable def zq71.K122 (N : Nat) : Ex → St D0 → Option zq71.R := (blockK 0 (onN (fun s => zq71.C.tidy 30 s (fun s' => runC zq71.C (zq71.O N) N zq71.c31 31 s' zq71.K0)) zq71.K0))
mutual
noncomputable def zq71.l1 (N : Nat) : Nat → ByteArray → Int → Int → Int → Option zq71.R
  | 0, _, _, _, _ => none
  | n + 1, v0, v1, v2, v3 => zq71.d1 N v0 v1 v2 v3 ((fun w0 w1 w2 w3 => zq71.l1 N n w0 w1 w2 w3)) ((fun w0 w1 w2 w3 w4 => zq71.l4 N n w0 w1 w2 w3 w4))
noncomputable def zq71.l4 (N : Nat) : Nat → ByteArray → Int → (List ByteArray) → Int → Int → Option zq71.R
  | 0, _, _, _, _, _ => none
  | n + 1, v0, v1, v2, v3, v4 => zq71.d4 N v0 v1 v2 v3 v4 ((fun w0 w1 w2 w3 w4 => zq71.l4 N n w0 w1 w2 w3 w4))
end
theorem zq71.loop122 (N : Nat) : ∀ n, (∀ (v0 : ByteArray) (v1 : Int) (v2 : Int) (v3 : Int), iter (loopF zq71.C (zq71.O N) N zq71.c244 122) n (mkSt [(0, .one (.str v0)), (1, .one (.int .u8 v1)), (5, .one (.nl)), (6, .one (.int .i64 v2)), (7, .one (.int .i64 v3))] [] : St D0) (zq71.K122 N) = zq71.l1 N n v0 v1 v2 v3) ∧ (∀ (v0 : ByteArray) (v1 : Int) (v2 : List ByteArray) (v3 : Int) (v4 : Int), iter (loopF zq71.C (zq71.O N) N zq71.c244 122) n (mkSt [(0, .one (.str v0)), (1, .one (.int .u8 v1)), (5, .one (.sl true 9 v2)), (6, .one (.int .i64 v3)), (7, .one (.int .i64 v4))] [] : St D0) (zq71.K122 N) = zq71.l4 N n v0 v1 v2 v3 v4)
  | 0 => ⟨(fun v0 v1 v2 v3 => rfl), (fun v0 v1 v2 v3 v4 => rfl)⟩
  | n + 1 => ⟨(fun v0 v1 v2 v3 => (zq71.d1.run N (fun s => iter (loopF zq71.C (zq71.O N) N zq71.c244 122) n s (zq71.K122 N)) v0 v1 v2 v3).trans (show _ = zq71.d1 N v0 v1 v2 v3 ((fun w0 w1 w2 w3 => zq71.l1 N n w0 w1 w2 w3)) ((fun w0 w1 w2 w3 w4 => zq71.l4 N n w0 w1 w2 w3 w4)) from (congr (congr rfl (funext fun w0 => funext fun w1 => funext fun w2 => funext fun w3 => (zq71.loop122 N n).1 w0 w1 w2 w3)) (funext fun w0 => funext fun w1 => funext fun w2 => funext fun w3 => funext fun w4 => (zq71.loop122 N n).2 w0 w1 w2 w3 w4)))), (fun v0 v1 v2 v3 v4 => (zq71.d4.run N (fun s => iter (loopF zq71.C (zq71.O N) N zq71.c244 122) n s (zq71.K122 N)) v0 v1 v2 v3 v4).trans (show _ = zq71.d4 N v0 v1 v2 v3 v4 ((fun w0 w1 w2 w3 w4 => zq71.l4 N n w0 w1 w2 w3 w4)) from (congr rfl (funext fun w0 => funext fun w1 => funext fun w2 => funext fun w3 => funext fun w4 => (zq71.loop122 N n).2 w0 w1 w2 w3 w4))))⟩
noncomputable def zq71.o0 (N : Nat) (a0 : ByteArray) (a1 : Int) (c1 : ByteArray → Int → Int → Int → Option zq71.R) : Option zq71.R :=
 c1 a0 a1 0 0
theorem zq71.o0.run (N : Nat) (H244 : Code) (a0 : ByteArray) (a1 : Int) : runC zq71.C (zq71.O N) N (.seq zq71.c2 (.seq zq71.c6 (.seq zq71.c14 (.seq (.seq zq71.c60 (.block 0 (.loop H244))) zq71.c31)))) 1 (st0 [.one (.str a0), .one (.int .u8 a1)] [] : St D0) zq71.K0 = zq71.o0 N a0 a1 ((fun w0 w1 w2 w3 => iter (loopF zq71.C (zq71.O N) N H244 122) N (mkSt [(0, .one (.str w0)), (1, .one (.int .u8 w1)), (5, .one (.nl)), (6, .one (.int .i64 w2)), (7, .one (.int .i64 w3))] [] : St D0) (blockK 0 (onN (fun s => zq71.C.tidy 30 s (fun s' => runC zq71.C (zq71.O N) N zq71.c31 31 s' zq71.K0)) zq71.K0)))) := by kernel_rfl
noncomputable def zq71.g (N : Nat) (a0 : ByteArray) (a1 : Int) : Option zq71.R := zq71.o0 N a0 a1 ((fun w0 w1 w2 w3 => zq71.l1 N N w0 w1 w2 w3))
theorem zq71.c1_0 : zq71.c1 = (.seq zq71.c2 (.seq zq71.c6 (.seq zq71.c14 (.seq (.seq zq71.c60 (.block 0 (.loop zq71.c244))) zq71.c31)))) := by kernel_rfl
theorem zq71.g.run (N : Nat) (a0 : ByteArray) (a1 : Int) : runC zq71.C (zq71.O N) N zq71.c1 1 (st0 [.one (.str a0), .one (.int .u8 a1)] [] : St D0) zq71.K0 = zq71.g N a0 a1 := by
  rw [zq71.c1_0]; unfold zq71.g; exact (zq71.o0.run N zq71.c244 a0 a1).trans (congr rfl (funext fun w0 => funext fun w1 => funext fun w2 => funext fun w3 => (zq71.loop122 N N).1 w0 w1 w2 w3))
theorem zq71.good (N : Nat) (a0 : ByteArray) (a1 : Int) (r : zq71.R) (h : zq71.g N a0 a1 = some r) : Go.PM.Good Go.Proofs.Tryz.prog T0 84 [.one (.str a0), .one (.int .u8 a1)] [] (zq71.sig.ret r) (zq71.sig.bs r) :=
  good_fn tabOk0 mixed0 zq71.sig (zq71.E N) Go.Proofs.Tryz.func84 (by kernel_rfl) (by kernel_rfl) 264435 0 0 [(122, [0, 1, 5, 6, 7], []), (978, [0, 1, 5, 6, 7], [])] 1685246720 false [] [(false, [.own 9])] (by kernel_rfl) rfl rfl ((zq71.g.run N a0 a1).trans h)
noncomputable def zq71.ent (N : Nat) : Ent Go.Proofs.Tryz.prog T0 := mkEnt 84 [(false, [.any]), (false, [.any])] zq71.sig (fun t => zq71.g N t.1 t.2) (fun t r h => zq71.good N t.1 t.2 r h)
end Go.Proofs.YtpeleommbipeaaaGreatDoor.M
