/- What the program's functions compute, walked by the machine (part 2). No conditions but those stated. -/
import Derived.Test.YtpeleommbipeaaaGreatDoorFnFnTimesSolved1
import Derived.Test.YtpeleommbipeaaaGreatDoorShelf
import Derived.Lib.IndexBytes
noncomputable section
namespace Go.Proofs.YtpeleommbipeaaaGreatDoor.M
open Go Go.PM Go.Proofs.YtpeleommbipeaaaGreatDoor.P
set_option linter.unusedVariables false
set_option maxRecDepth 100000
/-! ### zq67 -/
abbrev zq67.R : Type := Bool × List Int × Int × Int
abbrev zq67.sig : Sig := ⟨[(false, 1), (false, 1)], [(80, 3)], [.ptr 0 0, .int .i64, .sl false 5, .int .i64, .int .u64], [(false, 1)], [(80, 3)], [.bool, .sl false 5, .int .i64, .int .u64]⟩
def zq67.C : Cfg D0 := ⟨Tryz.prog, T0, 19, 0, 9, 1, [], 96, false, []⟩
def zq67.E (N : Nat) : List (Ent Tryz.prog T0) := [zq68.ent N]
def zq67.O (N : Nat) : Orc D0 zq67.R := orcOf (zq67.E N)
def zq67.K0 : Ex → St D0 → Option zq67.R := exitK zq67.C Tryz.f64.results.toList [(false, [.any])] (decOut zq67.sig)
def zq67.c1 : Code := codeAt (Tryz.f64.body.getD .skip) []
def zq67.o0 (N : Nat) (a1 : Int) (b0_0 : List Int) (b0_1 : Int) (b0_2 : Int) : Option zq67.R :=
 (zq68.g N a1 b0_0 b0_1 b0_2).bind fun r1 =>
 some ((r1.1 == 0), r1.2.1, r1.2.2.1, r1.2.2.2)
theorem zq67.o0.run (N : Nat) (a1 : Int) (b0_0 : List Int) (b0_1 : Int) (b0_2 : Int) : runC zq67.C (zq67.O N) N zq67.c1 1 (st0 [.one (.ptr 0 0), .one (.int .i64 a1)] [(80, [.sl false 5 b0_0, .int .i64 b0_1, .int .u64 b0_2])] : St D0) zq67.K0 = zq67.o0 N a1 b0_0 b0_1 b0_2 := by kernel_rfl
def zq67.g (N : Nat) (a1 : Int) (b0_0 : List Int) (b0_1 : Int) (b0_2 : Int) : Option zq67.R := zq67.o0 N a1 b0_0 b0_1 b0_2
theorem zq67.g.run (N : Nat) (a1 : Int) (b0_0 : List Int) (b0_1 : Int) (b0_2 : Int) : runC zq67.C (zq67.O N) N zq67.c1 1 (st0 [.one (.ptr 0 0), .one (.int .i64 a1)] [(80, [.sl false 5 b0_0, .int .i64 b0_1, .int .u64 b0_2])] : St D0) zq67.K0 = zq67.g N a1 b0_0 b0_1 b0_2 := by
  exact (zq67.o0.run N a1 b0_0 b0_1 b0_2).trans rfl
theorem zq67.good (N : Nat) (a1 : Int) (b0_0 : List Int) (b0_1 : Int) (b0_2 : Int) (r : zq67.R) (h : zq67.g N a1 b0_0 b0_1 b0_2 = some r) : Go.PM.Good Tryz.prog T0 64 [.one (.ptr 0 0), .one (.int .i64 a1)] [(80, [.sl false 5 b0_0, .int .i64 b0_1, .int .u64 b0_2])] (zq67.sig.ret r) (zq67.sig.bs r) :=
  good_fn tabOk0 mixed0 zq67.sig (zq67.E N) Tryz.func64 (by kernel_rfl) (by kernel_rfl) 19 0 1 [] 96 false [] [(false, [.any])] (by kernel_rfl) rfl rfl ((zq67.g.run N a1 b0_0 b0_1 b0_2).trans h)
def zq67.ent (N : Nat) : Ent Tryz.prog T0 := mkEnt 64 [(false, [.any]), (false, [.any])] zq67.sig (fun t => zq67.g N t.2.1 t.2.2.1 t.2.2.2.1 t.2.2.2.2) (fun t r h => zq67.good N t.2.1 t.2.2.1 t.2.2.2.1 t.2.2.2.2 r h)
/-! ### zq71 -/
abbrev zq71.R : Type := Int × List S41 × List Int × Int × Int
abbrev zq71.sig : Sig := ⟨[(false, 1), (false, 1)], [(80, 3)], [.ptr 0 0, .int .i64, .sl false 5, .int .i64, .int .u64], [(true, 2)], [(80, 3)], [.int .i64, .sl true 41, .sl false 5, .int .i64, .int .u64]⟩
def zq71.C : Cfg D0 := ⟨Tryz.prog, T0, 8389107, 549890031616, 40, 1, [(250, [0, 4, 5, 6, 7, 8], [0, 4, 7])], 20154429952, false, []⟩
def zq71.E (N : Nat) : List (Ent Tryz.prog T0) := [zq68.ent N, zq84.ent N]
def zq71.O (N : Nat) : Orc D0 zq71.R := orcOf (zq71.E N)
def zq71.K0 : Ex → St D0 → Option zq71.R := exitK zq71.C Tryz.f63.results.toList [(true, [.any, .own 41])] (decOut zq71.sig)
def zq71.c1 : Code := codeAt (Tryz.f63.body.getD .skip) []
def zq71.c2 : Code := codeAt (Tryz.f63.body.getD .skip) [false]
def zq71.c6 : Code := codeAt (Tryz.f63.body.getD .skip) [true, false]
def zq71.c14 : Code := codeAt (Tryz.f63.body.getD .skip) [true, true, false]
def zq71.c30 : Code := codeAt (Tryz.f63.body.getD .skip) [true, true, true, false]
def zq71.c63 : Code := codeAt (Tryz.f63.body.getD .skip) [true, true, true, true, true]
def zq71.c124 : Code := codeAt (Tryz.f63.body.getD .skip) [true, true, true, true, false, false]
def zq71.c500 : Code := codeAt (Tryz.f63.body.getD .skip) [true, true, true, true, false, true, false, false]
def zq71.K500 (N : Nat) (Kn250 : St D0 → Option zq71.R) : Ex → St D0 → Option zq71.R := ((fun up => (onN (fun s => zq71.C.tidy 250 s ((onN Kn250 up) .normal)) (onN Kn250 up))) (blockK 0 (onN (fun s => zq71.C.tidy 62 s (fun s' => runC zq71.C (zq71.O N) N zq71.c63 63 s' zq71.K0)) zq71.K0)))
def zq71.o1 (N : Nat) (v0 : Int) (v1 : Int) (v2 : Int) (v3 : List Int) (v4 : Int) (v5 : Int) (v6 : Int) (v7 : Int) (c2 : Int → Int → Int → (List Int) → Int → Int → Int → Int → (List S41) → Option zq71.R) : Option zq71.R :=
 bif (decide (v2 > 0)) then
  (zq68.g N 6 v3 v4 v5).bind fun r1 =>
  (zq68.g N 59 r1.2.1 r1.2.2.1 r1.2.2.2).bind fun r2 =>
  (zq84.g N v0 r1.1 (w64 (2 + r2.1)) v1).bind fun r3 =>
  bif (Nat.blt (([] : List S41).length + ([(⟨r3.1, r3.2.1, r3.2.2⟩ : S41)] : List S41).length) 5864062014805) then
   c2 v0 v1 (w64 (v2 - 1)) r2.2.1 r2.2.2.1 r2.2.2.2 v6 v7 (([] : List S41) ++ ([(⟨r3.1, r3.2.1, r3.2.2⟩ : S41)] : List S41))
  else
  none
 else
 some (v7, ([] : List S41), v3, v4, v5)
theorem zq71.o1.run (N : Nat) (Kn250 : St D0 → Option zq71.R) (v0 : Int) (v1 : Int) (v2 : Int) (v3 : List Int) (v4 : Int) (v5 : Int) (v6 : Int) (v7 : Int) : runC zq71.C (zq71.O N) N zq71.c500 500 (mkSt [(0, .one (.ptr 0 0)), (4, .one (.ptr 4 0)), (5, .one (.int .i64 v0)), (6, .one (.int .i64 v1)), (7, .one (.ptr 7 0)), (8, .one (.int .i64 v2))] [(0, some (80, [.sl false 5 v3, .int .i64 v4, .int .u64 v5])), (4, some (24, [.int .i64 v6, .nl])), (7, some (24, [.int .i64 v7, .nl]))] : St D0) ((fun up => (onN (fun s => zq71.C.tidy 250 s ((onN Kn250 up) .normal)) (onN Kn250 up))) (blockK 0 (onN (fun s => zq71.C.tidy 62 s (fun s' => runC zq71.C (zq71.O N) N zq71.c63 63 s' zq71.K0)) zq71.K0))) = zq71.o1 N v0 v1 v2 v3 v4 v5 v6 v7 ((fun w0 w1 w2 w3 w4 w5 w6 w7 w8 => Kn250 (mkSt [(0, .one (.ptr 0 0)), (4, .one (.ptr 4 0)), (5, .one (.int .i64 w0)), (6, .one (.int .i64 w1)), (7, .one (.ptr 7 0)), (8, .one (.int .i64 w2))] [(0, some (80, [.sl false 5 w3, .int .i64 w4, .int .u64 w5])), (4, some (24, [.int .i64 w6, .nl])), (7, some (24, [.int .i64 w7, .sl true 41 w8]))] : St D0))) := by kernel_rfl
def zq71.d1 (N : Nat) (v0 : Int) (v1 : Int) (v2 : Int) (v3 : List Int) (v4 : Int) (v5 : Int) (v6 : Int) (v7 : Int) (c2 : Int → Int → Int → (List Int) → Int → Int → Int → Int → (List S41) → Option zq71.R) : Option zq71.R := zq71.o1 N v0 v1 v2 v3 v4 v5 v6 v7 c2
theorem zq71.d1.run (N : Nat) (Kn250 : St D0 → Option zq71.R) (v0 : Int) (v1 : Int) (v2 : Int) (v3 : List Int) (v4 : Int) (v5 : Int) (v6 : Int) (v7 : Int) : runC zq71.C (zq71.O N) N zq71.c500 500 (mkSt [(0, .one (.ptr 0 0)), (4, .one (.ptr 4 0)), (5, .one (.int .i64 v0)), (6, .one (.int .i64 v1)), (7, .one (.ptr 7 0)), (8, .one (.int .i64 v2))] [(0, some (80, [.sl false 5 v3, .int .i64 v4, .int .u64 v5])), (4, some (24, [.int .i64 v6, .nl])), (7, some (24, [.int .i64 v7, .nl]))] : St D0) (zq71.K500 N Kn250) = zq71.d1 N v0 v1 v2 v3 v4 v5 v6 v7 ((fun w0 w1 w2 w3 w4 w5 w6 w7 w8 => Kn250 (mkSt [(0, .one (.ptr 0 0)), (4, .one (.ptr 4 0)), (5, .one (.int .i64 w0)), (6, .one (.int .i64 w1)), (7, .one (.ptr 7 0)), (8, .one (.int .i64 w2))] [(0, some (80, [.sl false 5 w3, .int .i64 w4, .int .u64 w5])), (4, some (24, [.int .i64 w6, .nl])), (7, some (24, [.int .i64 w7, .sl true 41 w8]))] : St D0))) := by
  exact (zq71.o1.run N Kn250 v0 v1 v2 v3 v4 v5 v6 v7).trans rfl
def zq71.o2 (N : Nat) (v0 : Int) (v1 : Int) (v2 : Int) (v3 : List Int) (v4 : Int) (v5 : Int) (v6 : Int) (v7 : Int) (v8 : List S41) (c2 : Int → Int → Int → (List Int) → Int → Int → Int → Int → (List S41) → Option zq71.R) : Option zq71.R :=
 bif (decide (v2 > 0)) then
  (zq68.g N 6 v3 v4 v5).bind fun r1 =>
  (zq68.g N 59 r1.2.1 r1.2.2.1 r1.2.2.2).bind fun r2 =>
  (zq84.g N v0 r1.1 (w64 (2 + r2.1)) v1).bind fun r3 =>
  bif (Nat.blt (v8.length + ([(⟨r3.1, r3.2.1, r3.2.2⟩ : S41)] : List S41).length) 5864062014805) then
   c2 v0 v1 (w64 (v2 - 1)) r2.2.1 r2.2.2.1 r2.2.2.2 v6 v7 (v8 ++ ([(⟨r3.1, r3.2.1, r3.2.2⟩ : S41)] : List S41))
  else
  none
 else
 some (v7, v8, v3, v4, v5)
theorem zq71.o2.run (N : Nat) (Kn250 : St D0 → Option zq71.R) (v0 : Int) (v1 : Int) (v2 : Int) (v3 : List Int) (v4 : Int) (v5 : Int) (v6 : Int) (v7 : Int) (v8 : List S41) : runC zq71.C (zq71.O N) N zq71.c500 500 (mkSt [(0, .one (.ptr 0 0)), (4, .one (.ptr 4 0)), (5, .one (.int .i64 v0)), (6, .one (.int .i64 v1)), (7, .one (.ptr 7 0)), (8, .one (.int .i64 v2))] [(0, some (80, [.sl false 5 v3, .int .i64 v4, .int .u64 v5])), (4, some (24, [.int .i64 v6, .nl])), (7, some (24, [.int .i64 v7, .sl true 41 v8]))] : St D0) ((fun up => (onN (fun s => zq71.C.tidy 250 s ((onN Kn250 up) .normal)) (onN Kn250 up))) (blockK 0 (onN (fun s => zq71.C.tidy 62 s (fun s' => runC zq71.C (zq71.O N) N zq71.c63 63 s' zq71.K0)) zq71.K0))) = zq71.o2 N v0 v1 v2 v3 v4 v5 v6 v7 v8 ((fun w0 w1 w2 w3 w4 w5 w6 w7 w8 => Kn250 (mkSt [(0, .one (.ptr 0 0)), (4, .one (.ptr 4 0)), (5, .one (.int .i64 w0)), (6, .one (.int .i64 w1)), (7, .one (.ptr 7 0)), (8, .one (.int .i64 w2))] [(0, some (80, [.sl false 5 w3, .int .i64 w4, .int .u64 w5])), (4, some (24, [.int .i64 w6, .nl])), (7, some (24, [.int .i64 w7, .sl true 41 w8]))] : St D0))) := by kernel_rfl
def zq71.d2 (N : Nat) (v0 : Int) (v1 : Int) (v2 : Int) (v3 : List Int) (v4 : Int) (v5 : Int) (v6 : Int) (v7 : Int) (v8 : List S41) (c2 : Int → Int → Int → (List Int) → Int → Int → Int → Int → (List S41) → Option zq71.R) : Option zq71.R := zq71.o2 N v0 v1 v2 v3 v4 v5 v6 v7 v8 c2
theorem zq71.d2.run (N : Nat) (Kn250 : St D0 → Option zq71.R) (v0 : Int) (v1 : Int) (v2 : Int) (v3 : List Int) (v4 : Int) (v5 : Int) (v6 : Int) (v7 : Int) (v8 : List S41) : runC zq71.C (zq71.O N) N zq71.c500 500 (mkSt [(0, .one (.ptr 0 0)), (4, .one (.ptr 4 0)), (5, .one (.int .i64 v0)), (6, .one (.int .i64 v1)), (7, .one (.ptr 7 0)), (8, .one (.int .i64 v2))] [(0, some (80, [.sl false 5 v3, .int .i64 v4, .int .u64 v5])), (4, some (24, [.int .i64 v6, .nl])), (7, some (24, [.int .i64 v7, .sl true 41 v8]))] : St D0) (zq71.K500 N Kn250) = zq71.d2 N v0 v1 v2 v3 v4 v5 v6 v7 v8 ((fun w0 w1 w2 w3 w4 w5 w6 w7 w8 => Kn250 (mkSt [(0, .one (.ptr 0 0)), (4, .one (.ptr 4 0)), (5, .one (.int .i64 w0)), (6, .one (.int .i64 w1)), (7, .one (.ptr 7 0)), (8, .one (.int .i64 w2))] [(0, some (80, [.sl false 5 w3, .int .i64 w4, .int .u64 w5])), (4, some (24, [.int .i64 w6, .nl])), (7, some (24, [.int .i64 w7, .sl true 41 w8]))] : St D0))) := by
  exact (zq71.o2.run N Kn250 v0 v1 v2 v3 v4 v5 v6 v7 v8).trans rfl
def zq71.K250 (N : Nat) : Ex → St D0 → Option zq71.R := (blockK 0 (onN (fun s => zq71.C.tidy 62 s (fun s' => runC zq71.C (zq71.O N) N zq71.c63 63 s' zq71.K0)) zq71.K0))
mutual
def zq71.l1 (N : Nat) : Nat → Int → Int → Int → (List Int) → Int → Int → Int → Int → Option zq71.R
  | 0, _, _, _, _, _, _, _, _ => none
  | n + 1, v0, v1, v2, v3, v4, v5, v6, v7 => zq71.d1 N v0 v1 v2 v3 v4 v5 v6 v7 ((fun w0 w1 w2 w3 w4 w5 w6 w7 w8 => zq71.l2 N n w0 w1 w2 w3 w4 w5 w6 w7 w8))
def zq71.l2 (N : Nat) : Nat → Int → Int → Int → (List Int) → Int → Int → Int → Int → (List S41) → Option zq71.R
  | 0, _, _, _, _, _, _, _, _, _ => none
  | n + 1, v0, v1, v2, v3, v4, v5, v6, v7, v8 => zq71.d2 N v0 v1 v2 v3 v4 v5 v6 v7 v8 ((fun w0 w1 w2 w3 w4 w5 w6 w7 w8 => zq71.l2 N n w0 w1 w2 w3 w4 w5 w6 w7 w8))
end
theorem zq71.loop250 (N : Nat) : ∀ n, (∀ (v0 : Int) (v1 : Int) (v2 : Int) (v3 : List Int) (v4 : Int) (v5 : Int) (v6 : Int) (v7 : Int), iter (loopF zq71.C (zq71.O N) N zq71.c500 250) n (mkSt [(0, .one (.ptr 0 0)), (4, .one (.ptr 4 0)), (5, .one (.int .i64 v0)), (6, .one (.int .i64 v1)), (7, .one (.ptr 7 0)), (8, .one (.int .i64 v2))] [(0, some (80, [.sl false 5 v3, .int .i64 v4, .int .u64 v5])), (4, some (24, [.int .i64 v6, .nl])), (7, some (24, [.int .i64 v7, .nl]))] : St D0) (zq71.K250 N) = zq71.l1 N n v0 v1 v2 v3 v4 v5 v6 v7) ∧ (∀ (v0 : Int) (v1 : Int) (v2 : Int) (v3 : List Int) (v4 : Int) (v5 : Int) (v6 : Int) (v7 : Int) (v8 : List S41), iter (loopF zq71.C (zq71.O N) N zq71.c500 250) n (mkSt [(0, .one (.ptr 0 0)), (4, .one (.ptr 4 0)), (5, .one (.int .i64 v0)), (6, .one (.int .i64 v1)), (7, .one (.ptr 7 0)), (8, .one (.int .i64 v2))] [(0, some (80, [.sl false 5 v3, .int .i64 v4, .int .u64 v5])), (4, some (24, [.int .i64 v6, .nl])), (7, some (24, [.int .i64 v7, .sl true 41 v8]))] : St D0) (zq71.K250 N) = zq71.l2 N n v0 v1 v2 v3 v4 v5 v6 v7 v8)
  | 0 => ⟨(fun v0 v1 v2 v3 v4 v5 v6 v7 => rfl), (fun v0 v1 v2 v3 v4 v5 v6 v7 v8 => rfl)⟩
  | n + 1 => ⟨(fun v0 v1 v2 v3 v4 v5 v6 v7 => (zq71.d1.run N (fun s => iter (loopF zq71.C (zq71.O N) N zq71.c500 250) n s (zq71.K250 N)) v0 v1 v2 v3 v4 v5 v6 v7).trans (show _ = zq71.d1 N v0 v1 v2 v3 v4 v5 v6 v7 ((fun w0 w1 w2 w3 w4 w5 w6 w7 w8 => zq71.l2 N n w0 w1 w2 w3 w4 w5 w6 w7 w8)) from (congr rfl (funext fun w0 => funext fun w1 => funext fun w2 => funext fun w3 => funext fun w4 => funext fun w5 => funext fun w6 => funext fun w7 => funext fun w8 => (zq71.loop250 N n).2 w0 w1 w2 w3 w4 w5 w6 w7 w8)))), (fun v0 v1 v2 v3 v4 v5 v6 v7 v8 => (zq71.d2.run N (fun s => iter (loopF zq71.C (zq71.O N) N zq71.c500 250) n s (zq71.K250 N)) v0 v1 v2 v3 v4 v5 v6 v7 v8).trans (show _ = zq71.d2 N v0 v1 v2 v3 v4 v5 v6 v7 v8 ((fun w0 w1 w2 w3 w4 w5 w6 w7 w8 => zq71.l2 N n w0 w1 w2 w3 w4 w5 w6 w7 w8)) from (congr rfl (funext fun w0 => funext fun w1 => funext fun w2 => funext fun w3 => funext fun w4 => funext fun w5 => funext fun w6 => funext fun w7 => funext fun w8 => (zq71.loop250 N n).2 w0 w1 w2 w3 w4 w5 w6 w7 w8))))⟩
def zq71.o0 (N : Nat) (a1 : Int) (b0_0 : List Int) (b0_1 : Int) (b0_2 : Int) (c1 : Int → Int → Int → (List Int) → Int → Int → Int → Int → Option zq71.R) : Option zq71.R :=
 (zq68.g N 11 b0_0 b0_1 b0_2).bind fun r1 =>
 (zq68.g N (w64 (60 * (w64 (2 + r1.1)))) r1.2.1 r1.2.2.1 r1.2.2.2).bind fun r2 =>
 (zq68.g N (w64 (a1 + 1)) r2.2.1 r2.2.2.1 r2.2.2.2).bind fun r3 =>
 c1 (w64 (2 + r1.1)) r2.1 r3.1 r3.2.1 r3.2.2.1 r3.2.2.2 0 (w64 (2 + r1.1))
theorem zq71.o0.run (N : Nat) (H500 : Code) (a1 : Int) (b0_0 : List Int) (b0_1 : Int) (b0_2 : Int) : runC zq71.C (zq71.O N) N (.seq zq71.c2 (.seq zq71.c6 (.seq zq71.c14 (.seq zq71.c30 (.seq (.seq zq71.c124 (.block 0 (.loop H500))) zq71.c63))))) 1 (st0 [.one (.ptr 0 0), .one (.int .i64 a1)] [(80, [.sl false 5 b0_0, .int .i64 b0_1, .int .u64 b0_2])] : St D0) zq71.K0 = zq71.o0 N a1 b0_0 b0_1 b0_2 ((fun w0 w1 w2 w3 w4 w5 w6 w7 => iter (loopF zq71.C (zq71.O N) N H500 250) N (mkSt [(0, .one (.ptr 0 0)), (4, .one (.ptr 4 0)), (5, .one (.int .i64 w0)), (6, .one (.int .i64 w1)), (7, .one (.ptr 7 0)), (8, .one (.int .i64 w2))] [(0, some (80, [.sl false 5 w3, .int .i64 w4, .int .u64 w5])), (4, some (24, [.int .i64 w6, .nl])), (7, some (24, [.int .i64 w7, .nl]))] : St D0) (blockK 0 (onN (fun s => zq71.C.tidy 62 s (fun s' => runC zq71.C (zq71.O N) N zq71.c63 63 s' zq71.K0)) zq71.K0)))) := by kernel_rfl
def zq71.g (N : Nat) (a1 : Int) (b0_0 : List Int) (b0_1 : Int) (b0_2 : Int) : Option zq71.R := zq71.o0 N a1 b0_0 b0_1 b0_2 ((fun w0 w1 w2 w3 w4 w5 w6 w7 => zq71.l1 N N w0 w1 w2 w3 w4 w5 w6 w7))
theorem zq71.c1_0 : zq71.c1 = (.seq zq71.c2 (.seq zq71.c6 (.seq zq71.c14 (.seq zq71.c30 (.seq (.seq zq71.c124 (.block 0 (.loop zq71.c500))) zq71.c63))))) := by kernel_rfl
theorem zq71.g.run (N : Nat) (a1 : Int) (b0_0 : List Int) (b0_1 : Int) (b0_2 : Int) : runC zq71.C (zq71.O N) N zq71.c1 1 (st0 [.one (.ptr 0 0), .one (.int .i64 a1)] [(80, [.sl false 5 b0_0, .int .i64 b0_1, .int .u64 b0_2])] : St D0) zq71.K0 = zq71.g N a1 b0_0 b0_1 b0_2 := by
  rw [zq71.c1_0]; unfold zq71.g; exact (zq71.o0.run N zq71.c500 a1 b0_0 b0_1 b0_2).trans (congr rfl (funext fun w0 => funext fun w1 => funext fun w2 => funext fun w3 => funext fun w4 => funext fun w5 => funext fun w6 => funext fun w7 => (zq71.loop250 N N).1 w0 w1 w2 w3 w4 w5 w6 w7))
theorem zq71.good (N : Nat) (a1 : Int) (b0_0 : List Int) (b0_1 : Int) (b0_2 : Int) (r : zq71.R) (h : zq71.g N a1 b0_0 b0_1 b0_2 = some r) : Go.PM.Good Tryz.prog T0 63 [.one (.ptr 0 0), .one (.int .i64 a1)] [(80, [.sl false 5 b0_0, .int .i64 b0_1, .int .u64 b0_2])] (zq71.sig.ret r) (zq71.sig.bs r) :=
  good_fn tabOk0 mixed0 zq71.sig (zq71.E N) Tryz.func63 (by kernel_rfl) (by kernel_rfl) 8389107 549890031616 1 [(250, [0, 4, 5, 6, 7, 8], [0, 4, 7])] 20154429952 false [] [(true, [.any, .own 41])] (by kernel_rfl) rfl rfl ((zq71.g.run N a1 b0_0 b0_1 b0_2).trans h)
def zq71.ent (N : Nat) : Ent Tryz.prog T0 := mkEnt 63 [(false, [.any]), (false, [.any])] zq71.sig (fun t => zq71.g N t.2.1 t.2.2.1 t.2.2.2.1 t.2.2.2.2) (fun t r h => zq71.good N t.2.1 t.2.2.1 t.2.2.2.1 t.2.2.2.2 r h)
/-! ### zq65 -/
abbrev zq65.R : Type := Int × Int × Int × List Int × Int × Int
abbrev zq65.sig : Sig := ⟨[(false, 1), (false, 1)], [(80, 3)], [.ptr 0 0, .int .i64, .sl false 5, .int .i64, .int .u64], [(true, 3)], [(80, 3)], [.int .i64, .int .i64, .int .i64, .sl false 5, .int .i64, .int .u64]⟩
def zq65.C : Cfg D0 := ⟨Tryz.prog, T0, 524371, 0, 32, 1, [], 425862304, false, []⟩
def zq65.E (N : Nat) : List (Ent Tryz.prog T0) := [zq67.ent N, zq68.ent N, zq64.ent N, zq60.ent N, zq84.ent N]
def zq65.O (N : Nat) : Orc D0 zq65.R := orcOf (zq65.E N)
def zq65.K0 : Ex → St D0 → Option zq65.R := exitK zq65.C Tryz.f105.results.toList [(true, [.any, .any, .any])] (decOut zq65.sig)
def zq65.c1 : Code := codeAt (Tryz.f105.body.getD .skip) []
def zq65.o0 (N : Nat) (a1 : Int) (b0_0 : List Int) (b0_1 : Int) (b0_2 : Int) : Option zq65.R :=
 (zq67.g N 5 b0_0 b0_1 b0_2).bind fun r1 =>
 bif r1.1 then
  (zq68.g N 8 r1.2.1 r1.2.2.1 r1.2.2.2).bind fun r2 =>
  (zq64.g N ([(-1), 0, 1, 2, 30, 31, 59, 60, 61] : List Int) r2.2.1 r2.2.2.1 r2.2.2.2).bind fun r3 =>
  (zq64.g N ([(-1), 0, 0, 1] : List Int) r3.2.1 r3.2.2.1 r3.2.2.2).bind fun r4 =>
  some ((w64 (r2.1 - 1)), r3.1, r4.1, r4.2.1, r4.2.2.1, r4.2.2.2)
 else
 (zq60.g N a1).bind fun r5 =>
 bif (!r5) then
  some (0, 0, 0, r1.2.1, r1.2.2.1, r1.2.2.2)
 else
 (zq68.g N 6 r1.2.1 r1.2.2.1 r1.2.2.2).bind fun r6 =>
 (zq68.g N 59 r6.2.1 r6.2.2.1 r6.2.2.2).bind fun r7 =>
 (zq68.g N (w64 (60 * a1)) r7.2.1 r7.2.2.1 r7.2.2.2).bind fun r8 =>
 (zq84.g N a1 r6.1 (w64 (2 + r7.1)) r8.1).bind fun r9 =>
 some (r9.1, r9.2.1, r9.2.2, r8.2.1, r8.2.2.1, r8.2.2.2)
theorem zq65.o0.run (N : Nat) (a1 : Int) (b0_0 : List Int) (b0_1 : Int) (b0_2 : Int) : runC zq65.C (zq65.O N) N zq65.c1 1 (st0 [.one (.ptr 0 0), .one (.int .i64 a1)] [(80, [.sl false 5 b0_0, .int .i64 b0_1, .int .u64 b0_2])] : St D0) zq65.K0 = zq65.o0 N a1 b0_0 b0_1 b0_2 := by kernel_rfl
def zq65.g (N : Nat) (a1 : Int) (b0_0 : List Int) (b0_1 : Int) (b0_2 : Int) : Option zq65.R := zq65.o0 N a1 b0_0 b0_1 b0_2
theorem zq65.g.run (N : Nat) (a1 : Int) (b0_0 : List Int) (b0_1 : Int) (b0_2 : Int) : runC zq65.C (zq65.O N) N zq65.c1 1 (st0 [.one (.ptr 0 0), .one (.int .i64 a1)] [(80, [.sl false 5 b0_0, .int .i64 b0_1, .int .u64 b0_2])] : St D0) zq65.K0 = zq65.g N a1 b0_0 b0_1 b0_2 := by
  exact (zq65.o0.run N a1 b0_0 b0_1 b0_2).trans rfl
theorem zq65.good (N : Nat) (a1 : Int) (b0_0 : List Int) (b0_1 : Int) (b0_2 : Int) (r : zq65.R) (h : zq65.g N a1 b0_0 b0_1 b0_2 = some r) : Go.PM.Good Tryz.prog T0 105 [.one (.ptr 0 0), .one (.int .i64 a1)] [(80, [.sl false 5 b0_0, .int .i64 b0_1, .int .u64 b0_2])] (zq65.sig.ret r) (zq65.sig.bs r) :=
  good_fn tabOk0 mixed0 zq65.sig (zq65.E N) Tryz.func105 (by kernel_rfl) (by kernel_rfl) 524371 0 1 [] 425862304 false [] [(true, [.any, .any, .any])] (by kernel_rfl) rfl rfl ((zq65.g.run N a1 b0_0 b0_1 b0_2).trans h)
def zq65.ent (N : Nat) : Ent Tryz.prog T0 := mkEnt 105 [(false, [.any]), (false, [.any])] zq65.sig (fun t => zq65.g N t.2.1 t.2.2.1 t.2.2.2.1 t.2.2.2.2) (fun t r h => zq65.good N t.2.1 t.2.2.1 t.2.2.2.1 t.2.2.2.2 r h)
/-! ### zq69 -/
abbrev zq69.R : Type := Int × List S41 × List Int × Int × Int
abbrev zq69.sig : Sig := ⟨[(false, 1)], [(80, 3)], [.ptr 0 0, .sl false 5, .int .i64, .int .u64], [(true, 2)], [(80, 3)], [.int .i64, .sl true 41, .sl false 5, .int .i64, .int .u64]⟩
def zq69.C : Cfg D0 := ⟨Tryz.prog, T0, 8623505805, 1133871497216, 41, 1, [(14, [2, 3], [0, 2, 3]), (7548, [0, 2, 3], [0, 2, 3])], 1074005072, false, []⟩
def zq69.E (N : Nat) : List (Ent Tryz.prog T0) := [zq71.ent N, zq68.ent N, zq64.ent N, zq65.ent N]
def zq69.O (N : Nat) : Orc D0 zq69.R := orcOf (zq69.E N)
def zq69.K0 : Ex → St D0 → Option zq69.R := exitK zq69.C Tryz.f86.results.toList [(true, [.any, .own 41])] (decOut zq69.sig)
def zq69.c1 : Code := codeAt (Tryz.f86.body.getD .skip) []
def zq69.c2 : Code := codeAt (Tryz.f86.body.getD .skip) [false]
def zq69.c6 : Code := codeAt (Tryz.f86.body.getD .skip) [true, false]
def zq69.c15 : Code := codeAt (Tryz.f86.body.getD .skip) [true, true, true]
def zq69.c28 : Code := codeAt (Tryz.f86.body.getD .skip) [true, true, false, false]
def zq69.c116 : Code := codeAt (Tryz.f86.body.getD .skip) [true, true, false, true, false, false]
def zq69.c234 : Code := codeAt (Tryz.f86.body.getD .skip) [true, true, false, true, false, true, false]
def zq69.c470 : Code := codeAt (Tryz.f86.body.getD .skip) [true, true, false, true, false, true, true, false]
def zq69.c942 : Code := codeAt (Tryz.f86.body.getD .skip) [true, true, false, true, false, true, true, true, false]
def zq69.c1886 : Code := codeAt (Tryz.f86.body.getD .skip) [true, true, false, true, false, true, true, true, true, false]
def zq69.c3775 : Code := codeAt (Tryz.f86.body.getD .skip) [true, true, false, true, false, true, true, true, true, true, true]
def zq69.c15096 : Code := codeAt (Tryz.f86.body.getD .skip) [true, true, false, true, false, true, true, true, true, true, false, false, false]
def zq69.K15 (N : Nat) : Ex → St D0 → Option zq69.R := zq69.K0
def zq69.o1 (N : Nat) (v0 : List Int) (v1 : Int) (v2 : Int) (v3 : Int) (v4 : Int) (v5 : List S41) : Option zq69.R :=
 some (v4, v5, v0, v1, v2)
theorem zq69.o1.run (N : Nat) (v0 : List Int) (v1 : Int) (v2 : Int) (v3 : Int) (v4 : Int) (v5 : List S41) : runC zq69.C (zq69.O N) N zq69.c15 15 (mkSt [(2, .one (.ptr 2 0)), (3, .one (.ptr 3 0))] [(0, some (80, [.sl false 5 v0, .int .i64 v1, .int .u64 v2])), (2, some (24, [.int .i64 v3, .nl])), (3, some (24, [.int .i64 v4, .sl true 41 v5]))] : St D0) zq69.K0 = zq69.o1 N v0 v1 v2 v3 v4 v5 := by kernel_rfl
def zq69.d1 (N : Nat) (v0 : List Int) (v1 : Int) (v2 : Int) (v3 : Int) (v4 : Int) (v5 : List S41) : Option zq69.R := zq69.o1 N v0 v1 v2 v3 v4 v5
theorem zq69.d1.run (N : Nat) (v0 : List Int) (v1 : Int) (v2 : Int) (v3 : Int) (v4 : Int) (v5 : List S41) : runC zq69.C (zq69.O N) N zq69.c15 15 (mkSt [(2, .one (.ptr 2 0)), (3, .one (.ptr 3 0))] [(0, some (80, [.sl false 5 v0, .int .i64 v1, .int .u64 v2])), (2, some (24, [.int .i64 v3, .nl])), (3, some (24, [.int .i64 v4, .sl true 41 v5]))] : St D0) (zq69.K15 N) = zq69.d1 N v0 v1 v2 v3 v4 v5 := by
  exact (zq69.o1.run N v0 v1 v2 v3 v4 v5).trans rfl
def zq69.B7 (N : Nat) : St D0 → Option zq69.R := fun s' => runC zq69.C (zq69.O N) N zq69.c15 15 s' (zq69.K15 N)
def zq69.K15096 (N : Nat) (Kn7548 : St D0 → Option zq69.R) : Ex → St D0 → Option zq69.R := ((fun up => (onN (fun s => zq69.C.tidy 7548 s ((onN Kn7548 up) .normal)) (onN Kn7548 up))) (blockK 1 (blockK 0 (onN (fun s => zq69.C.tidy 14 s (zq69.B7 N)) zq69.K0))))
def zq69.o2 (N : Nat) (v0 : List Int) (v1 : Int) (v2 : Int) (v3 : Int) (v4 : Int) (v5 : List S41) (c2 : (List Int) → Int → Int → Int → Int → (List S41) → Option zq69.R) (c1 : (List Int) → Int → Int → Int → Int → (List S41) → Option zq69.R) : Option zq69.R :=
 (zq68.g N 2 v0 v1 v2).bind fun r1 =>
 bif (decide ((v5.length : Int) < (w64 (6 + r1.1)))) then
  bif (Nat.blt (v5.length + ([(⟨3, 1, 0⟩ : S41)] : List S41).length) 5864062014805) then
   c2 r1.2.1 r1.2.2.1 r1.2.2.2 v3 v4 (v5 ++ ([(⟨3, 1, 0⟩ : S41)] : List S41))
  else
  none
 else
 c1 r1.2.1 r1.2.2.1 r1.2.2.2 v3 v4 v5
theorem zq69.o2.run (N : Nat) (Kb7 : St D0 → Option zq69.R) (Kn7548 : St D0 → Option zq69.R) (v0 : List Int) (v1 : Int) (v2 : Int) (v3 : Int) (v4 : Int) (v5 : List S41) : runC zq69.C (zq69.O N) N zq69.c15096 15096 (mkSt [(0, .one (.ptr 0 0)), (2, .one (.ptr 2 0)), (3, .one (.ptr 3 0))] [(0, some (80, [.sl false 5 v0, .int .i64 v1, .int .u64 v2])), (2, some (24, [.int .i64 v3, .nl])), (3, some (24, [.int .i64 v4, .sl true 41 v5]))] : St D0) ((fun up => (onN (fun s => zq69.C.tidy 7548 s ((onN Kn7548 up) .normal)) (onN Kn7548 up))) (blockK 1 (blockK 0 (onN (fun s => zq69.C.tidy 14 s Kb7) zq69.K0)))) = zq69.o2 N v0 v1 v2 v3 v4 v5 ((fun w0 w1 w2 w3 w4 w5 => Kn7548 (mkSt [(0, .one (.ptr 0 0)), (2, .one (.ptr 2 0)), (3, .one (.ptr 3 0))] [(0, some (80, [.sl false 5 w0, .int .i64 w1, .int .u64 w2])), (2, some (24, [.int .i64 w3, .nl])), (3, some (24, [.int .i64 w4, .sl true 41 w5]))] : St D0))) ((fun w0 w1 w2 w3 w4 w5 => Kb7 (mkSt [(2, .one (.ptr 2 0)), (3, .one (.ptr 3 0))] [(0, some (80, [.sl false 5 w0, .int .i64 w1, .int .u64 w2])), (2, some (24, [.int .i64 w3, .nl])), (3, some (24, [.int .i64 w4, .sl true 41 w5]))] : St D0))) := by kernel_rfl
def zq69.d2 (N : Nat) (v0 : List Int) (v1 : Int) (v2 : Int) (v3 : Int) (v4 : Int) (v5 : List S41) (c2 : (List Int) → Int → Int → Int → Int → (List S41) → Option zq69.R) : Option zq69.R := zq69.o2 N v0 v1 v2 v3 v4 v5 c2 ((fun w0 w1 w2 w3 w4 w5 => zq69.d1 N w0 w1 w2 w3 w4 w5))
theorem zq69.d2.run (N : Nat) (Kn7548 : St D0 → Option zq69.R) (v0 : List Int) (v1 : Int) (v2 : Int) (v3 : Int) (v4 : Int) (v5 : List S41) : runC zq69.C (zq69.O N) N zq69.c15096 15096 (mkSt [(0, .one (.ptr 0 0)), (2, .one (.ptr 2 0)), (3, .one (.ptr 3 0))] [(0, some (80, [.sl false 5 v0, .int .i64 v1, .int .u64 v2])), (2, some (24, [.int .i64 v3, .nl])), (3, some (24, [.int .i64 v4, .sl true 41 v5]))] : St D0) (zq69.K15096 N Kn7548) = zq69.d2 N v0 v1 v2 v3 v4 v5 ((fun w0 w1 w2 w3 w4 w5 => Kn7548 (mkSt [(0, .one (.ptr 0 0)), (2, .one (.ptr 2 0)), (3, .one (.ptr 3 0))] [(0, some (80, [.sl false 5 w0, .int .i64 w1, .int .u64 w2])), (2, some (24, [.int .i64 w3, .nl])), (3, some (24, [.int .i64 w4, .sl true 41 w5]))] : St D0))) := by
  unfold zq69.d2; exact (zq69.o2.run N (zq69.B7 N) Kn7548 v0 v1 v2 v3 v4 v5).trans (congr (congr rfl rfl) (funext fun w0 => funext fun w1 => funext fun w2 => funext fun w3 => funext fun w4 => funext fun w5 => zq69.d1.run N w0 w1 w2 w3 w4 w5))
def zq69.K7548 (N : Nat) : Ex → St D0 → Option zq69.R := (blockK 1 (blockK 0 (onN (fun s => zq69.C.tidy 14 s (zq69.B7 N)) zq69.K0)))
def zq69.l2 (N : Nat) : Nat → (List Int) → Int → Int → Int → Int → (List S41) → Option zq69.R
  | 0, _, _, _, _, _, _ => none
  | n + 1, v0, v1, v2, v3, v4, v5 => zq69.d2 N v0 v1 v2 v3 v4 v5 ((fun w0 w1 w2 w3 w4 w5 => zq69.l2 N n w0 w1 w2 w3 w4 w5))
theorem zq69.loop7548 (N : Nat) : ∀ n, (∀ (v0 : List Int) (v1 : Int) (v2 : Int) (v3 : Int) (v4 : Int) (v5 : List S41), iter (loopF zq69.C (zq69.O N) N zq69.c15096 7548) n (mkSt [(0, .one (.ptr 0 0)), (2, .one (.ptr 2 0)), (3, .one (.ptr 3 0))] [(0, some (80, [.sl false 5 v0, .int .i64 v1, .int .u64 v2])), (2, some (24, [.int .i64 v3, .nl])), (3, some (24, [.int .i64 v4, .sl true 41 v5]))] : St D0) (zq69.K7548 N) = zq69.l2 N n v0 v1 v2 v3 v4 v5)
  | 0 => (fun v0 v1 v2 v3 v4 v5 => rfl)
  | n + 1 => (fun v0 v1 v2 v3 v4 v5 => (zq69.d2.run N (fun s => iter (loopF zq69.C (zq69.O N) N zq69.c15096 7548) n s (zq69.K7548 N)) v0 v1 v2 v3 v4 v5).trans (show _ = zq69.d2 N v0 v1 v2 v3 v4 v5 ((fun w0 w1 w2 w3 w4 w5 => zq69.l2 N n w0 w1 w2 w3 w4 w5)) from (congr rfl (funext fun w0 => funext fun w1 => funext fun w2 => funext fun w3 => funext fun w4 => funext fun w5 => (zq69.loop7548 N n) w0 w1 w2 w3 w4 w5))))
def zq69.o0 (N : Nat) (b0_0 : List Int) (b0_1 : Int) (b0_2 : Int) (c1 : (List Int) → Int → Int → Int → Int → (List S41) → Option zq69.R) (c2 : (List Int) → Int → Int → Int → Int → (List S41) → Option zq69.R) : Option zq69.R :=
 (zq71.g N 5 b0_0 b0_1 b0_2).bind fun r1 =>
 (zq68.g N 12 r1.2.2.1 r1.2.2.2.1 r1.2.2.2.2).bind fun r2 =>
 bif (r2.1 == 0) then
  (zq64.g N ([1, 2, 24, 25, (-1)] : List Int) r2.2.1 r2.2.2.1 r2.2.2.2).bind fun r3 =>
  c1 r3.2.1 r3.2.2.1 r3.2.2.2 0 r3.1 r1.2.1
 else
 bif (r2.1 == 1) then
  (zq65.g N r1.1 r2.2.1 r2.2.2.1 r2.2.2.2).bind fun r4 =>
  bif (Nat.blt (r1.2.1.length + ([(⟨r4.1, r4.2.1, r4.2.2.1⟩ : S41)] : List S41).length) 5864062014805) then
   c1 r4.2.2.2.1 r4.2.2.2.2.1 r4.2.2.2.2.2 0 r1.1 (r1.2.1 ++ ([(⟨r4.1, r4.2.1, r4.2.2.1⟩ : S41)] : List S41))
  else
  none
 else
 bif (r2.1 == 2) then
  c2 r2.2.1 r2.2.2.1 r2.2.2.2 0 r1.1 r1.2.1
 else
 c1 r2.2.1 r2.2.2.1 r2.2.2.2 0 r1.1 r1.2.1
theorem zq69.o0.run (N : Nat) (H15 : Code) (H15096 : Code) (b0_0 : List Int) (b0_1 : Int) (b0_2 : Int) : runC zq69.C (zq69.O N) N (.seq zq69.c2 (.seq zq69.c6 (.seq (.seq zq69.c28 (.block 0 (.seq zq69.c116 (.cond (.tmp 8) zq69.c234 (.seq zq69.c470 (.cond (.tmp 14) zq69.c942 (.seq zq69.c1886 (.cond (.tmp 25) (.block 1 (.loop H15096)) zq69.c3775)))))))) H15))) 1 (st0 [.one (.ptr 0 0)] [(80, [.sl false 5 b0_0, .int .i64 b0_1, .int .u64 b0_2])] : St D0) zq69.K0 = zq69.o0 N b0_0 b0_1 b0_2 ((fun w0 w1 w2 w3 w4 w5 => runC zq69.C (zq69.O N) N H15 15 (mkSt [(2, .one (.ptr 2 0)), (3, .one (.ptr 3 0))] [(0, some (80, [.sl false 5 w0, .int .i64 w1, .int .u64 w2])), (2, some (24, [.int .i64 w3, .nl])), (3, some (24, [.int .i64 w4, .sl true 41 w5]))] : St D0) zq69.K0)) ((fun w0 w1 w2 w3 w4 w5 => iter (loopF zq69.C (zq69.O N) N H15096 7548) N (mkSt [(0, .one (.ptr 0 0)), (2, .one (.ptr 2 0)), (3, .one (.ptr 3 0))] [(0, some (80, [.sl false 5 w0, .int .i64 w1, .int .u64 w2])), (2, some (24, [.int .i64 w3, .nl])), (3, some (24, [.int .i64 w4, .sl true 41 w5]))] : St D0) (blockK 1 (blockK 0 (onN (fun s => zq69.C.tidy 14 s (fun s' => runC zq69.C (zq69.O N) N H15 15 s' zq69.K0)) zq69.K0))))) := by kernel_rfl
def zq69.g (N : Nat) (b0_0 : List Int) (b0_1 : Int) (b0_2 : Int) : Option zq69.R := zq69.o0 N b0_0 b0_1 b0_2 ((fun w0 w1 w2 w3 w4 w5 => zq69.d1 N w0 w1 w2 w3 w4 w5)) ((fun w0 w1 w2 w3 w4 w5 => zq69.l2 N N w0 w1 w2 w3 w4 w5))
theorem zq69.c1_0 : zq69.c1 = (.seq zq69.c2 (.seq zq69.c6 (.seq (.seq zq69.c28 (.block 0 (.seq zq69.c116 (.cond (.tmp 8) zq69.c234 (.seq zq69.c470 (.cond (.tmp 14) zq69.c942 (.seq zq69.c1886 (.cond (.tmp 25) (.block 1 (.loop zq69.c15096)) zq69.c3775)))))))) zq69.c15))) := by kernel_rfl
theorem zq69.g.run (N : Nat) (b0_0 : List Int) (b0_1 : Int) (b0_2 : Int) : runC zq69.C (zq69.O N) N zq69.c1 1 (st0 [.one (.ptr 0 0)] [(80, [.sl false 5 b0_0, .int .i64 b0_1, .int .u64 b0_2])] : St D0) zq69.K0 = zq69.g N b0_0 b0_1 b0_2 := by
  rw [zq69.c1_0]; unfold zq69.g; exact (zq69.o0.run N zq69.c15 zq69.c15096 b0_0 b0_1 b0_2).trans (congr (congr rfl (funext fun w0 => funext fun w1 => funext fun w2 => funext fun w3 => funext fun w4 => funext fun w5 => zq69.d1.run N w0 w1 w2 w3 w4 w5)) (funext fun w0 => funext fun w1 => funext fun w2 => funext fun w3 => funext fun w4 => funext fun w5 => (zq69.loop7548 N N) w0 w1 w2 w3 w4 w5))
theorem zq69.good (N : Nat) (b0_0 : List Int) (b0_1 : Int) (b0_2 : Int) (r : zq69.R) (h : zq69.g N b0_0 b0_1 b0_2 = some r) : Go.PM.Good Tryz.prog T0 86 [.one (.ptr 0 0)] [(80, [.sl false 5 b0_0, .int .i64 b0_1, .int .u64 b0_2])] (zq69.sig.ret r) (zq69.sig.bs r) :=
  good_fn tabOk0 mixed0 zq69.sig (zq69.E N) Tryz.func86 (by kernel_rfl) (by kernel_rfl) 8623505805 1133871497216 1 [(14, [2, 3], [0, 2, 3]), (7548, [0, 2, 3], [0, 2, 3])] 1074005072 false [] [(true, [.any, .own 41])] (by kernel_rfl) rfl rfl ((zq69.g.run N b0_0 b0_1 b0_2).trans h)
def zq69.ent (N : Nat) : Ent Tryz.prog T0 := mkEnt 86 [(false, [.any])] zq69.sig (fun t => zq69.g N t.2.1 t.2.2.1 t.2.2.2) (fun t r h => zq69.good N t.2.1 t.2.2.1 t.2.2.2 r h)
/-! ### zq58 -/
abbrev zq58.R : Type := List Int × Bool
abbrev zq58.sig : Sig := ⟨[(true, 2)], [], [.int .i64, .sl false 41], [(false, 1), (false, 1)], [], [.sl true 3, .bool]⟩
def zq58.C : Cfg D0 := ⟨Tryz.prog, T0, 79, 0, 12, 0, [], 0, false, []⟩
def zq58.E (N : Nat) : List (Ent Tryz.prog T0) := [zq82.ent N, zq79.ent N]
def zq58.O (N : Nat) : Orc D0 zq58.R := orcOf (zq58.E N)
def zq58.K0 : Ex → St D0 → Option zq58.R := exitK zq58.C Tryz.f6.results.toList [(false, [.own 3]), (false, [.any])] (decOut zq58.sig)
def zq58.c1 : Code := codeAt (Tryz.f6.body.getD .skip) []
def zq58.o0 (N : Nat) (a0_0 : Int) (a0_1 : List S41) : Option zq58.R :=
 (zq82.g N a0_0 a0_1).bind fun r1 =>
 bif (!r1) then
  some (([] : List Int), false)
 else
 (zq79.g N a0_0 a0_1).bind fun r2 =>
 some (r2, true)
theorem zq58.o0.run (N : Nat) (a0_0 : Int) (a0_1 : List S41) : runC zq58.C (zq58.O N) N zq58.c1 1 (st0 [.agg [.int .i64 a0_0, .sl false 41 a0_1]] [] : St D0) zq58.K0 = zq58.o0 N a0_0 a0_1 := by kernel_rfl
def zq58.g (N : Nat) (a0_0 : Int) (a0_1 : List S41) : Option zq58.R := zq58.o0 N a0_0 a0_1
theorem zq58.g.run (N : Nat) (a0_0 : Int) (a0_1 : List S41) : runC zq58.C (zq58.O N) N zq58.c1 1 (st0 [.agg [.int .i64 a0_0, .sl false 41 a0_1]] [] : St D0) zq58.K0 = zq58.g N a0_0 a0_1 := by
  exact (zq58.o0.run N a0_0 a0_1).trans rfl
theorem zq58.good (N : Nat) (a0_0 : Int) (a0_1 : List S41) (r : zq58.R) (h : zq58.g N a0_0 a0_1 = some r) : Go.PM.Good Tryz.prog T0 6 [.agg [.int .i64 a0_0, .sl false 41 a0_1]] [] (zq58.sig.ret r) (zq58.sig.bs r) :=
  good_fn tabOk0 mixed0 zq58.sig (zq58.E N) Tryz.func6 (by kernel_rfl) (by kernel_rfl) 79 0 0 [] 0 false [] [(false, [.own 3]), (false, [.any])] (by kernel_rfl) rfl rfl ((zq58.g.run N a0_0 a0_1).trans h)
def zq58.ent (N : Nat) : Ent Tryz.prog T0 := mkEnt 6 [(true, [.any, .ro 41])] zq58.sig (fun t => zq58.g N t.1 t.2) (fun t r h => zq58.good N t.1 t.2 r h)
/-! ### zq46 -/
abbrev zq46.R : Type := Int × Bool
abbrev zq46.sig : Sig := ⟨[(true, 2)], [], [.int .i64, .sl false 41], [(false, 1), (false, 1)], [], [.int .i64, .bool]⟩
def zq46.C : Cfg D0 := ⟨Tryz.prog, T0, 79, 0, 13, 0, [], 0, false, []⟩
def zq46.E (N : Nat) : List (Ent Tryz.prog T0) := [zq82.ent N, zq79.ent N]
def zq46.O (N : Nat) : Orc D0 zq46.R := orcOf (zq46.E N)
def zq46.K0 : Ex → St D0 → Option zq46.R := exitK zq46.C Tryz.f8.results.toList [(false, [.any]), (false, [.any])] (decOut zq46.sig)
def zq46.c1 : Code := codeAt (Tryz.f8.body.getD .skip) []
def zq46.o0 (N : Nat) (a0_0 : Int) (a0_1 : List S41) : Option zq46.R :=
 (zq82.g N a0_0 a0_1).bind fun r1 =>
 bif (!r1) then
  some (0, false)
 else
 (zq79.g N a0_0 a0_1).bind fun r2 =>
 some ((r2.length : Int), true)
theorem zq46.o0.run (N : Nat) (a0_0 : Int) (a0_1 : List S41) : runC zq46.C (zq46.O N) N zq46.c1 1 (st0 [.agg [.int .i64 a0_0, .sl false 41 a0_1]] [] : St D0) zq46.K0 = zq46.o0 N a0_0 a0_1 := by kernel_rfl
def zq46.g (N : Nat) (a0_0 : Int) (a0_1 : List S41) : Option zq46.R := zq46.o0 N a0_0 a0_1
theorem zq46.g.run (N : Nat) (a0_0 : Int) (a0_1 : List S41) : runC zq46.C (zq46.O N) N zq46.c1 1 (st0 [.agg [.int .i64 a0_0, .sl false 41 a0_1]] [] : St D0) zq46.K0 = zq46.g N a0_0 a0_1 := by
  exact (zq46.o0.run N a0_0 a0_1).trans rfl
theorem zq46.good (N : Nat) (a0_0 : Int) (a0_1 : List S41) (r : zq46.R) (h : zq46.g N a0_0 a0_1 = some r) : Go.PM.Good Tryz.prog T0 8 [.agg [.int .i64 a0_0, .sl false 41 a0_1]] [] (zq46.sig.ret r) (zq46.sig.bs r) :=
  good_fn tabOk0 mixed0 zq46.sig (zq46.E N) Tryz.func8 (by kernel_rfl) (by kernel_rfl) 79 0 0 [] 0 false [] [(false, [.any]), (false, [.any])] (by kernel_rfl) rfl rfl ((zq46.g.run N a0_0 a0_1).trans h)
def zq46.ent (N : Nat) : Ent Tryz.prog T0 := mkEnt 8 [(true, [.any, .ro 41])] zq46.sig (fun t => zq46.g N t.1 t.2) (fun t r h => zq46.good N t.1 t.2 r h)
/-! ### zq4 -/
abbrev zq4.R : Type := Int × Bool
abbrev zq4.sig : Sig := ⟨[(true, 2)], [], [.int .i64, .sl false 41], [(false, 1), (false, 1)], [], [.int .i64, .bool]⟩
def zq4.C : Cfg D0 := ⟨Tryz.prog, T0, 131135, 0, 21, 0, [(28, [4, 17], [])], 280576, false, []⟩
def zq4.E (N : Nat) : List (Ent Tryz.prog T0) := [zq17.ent N]
def zq4.O (N : Nat) : Orc D0 zq4.R := orcOf (zq4.E N)
def zq4.K0 : Ex → St D0 → Option zq4.R := exitK zq4.C Tryz.f9.results.toList [(false, [.any]), (false, [.any])] (decOut zq4.sig)
def zq4.c1 : Code := codeAt (Tryz.f9.body.getD .skip) []
def zq4.c2 : Code := codeAt (Tryz.f9.body.getD .skip) [false]
def zq4.c6 : Code := codeAt (Tryz.f9.body.getD .skip) [true, false]
def zq4.c15 : Code := codeAt (Tryz.f9.body.getD .skip) [true, true, true]
def zq4.c28 : Code := codeAt (Tryz.f9.body.getD .skip) [true, true, false, false]
def zq4.c29 : Code := codeAt (Tryz.f9.body.getD .skip) [true, true, false, true]
def zq4.K29 (N : Nat) : Ex → St D0 → Option zq4.R := (onN (fun s => zq4.C.tidy 14 s (fun s' => runC zq4.C (zq4.O N) N zq4.c15 15 s' zq4.K0)) zq4.K0)
def zq4.o1 (N : Nat) (v0 : List Int) (v1 : Bool) : Option zq4.R :=
 bif v1 then
  some (0, false)
 else
 bif (decide (0 < (v0.length : Int))) then
  (v0[(0 : Int).toNat]?).bind fun x1 =>
  some (x1, true)
 else
 none
theorem zq4.o1.run (N : Nat) (v0 : List Int) (v1 : Bool) : runC zq4.C (zq4.O N) N zq4.c29 29 (mkSt [(4, .one (.sl true 3 v0)), (17, .one (.bool v1))] [] : St D0) (onN (fun s => zq4.C.tidy 14 s (fun s' => runC zq4.C (zq4.O N) N zq4.c15 15 s' zq4.K0)) zq4.K0) = zq4.o1 N v0 v1 := by kernel_rfl
def zq4.d1 (N : Nat) (v0 : List Int) (v1 : Bool) : Option zq4.R := zq4.o1 N v0 v1
theorem zq4.d1.run (N : Nat) (v0 : List Int) (v1 : Bool) : runC zq4.C (zq4.O N) N zq4.c29 29 (mkSt [(4, .one (.sl true 3 v0)), (17, .one (.bool v1))] [] : St D0) (zq4.K29 N) = zq4.d1 N v0 v1 := by
  exact (zq4.o1.run N v0 v1).trans rfl
def zq4.o0 (N : Nat) (a0_0 : Int) (a0_1 : List S41) (c1 : (List Int) → Bool → Option zq4.R) : Option zq4.R :=
 (zq17.g N a0_0 a0_1).bind fun r1 =>
 bif (!r1.2) then
  c1 r1.1 true
 else
 c1 r1.1 ((r1.1.length : Int) == 0)
theorem zq4.o0.run (N : Nat) (H29 : Code) (a0_0 : Int) (a0_1 : List S41) : runC zq4.C (zq4.O N) N (.seq zq4.c2 (.seq zq4.c6 (.seq (.seq zq4.c28 H29) zq4.c15))) 1 (st0 [.agg [.int .i64 a0_0, .sl false 41 a0_1]] [] : St D0) zq4.K0 = zq4.o0 N a0_0 a0_1 ((fun w0 w1 => runC zq4.C (zq4.O N) N H29 29 (mkSt [(4, .one (.sl true 3 w0)), (17, .one (.bool w1))] [] : St D0) (onN (fun s => zq4.C.tidy 14 s (fun s' => runC zq4.C (zq4.O N) N zq4.c15 15 s' zq4.K0)) zq4.K0))) := by kernel_rfl
def zq4.g (N : Nat) (a0_0 : Int) (a0_1 : List S41) : Option zq4.R := zq4.o0 N a0_0 a0_1 ((fun w0 w1 => zq4.d1 N w0 w1))
theorem zq4.c1_0 : zq4.c1 = (.seq zq4.c2 (.seq zq4.c6 (.seq (.seq zq4.c28 zq4.c29) zq4.c15))) := by kernel_rfl
theorem zq4.g.run (N : Nat) (a0_0 : Int) (a0_1 : List S41) : runC zq4.C (zq4.O N) N zq4.c1 1 (st0 [.agg [.int .i64 a0_0, .sl false 41 a0_1]] [] : St D0) zq4.K0 = zq4.g N a0_0 a0_1 := by
  rw [zq4.c1_0]; unfold zq4.g; exact (zq4.o0.run N zq4.c29 a0_0 a0_1).trans (congr rfl (funext fun w0 => funext fun w1 => zq4.d1.run N w0 w1))
theorem zq4.good (N : Nat) (a0_0 : Int) (a0_1 : List S41) (r : zq4.R) (h : zq4.g N a0_0 a0_1 = some r) : Go.PM.Good Tryz.prog T0 9 [.agg [.int .i64 a0_0, .sl false 41 a0_1]] [] (zq4.sig.ret r) (zq4.sig.bs r) :=
  good_fn tabOk0 mixed0 zq4.sig (zq4.E N) Tryz.func9 (by kernel_rfl) (by kernel_rfl) 131135 0 0 [(28, [4, 17], [])] 280576 false [] [(false, [.any]), (false, [.any])] (by kernel_rfl) rfl rfl ((zq4.g.run N a0_0 a0_1).trans h)
def zq4.ent (N : Nat) : Ent Tryz.prog T0 := mkEnt 9 [(true, [.any, .ro 41])] zq4.sig (fun t => zq4.g N t.1 t.2) (fun t r h => zq4.good N t.1 t.2 r h)
/-! ### zq50 -/
abbrev zq50.R : Type := Int × Bool
abbrev zq50.sig : Sig := ⟨[(true, 2)], [], [.int .i64, .sl false 41], [(false, 1), (false, 1)], [], [.int .i64, .bool]⟩
def zq50.C : Cfg D0 := ⟨Tryz.prog, T0, 32783, 0, 23, 0, [(12, [1, 15], [1])], 0, false, []⟩
def zq50.E (N : Nat) : List (Ent Tryz.prog T0) := [zq82.ent N, zq79.ent N]
def zq50.O (N : Nat) : Orc D0 zq50.R := orcOf (zq50.E N)
def zq50.K0 : Ex → St D0 → Option zq50.R := exitK zq50.C Tryz.f10.results.toList [(false, [.any]), (false, [.any])] (decOut zq50.sig)
def zq50.c1 : Code := codeAt (Tryz.f10.body.getD .skip) []
def zq50.c2 : Code := codeAt (Tryz.f10.body.getD .skip) [false]
def zq50.c7 : Code := codeAt (Tryz.f10.body.getD .skip) [true, true]
def zq50.c12 : Code := codeAt (Tryz.f10.body.getD .skip) [true, false, false]
def zq50.c13 : Code := codeAt (Tryz.f10.body.getD .skip) [true, false, true]
def zq50.K13 (N : Nat) : Ex → St D0 → Option zq50.R := (onN (fun s => zq50.C.tidy 6 s (fun s' => runC zq50.C (zq50.O N) N zq50.c7 7 s' zq50.K0)) zq50.K0)
def zq50.o1 (N : Nat) (v0 : Bool) (v1 : Int) (v2 : List S41) : Option zq50.R :=
 bif v0 then
  some (0, false)
 else
 (zq79.g N v1 v2).bind fun r1 =>
 bif (decide (0 < (r1.length : Int))) then
  (r1[(0 : Int).toNat]?).bind fun x2 =>
  some (x2, true)
 else
 none
theorem zq50.o1.run (N : Nat) (v0 : Bool) (v1 : Int) (v2 : List S41) : runC zq50.C (zq50.O N) N zq50.c13 13 (mkSt [(1, .one (.ptr 1 0)), (15, .one (.bool v0))] [(1, some (24, [.int .i64 v1, .sl false 41 v2]))] : St D0) (onN (fun s => zq50.C.tidy 6 s (fun s' => runC zq50.C (zq50.O N) N zq50.c7 7 s' zq50.K0)) zq50.K0) = zq50.o1 N v0 v1 v2 := by kernel_rfl
def zq50.d1 (N : Nat) (v0 : Bool) (v1 : Int) (v2 : List S41) : Option zq50.R := zq50.o1 N v0 v1 v2
theorem zq50.d1.run (N : Nat) (v0 : Bool) (v1 : Int) (v2 : List S41) : runC zq50.C (zq50.O N) N zq50.c13 13 (mkSt [(1, .one (.ptr 1 0)), (15, .one (.bool v0))] [(1, some (24, [.int .i64 v1, .sl false 41 v2]))] : St D0) (zq50.K13 N) = zq50.d1 N v0 v1 v2 := by
  exact (zq50.o1.run N v0 v1 v2).trans rfl
def zq50.o0 (N : Nat) (a0_0 : Int) (a0_1 : List S41) (c1 : Bool → Int → (List S41) → Option zq50.R) : Option zq50.R :=
 (zq82.g N a0_0 a0_1).bind fun r1 =>
 bif (!r1) then
  c1 true a0_0 a0_1
 else
 (zq79.g N a0_0 a0_1).bind fun r2 =>
 c1 ((r2.length : Int) == 0) a0_0 a0_1
theorem zq50.o0.run (N : Nat) (H13 : Code) (a0_0 : Int) (a0_1 : List S41) : runC zq50.C (zq50.O N) N (.seq zq50.c2 (.seq (.seq zq50.c12 H13) zq50.c7)) 1 (st0 [.agg [.int .i64 a0_0, .sl false 41 a0_1]] [] : St D0) zq50.K0 = zq50.o0 N a0_0 a0_1 ((fun w0 w1 w2 => runC zq50.C (zq50.O N) N H13 13 (mkSt [(1, .one (.ptr 1 0)), (15, .one (.bool w0))] [(1, some (24, [.int .i64 w1, .sl false 41 w2]))] : St D0) (onN (fun s => zq50.C.tidy 6 s (fun s' => runC zq50.C (zq50.O N) N zq50.c7 7 s' zq50.K0)) zq50.K0))) := by kernel_rfl
def zq50.g (N : Nat) (a0_0 : Int) (a0_1 : List S41) : Option zq50.R := zq50.o0 N a0_0 a0_1 ((fun w0 w1 w2 => zq50.d1 N w0 w1 w2))
theorem zq50.c1_0 : zq50.c1 = (.seq zq50.c2 (.seq (.seq zq50.c12 zq50.c13) zq50.c7)) := by kernel_rfl
theorem zq50.g.run (N : Nat) (a0_0 : Int) (a0_1 : List S41) : runC zq50.C (zq50.O N) N zq50.c1 1 (st0 [.agg [.int .i64 a0_0, .sl false 41 a0_1]] [] : St D0) zq50.K0 = zq50.g N a0_0 a0_1 := by
  rw [zq50.c1_0]; unfold zq50.g; exact (zq50.o0.run N zq50.c13 a0_0 a0_1).trans (congr rfl (funext fun w0 => funext fun w1 => funext fun w2 => zq50.d1.run N w0 w1 w2))
theorem zq50.good (N : Nat) (a0_0 : Int) (a0_1 : List S41) (r : zq50.R) (h : zq50.g N a0_0 a0_1 = some r) : Go.PM.Good Tryz.prog T0 10 [.agg [.int .i64 a0_0, .sl false 41 a0_1]] [] (zq50.sig.ret r) (zq50.sig.bs r) :=
  good_fn tabOk0 mixed0 zq50.sig (zq50.E N) Tryz.func10 (by kernel_rfl) (by kernel_rfl) 32783 0 0 [(12, [1, 15], [1])] 0 false [] [(false, [.any]), (false, [.any])] (by kernel_rfl) rfl rfl ((zq50.g.run N a0_0 a0_1).trans h)
def zq50.ent (N : Nat) : Ent Tryz.prog T0 := mkEnt 10 [(true, [.any, .ro 41])] zq50.sig (fun t => zq50.g N t.1 t.2) (fun t r h => zq50.good N t.1 t.2 r h)
/-! ### zq19 -/
abbrev zq19.R : Type := Int × Int
abbrev zq19.sig : Sig := ⟨[(false, 1), (false, 1)], [], [.int .i64, .int .i64], [(false, 1), (false, 1)], [], [.int .i64, .int .i64]⟩
def zq19.C : Cfg D0 := ⟨Tryz.prog, T0, 33011, 0, 23, 0, [(14, [6, 7], [])], 875264, false, []⟩
def zq19.E (N : Nat) : List (Ent Tryz.prog T0) := []
def zq19.O (N : Nat) : Orc D0 zq19.R := orcOf (zq19.E N)
def zq19.K0 : Ex → St D0 → Option zq19.R := exitK zq19.C Tryz.f70.results.toList [(false, [.any]), (false, [.any])] (decOut zq19.sig)
def zq19.c1 : Code := codeAt (Tryz.f70.body.getD .skip) []
def zq19.c2 : Code := codeAt (Tryz.f70.body.getD .skip) [false]
def zq19.c6 : Code := codeAt (Tryz.f70.body.getD .skip) [true, false]
def zq19.c14 : Code := codeAt (Tryz.f70.body.getD .skip) [true, true, false]
def zq19.c15 : Code := codeAt (Tryz.f70.body.getD .skip) [true, true, true]
def zq19.K15 (N : Nat) : Ex → St D0 → Option zq19.R := zq19.K0
def zq19.o1 (N : Nat) (v0 : Int) (v1 : Int) : Option zq19.R :=
 some (v0, v1)
theorem zq19.o1.run (N : Nat) (v0 : Int) (v1 : Int) : runC zq19.C (zq19.O N) N zq19.c15 15 (mkSt [(6, .one (.int .i64 v0)), (7, .one (.int .i64 v1))] [] : St D0) zq19.K0 = zq19.o1 N v0 v1 := by kernel_rfl
def zq19.d1 (N : Nat) (v0 : Int) (v1 : Int) : Option zq19.R := zq19.o1 N v0 v1
theorem zq19.d1.run (N : Nat) (v0 : Int) (v1 : Int) : runC zq19.C (zq19.O N) N zq19.c15 15 (mkSt [(6, .one (.int .i64 v0)), (7, .one (.int .i64 v1))] [] : St D0) (zq19.K15 N) = zq19.d1 N v0 v1 := by
  exact (zq19.o1.run N v0 v1).trans rfl
def zq19.o0 (N : Nat) (a0 : Int) (a1 : Int) (c1 : Int → Int → Option zq19.R) : Option zq19.R :=
 bif (a1 == 0) then
  none
 else
 bif (a1 == 0) then
  none
 else
 bif (decide ((Int.tmod a0 a1) < 0)) then
  c1 (w64 ((w64 (Int.tdiv a0 a1)) - 1)) (w64 ((Int.tmod a0 a1) + a1))
 else
 c1 (w64 (Int.tdiv a0 a1)) (Int.tmod a0 a1)
theorem zq19.o0.run (N : Nat) (H15 : Code) (a0 : Int) (a1 : Int) : runC zq19.C (zq19.O N) N (.seq zq19.c2 (.seq zq19.c6 (.seq zq19.c14 H15))) 1 (st0 [.one (.int .i64 a0), .one (.int .i64 a1)] [] : St D0) zq19.K0 = zq19.o0 N a0 a1 ((fun w0 w1 => runC zq19.C (zq19.O N) N H15 15 (mkSt [(6, .one (.int .i64 w0)), (7, .one (.int .i64 w1))] [] : St D0) zq19.K0)) := by kernel_rfl
def zq19.B7 (N : Nat) : St D0 → Option zq19.R := fun s' => runC zq19.C (zq19.O N) N zq19.c15 15 s' (zq19.K15 N)
def zq19.g (N : Nat) (a0 : Int) (a1 : Int) : Option zq19.R := zq19.o0 N a0 a1 ((fun w0 w1 => zq19.d1 N w0 w1))
theorem zq19.c1_0 : zq19.c1 = (.seq zq19.c2 (.seq zq19.c6 (.seq zq19.c14 zq19.c15))) := by kernel_rfl
theorem zq19.g.run (N : Nat) (a0 : Int) (a1 : Int) : runC zq19.C (zq19.O N) N zq19.c1 1 (st0 [.one (.int .i64 a0), .one (.int .i64 a1)] [] : St D0) zq19.K0 = zq19.g N a0 a1 := by
  rw [zq19.c1_0]; unfold zq19.g; exact (zq19.o0.run N zq19.c15 a0 a1).trans (congr rfl (funext fun w0 => funext fun w1 => zq19.d1.run N w0 w1))
theorem zq19.good (N : Nat) (a0 : Int) (a1 : Int) (r : zq19.R) (h : zq19.g N a0 a1 = some r) : Go.PM.Good Tryz.prog T0 70 [.one (.int .i64 a0), .one (.int .i64 a1)] [] (zq19.sig.ret r) (zq19.sig.bs r) :=
  good_fn tabOk0 mixed0 zq19.sig (zq19.E N) Tryz.func70 (by kernel_rfl) (by kernel_rfl) 33011 0 0 [(14, [6, 7], [])] 875264 false [] [(false, [.any]), (false, [.any])] (by kernel_rfl) rfl rfl ((zq19.g.run N a0 a1).trans h)
def zq19.ent (N : Nat) : Ent Tryz.prog T0 := mkEnt 70 [(false, [.any]), (false, [.any])] zq19.sig (fun t => zq19.g N t.1 t.2) (fun t r h => zq19.good N t.1 t.2 r h)
/-! ### zq20 -/
abbrev zq20.R : Type := Int
abbrev zq20.sig : Sig := ⟨[(false, 1), (false, 1)], [], [.int .i64, .int .i64], [(false, 1)], [], [.int .i64]⟩
def zq20.C : Cfg D0 := ⟨Tryz.prog, T0, 83, 0, 15, 0, [(12, [0, 1], [])], 6944, false, []⟩
def zq20.E (N : Nat) : List (Ent Tryz.prog T0) := []
def zq20.O (N : Nat) : Orc D0 zq20.R := orcOf (zq20.E N)
def zq20.K0 : Ex → St D0 → Option zq20.R := exitK zq20.C Tryz.f71.results.toList [(false, [.any])] (decOut zq20.sig)
def zq20.c1 : Code := codeAt (Tryz.f71.body.getD .skip) []
def zq20.c2 : Code := codeAt (Tryz.f71.body.getD .skip) [false]
def zq20.c7 : Code := codeAt (Tryz.f71.body.getD .skip) [true, true]
def zq20.c24 : Code := codeAt (Tryz.f71.body.getD .skip) [true, false, false, false]
def zq20.K24 (N : Nat) (Kn12 : St D0 → Option zq20.R) : Ex → St D0 → Option zq20.R := ((fun up => (onN (fun s => zq20.C.tidy 12 s ((onN Kn12 up) .normal)) (onN Kn12 up))) (blockK 0 (onN (fun s => zq20.C.tidy 6 s (fun s' => runC zq20.C (zq20.O N) N zq20.c7 7 s' zq20.K0)) zq20.K0)))
def zq20.o1 (N : Nat) (v0 : Int) (v1 : Int) (c1 : Int → Int → Option zq20.R) : Option zq20.R :=
 bif (v1 != 0) then
  bif (v1 == 0) then
   none
  else
  c1 v1 (Int.tmod v0 v1)
 else
 some ((if (w64 (0 - v0)) > v0 then (w64 (0 - v0)) else v0))
theorem zq20.o1.run (N : Nat) (Kn12 : St D0 → Option zq20.R) (v0 : Int) (v1 : Int) : runC zq20.C (zq20.O N) N zq20.c24 24 (mkSt [(0, .one (.int .i64 v0)), (1, .one (.int .i64 v1))] [] : St D0) ((fun up => (onN (fun s => zq20.C.tidy 12 s ((onN Kn12 up) .normal)) (onN Kn12 up))) (blockK 0 (onN (fun s => zq20.C.tidy 6 s (fun s' => runC zq20.C (zq20.O N) N zq20.c7 7 s' zq20.K0)) zq20.K0))) = zq20.o1 N v0 v1 ((fun w0 w1 => Kn12 (mkSt [(0, .one (.int .i64 w0)), (1, .one (.int .i64 w1))] [] : St D0))) := by kernel_rfl
def zq20.d1 (N : Nat) (v0 : Int) (v1 : Int) (c1 : Int → Int → Option zq20.R) : Option zq20.R := zq20.o1 N v0 v1 c1
theorem zq20.d1.run (N : Nat) (Kn12 : St D0 → Option zq20.R) (v0 : Int) (v1 : Int) : runC zq20.C (zq20.O N) N zq20.c24 24 (mkSt [(0, .one (.int .i64 v0)), (1, .one (.int .i64 v1))] [] : St D0) (zq20.K24 N Kn12) = zq20.d1 N v0 v1 ((fun w0 w1 => Kn12 (mkSt [(0, .one (.int .i64 w0)), (1, .one (.int .i64 w1))] [] : St D0))) := by
  exact (zq20.o1.run N Kn12 v0 v1).trans rfl
def zq20.K12 (N : Nat) : Ex → St D0 → Option zq20.R := (blockK 0 (onN (fun s => zq20.C.tidy 6 s (fun s' => runC zq20.C (zq20.O N) N zq20.c7 7 s' zq20.K0)) zq20.K0))
def zq20.l1 (N : Nat) : Nat → Int → Int → Option zq20.R
  | 0, _, _ => none
  | n + 1, v0, v1 => zq20.d1 N v0 v1 ((fun w0 w1 => zq20.l1 N n w0 w1))
theorem zq20.loop12 (N : Nat) : ∀ n, (∀ (v0 : Int) (v1 : Int), iter (loopF zq20.C (zq20.O N) N zq20.c24 12) n (mkSt [(0, .one (.int .i64 v0)), (1, .one (.int .i64 v1))] [] : St D0) (zq20.K12 N) = zq20.l1 N n v0 v1)
  | 0 => (fun v0 v1 => rfl)
  | n + 1 => (fun v0 v1 => (zq20.d1.run N (fun s => iter (loopF zq20.C (zq20.O N) N zq20.c24 12) n s (zq20.K12 N)) v0 v1).trans (show _ = zq20.d1 N v0 v1 ((fun w0 w1 => zq20.l1 N n w0 w1)) from (congr rfl (funext fun w0 => funext fun w1 => (zq20.loop12 N n) w0 w1))))
def zq20.o0 (N : Nat) (a0 : Int) (a1 : Int) (c1 : Int → Int → Option zq20.R) : Option zq20.R :=
 c1 a0 a1
theorem zq20.o0.run (N : Nat) (H24 : Code) (a0 : Int) (a1 : Int) : runC zq20.C (zq20.O N) N (.seq zq20.c2 (.seq (.block 0 (.loop H24)) zq20.c7)) 1 (st0 [.one (.int .i64 a0), .one (.int .i64 a1)] [] : St D0) zq20.K0 = zq20.o0 N a0 a1 ((fun w0 w1 => iter (loopF zq20.C (zq20.O N) N H24 12) N (mkSt [(0, .one (.int .i64 w0)), (1, .one (.int .i64 w1))] [] : St D0) (blockK 0 (onN (fun s => zq20.C.tidy 6 s (fun s' => runC zq20.C (zq20.O N) N zq20.c7 7 s' zq20.K0)) zq20.K0)))) := by kernel_rfl
def zq20.g (N : Nat) (a0 : Int) (a1 : Int) : Option zq20.R := zq20.o0 N a0 a1 ((fun w0 w1 => zq20.l1 N N w0 w1))
theorem zq20.c1_0 : zq20.c1 = (.seq zq20.c2 (.seq (.block 0 (.loop zq20.c24)) zq20.c7)) := by kernel_rfl
theorem zq20.g.run (N : Nat) (a0 : Int) (a1 : Int) : runC zq20.C (zq20.O N) N zq20.c1 1 (st0 [.one (.int .i64 a0), .one (.int .i64 a1)] [] : St D0) zq20.K0 = zq20.g N a0 a1 := by
  rw [zq20.c1_0]; unfold zq20.g; exact (zq20.o0.run N zq20.c24 a0 a1).trans (congr rfl (funext fun w0 => funext fun w1 => (zq20.loop12 N N) w0 w1))
theorem zq20.good (N : Nat) (a0 : Int) (a1 : Int) (r : zq20.R) (h : zq20.g N a0 a1 = some r) : Go.PM.Good Tryz.prog T0 71 [.one (.int .i64 a0), .one (.int .i64 a1)] [] (zq20.sig.ret r) (zq20.sig.bs r) :=
  good_fn tabOk0 mixed0 zq20.sig (zq20.E N) Tryz.func71 (by kernel_rfl) (by kernel_rfl) 83 0 0 [(12, [0, 1], [])] 6944 false [] [(false, [.any])] (by kernel_rfl) rfl rfl ((zq20.g.run N a0 a1).trans h)
def zq20.ent (N : Nat) : Ent Tryz.prog T0 := mkEnt 71 [(false, [.any]), (false, [.any])] zq20.sig (fun t => zq20.g N t.1 t.2) (fun t r h => zq20.good N t.1 t.2 r h)
/-! ### zq24 -/
abbrev zq24.R : Type := Int × Int
abbrev zq24.sig : Sig := ⟨[(false, 1), (false, 1)], [], [.int .i64, .int .i64], [(true, 2)], [], [.int .i64, .int .i64]⟩
def zq24.C : Cfg D0 := ⟨Tryz.prog, T0, 211, 0, 24, 0, [], 3589632, false, []⟩
def zq24.E (N : Nat) : List (Ent Tryz.prog T0) := [zq19.ent N, zq20.ent N]
def zq24.O (N : Nat) : Orc D0 zq24.R := orcOf (zq24.E N)
def zq24.K0 : Ex → St D0 → Option zq24.R := exitK zq24.C Tryz.f41.results.toList [(true, [.any, .any])] (decOut zq24.sig)
def zq24.c1 : Code := codeAt (Tryz.f41.body.getD .skip) []
def zq24.o0 (N : Nat) (a0 : Int) (a1 : Int) : Option zq24.R :=
 (zq19.g N a0 a1).bind fun r1 =>
 (zq20.g N r1.2 a1).bind fun r2 =>
 bif (r2 == 0) then
  none
 else
 bif (r2 == 0) then
  none
 else
 some ((w64 (Int.tdiv r1.2 r2)), (w64 (Int.tdiv a1 r2)))
theorem zq24.o0.run (N : Nat) (a0 : Int) (a1 : Int) : runC zq24.C (zq24.O N) N zq24.c1 1 (st0 [.one (.int .i64 a0), .one (.int .i64 a1)] [] : St D0) zq24.K0 = zq24.o0 N a0 a1 := by kernel_rfl
def zq24.g (N : Nat) (a0 : Int) (a1 : Int) : Option zq24.R := zq24.o0 N a0 a1
theorem zq24.g.run (N : Nat) (a0 : Int) (a1 : Int) : runC zq24.C (zq24.O N) N zq24.c1 1 (st0 [.one (.int .i64 a0), .one (.int .i64 a1)] [] : St D0) zq24.K0 = zq24.g N a0 a1 := by
  exact (zq24.o0.run N a0 a1).trans rfl
theorem zq24.good (N : Nat) (a0 : Int) (a1 : Int) (r : zq24.R) (h : zq24.g N a0 a1 = some r) : Go.PM.Good Tryz.prog T0 41 [.one (.int .i64 a0), .one (.int .i64 a1)] [] (zq24.sig.ret r) (zq24.sig.bs r) :=
  good_fn tabOk0 mixed0 zq24.sig (zq24.E N) Tryz.func41 (by kernel_rfl) (by kernel_rfl) 211 0 0 [] 3589632 false [] [(true, [.any, .any])] (by kernel_rfl) rfl rfl ((zq24.g.run N a0 a1).trans h)
def zq24.ent (N : Nat) : Ent Tryz.prog T0 := mkEnt 41 [(false, [.any]), (false, [.any])] zq24.sig (fun t => zq24.g N t.1 t.2) (fun t r h => zq24.good N t.1 t.2 r h)
/-! ### zq16 -/
abbrev zq16.R : Type := List S46 × Bool
abbrev zq16.sig : Sig := ⟨[(true, 2)], [], [.int .i64, .sl false 41], [(false, 1), (false, 1)], [], [.sl true 46, .bool]⟩
def zq16.C : Cfg D0 := ⟨Tryz.prog, T0, 1999231, 0, 33, 0, [(250, [1, 6, 17, 18, 19], [1])], 16793600, false, []⟩
def zq16.E (N : Nat) : List (Ent Tryz.prog T0) := [zq17.ent N, zq24.ent N]
def zq16.O (N : Nat) : Orc D0 zq16.R := orcOf (zq16.E N)
def zq16.K0 : Ex → St D0 → Option zq16.R := exitK zq16.C Tryz.f11.results.toList [(false, [.own 46]), (false, [.any])] (decOut zq16.sig)
def zq16.c1 : Code := codeAt (Tryz.f11.body.getD .skip) []
def zq16.c2 : Code := codeAt (Tryz.f11.body.getD .skip) [false]
def zq16.c6 : Code := codeAt (Tryz.f11.body.getD .skip) [true, false]
def zq16.c14 : Code := codeAt (Tryz.f11.body.getD .skip) [true, true, false]
def zq16.c30 : Code := codeAt (Tryz.f11.body.getD .skip) [true, true, true, false]
def zq16.c63 : Code := codeAt (Tryz.f11.body.getD .skip) [true, true, true, true, true]
def zq16.c124 : Code := codeAt (Tryz.f11.body.getD .skip) [true, true, true, true, false, false]
def zq16.c500 : Code := codeAt (Tryz.f11.body.getD .skip) [true, true, true, true, false, true, false, false]
def zq16.K500 (N : Nat) (Kn250 : St D0 → Option zq16.R) : Ex → St D0 → Option zq16.R := ((fun up => (onN (fun s => zq16.C.tidy 250 s ((onN Kn250 up) .normal)) (onN Kn250 up))) (blockK 0 (onN (fun s => zq16.C.tidy 62 s (fun s' => runC zq16.C (zq16.O N) N zq16.c63 63 s' zq16.K0)) zq16.K0)))
def zq16.o1 (N : Nat) (v0 : List S46) (v1 : List Int) (v2 : Int) (v3 : Int) (v4 : Int) (v5 : List S41) (c1 : (List S46) → (List Int) → Int → Int → Int → (List S41) → Option zq16.R) : Option zq16.R :=
 bif (decide (v3 < v2)) then
  bif (decide (0 ≤ v3)) then
   bif (decide (v3 < (v1.length : Int))) then
    (v1[(v3 : Int).toNat]?).bind fun x1 =>
    (zq24.g N x1 (w64 (60 * v4))).bind fun r2 =>
    bif (Nat.blt (v0.length + ([(⟨r2.1, r2.2⟩ : S46)] : List S46).length) 8796093022208) then
     c1 (v0 ++ ([(⟨r2.1, r2.2⟩ : S46)] : List S46)) v1 v2 (w64 (v3 + 1)) v4 v5
    else
    none
   else
   none
  else
  none
 else
 some (v0, true)
theorem zq16.o1.run (N : Nat) (Kn250 : St D0 → Option zq16.R) (v0 : List S46) (v1 : List Int) (v2 : Int) (v3 : Int) (v4 : Int) (v5 : List S41) : runC zq16.C (zq16.O N) N zq16.c500 500 (mkSt [(1, .one (.ptr 1 0)), (6, .one (.sl true 46 v0)), (17, .one (.sl true 3 v1)), (18, .one (.int .i64 v2)), (19, .one (.int .i64 v3))] [(1, some (24, [.int .i64 v4, .sl false 41 v5]))] : St D0) ((fun up => (onN (fun s => zq16.C.tidy 250 s ((onN Kn250 up) .normal)) (onN Kn250 up))) (blockK 0 (onN (fun s => zq16.C.tidy 62 s (fun s' => runC zq16.C (zq16.O N) N zq16.c63 63 s' zq16.K0)) zq16.K0))) = zq16.o1 N v0 v1 v2 v3 v4 v5 ((fun w0 w1 w2 w3 w4 w5 => Kn250 (mkSt [(1, .one (.ptr 1 0)), (6, .one (.sl true 46 w0)), (17, .one (.sl true 3 w1)), (18, .one (.int .i64 w2)), (19, .one (.int .i64 w3))] [(1, some (24, [.int .i64 w4, .sl false 41 w5]))] : St D0))) := by kernel_rfl
def zq16.d1 (N : Nat) (v0 : List S46) (v1 : List Int) (v2 : Int) (v3 : Int) (v4 : Int) (v5 : List S41) (c1 : (List S46) → (List Int) → Int → Int → Int → (List S41) → Option zq16.R) : Option zq16.R := zq16.o1 N v0 v1 v2 v3 v4 v5 c1
theorem zq16.d1.run (N : Nat) (Kn250 : St D0 → Option zq16.R) (v0 : List S46) (v1 : List Int) (v2 : Int) (v3 : Int) (v4 : Int) (v5 : List S41) : runC zq16.C (zq16.O N) N zq16.c500 500 (mkSt [(1, .one (.ptr 1 0)), (6, .one (.sl true 46 v0)), (17, .one (.sl true 3 v1)), (18, .one (.int .i64 v2)), (19, .one (.int .i64 v3))] [(1, some (24, [.int .i64 v4, .sl false 41 v5]))] : St D0) (zq16.K500 N Kn250) = zq16.d1 N v0 v1 v2 v3 v4 v5 ((fun w0 w1 w2 w3 w4 w5 => Kn250 (mkSt [(1, .one (.ptr 1 0)), (6, .one (.sl true 46 w0)), (17, .one (.sl true 3 w1)), (18, .one (.int .i64 w2)), (19, .one (.int .i64 w3))] [(1, some (24, [.int .i64 w4, .sl false 41 w5]))] : St D0))) := by
  exact (zq16.o1.run N Kn250 v0 v1 v2 v3 v4 v5).trans rfl
def zq16.K250 (N : Nat) : Ex → St D0 → Option zq16.R := (blockK 0 (onN (fun s => zq16.C.tidy 62 s (fun s' => runC zq16.C (zq16.O N) N zq16.c63 63 s' zq16.K0)) zq16.K0))
def zq16.l1 (N : Nat) : Nat → (List S46) → (List Int) → Int → Int → Int → (List S41) → Option zq16.R
  | 0, _, _, _, _, _, _ => none
  | n + 1, v0, v1, v2, v3, v4, v5 => zq16.d1 N v0 v1 v2 v3 v4 v5 ((fun w0 w1 w2 w3 w4 w5 => zq16.l1 N n w0 w1 w2 w3 w4 w5))
theorem zq16.loop250 (N : Nat) : ∀ n, (∀ (v0 : List S46) (v1 : List Int) (v2 : Int) (v3 : Int) (v4 : Int) (v5 : List S41), iter (loopF zq16.C (zq16.O N) N zq16.c500 250) n (mkSt [(1, .one (.ptr 1 0)), (6, .one (.sl true 46 v0)), (17, .one (.sl true 3 v1)), (18, .one (.int .i64 v2)), (19, .one (.int .i64 v3))] [(1, some (24, [.int .i64 v4, .sl false 41 v5]))] : St D0) (zq16.K250 N) = zq16.l1 N n v0 v1 v2 v3 v4 v5)
  | 0 => (fun v0 v1 v2 v3 v4 v5 => rfl)
  | n + 1 => (fun v0 v1 v2 v3 v4 v5 => (zq16.d1.run N (fun s => iter (loopF zq16.C (zq16.O N) N zq16.c500 250) n s (zq16.K250 N)) v0 v1 v2 v3 v4 v5).trans (show _ = zq16.d1 N v0 v1 v2 v3 v4 v5 ((fun w0 w1 w2 w3 w4 w5 => zq16.l1 N n w0 w1 w2 w3 w4 w5)) from (congr rfl (funext fun w0 => funext fun w1 => funext fun w2 => funext fun w3 => funext fun w4 => funext fun w5 => (zq16.loop250 N n) w0 w1 w2 w3 w4 w5))))
def zq16.o0 (N : Nat) (a0_0 : Int) (a0_1 : List S41) (c1 : (List S46) → (List Int) → Int → Int → Int → (List S41) → Option zq16.R) : Option zq16.R :=
 (zq17.g N a0_0 a0_1).bind fun r1 =>
 bif (!r1.2) then
  some (([] : List S46), false)
 else
 c1 ([] : List S46) r1.1 (r1.1.length : Int) 0 a0_0 a0_1
theorem zq16.o0.run (N : Nat) (H500 : Code) (a0_0 : Int) (a0_1 : List S41) : runC zq16.C (zq16.O N) N (.seq zq16.c2 (.seq zq16.c6 (.seq zq16.c14 (.seq zq16.c30 (.seq (.seq zq16.c124 (.block 0 (.loop H500))) zq16.c63))))) 1 (st0 [.agg [.int .i64 a0_0, .sl false 41 a0_1]] [] : St D0) zq16.K0 = zq16.o0 N a0_0 a0_1 ((fun w0 w1 w2 w3 w4 w5 => iter (loopF zq16.C (zq16.O N) N H500 250) N (mkSt [(1, .one (.ptr 1 0)), (6, .one (.sl true 46 w0)), (17, .one (.sl true 3 w1)), (18, .one (.int .i64 w2)), (19, .one (.int .i64 w3))] [(1, some (24, [.int .i64 w4, .sl false 41 w5]))] : St D0) (blockK 0 (onN (fun s => zq16.C.tidy 62 s (fun s' => runC zq16.C (zq16.O N) N zq16.c63 63 s' zq16.K0)) zq16.K0)))) := by kernel_rfl
def zq16.g (N : Nat) (a0_0 : Int) (a0_1 : List S41) : Option zq16.R := zq16.o0 N a0_0 a0_1 ((fun w0 w1 w2 w3 w4 w5 => zq16.l1 N N w0 w1 w2 w3 w4 w5))
theorem zq16.c1_0 : zq16.c1 = (.seq zq16.c2 (.seq zq16.c6 (.seq zq16.c14 (.seq zq16.c30 (.seq (.seq zq16.c124 (.block 0 (.loop zq16.c500))) zq16.c63))))) := by kernel_rfl
theorem zq16.g.run (N : Nat) (a0_0 : Int) (a0_1 : List S41) : runC zq16.C (zq16.O N) N zq16.c1 1 (st0 [.agg [.int .i64 a0_0, .sl false 41 a0_1]] [] : St D0) zq16.K0 = zq16.g N a0_0 a0_1 := by
  rw [zq16.c1_0]; unfold zq16.g; exact (zq16.o0.run N zq16.c500 a0_0 a0_1).trans (congr rfl (funext fun w0 => funext fun w1 => funext fun w2 => funext fun w3 => funext fun w4 => funext fun w5 => (zq16.loop250 N N) w0 w1 w2 w3 w4 w5))
theorem zq16.good (N : Nat) (a0_0 : Int) (a0_1 : List S41) (r : zq16.R) (h : zq16.g N a0_0 a0_1 = some r) : Go.PM.Good Tryz.prog T0 11 [.agg [.int .i64 a0_0, .sl false 41 a0_1]] [] (zq16.sig.ret r) (zq16.sig.bs r) :=
  good_fn tabOk0 mixed0 zq16.sig (zq16.E N) Tryz.func11 (by kernel_rfl) (by kernel_rfl) 1999231 0 0 [(250, [1, 6, 17, 18, 19], [1])] 16793600 false [] [(false, [.own 46]), (false, [.any])] (by kernel_rfl) rfl rfl ((zq16.g.run N a0_0 a0_1).trans h)
def zq16.ent (N : Nat) : Ent Tryz.prog T0 := mkEnt 11 [(true, [.any, .ro 41])] zq16.sig (fun t => zq16.g N t.1 t.2) (fun t r h => zq16.good N t.1 t.2 r h)
/-! ### zq59 -/
abbrev zq59.R : Type := Int
abbrev zq59.sig : Sig := ⟨[(false, 1), (false, 1)], [], [.int .i64, .int .i64], [(false, 1)], [], [.int .i64]⟩
def zq59.C : Cfg D0 := ⟨Tryz.prog, T0, 83, 0, 12, 0, [(12, [0, 1], [])], 800, false, []⟩
def zq59.E (N : Nat) : List (Ent Tryz.prog T0) := []
def zq59.O (N : Nat) : Orc D0 zq59.R := orcOf (zq59.E N)
def zq59.K0 : Ex → St D0 → Option zq59.R := exitK zq59.C Tryz.f93.results.toList [(false, [.any])] (decOut zq59.sig)
def zq59.c1 : Code := codeAt (Tryz.f93.body.getD .skip) []
def zq59.c2 : Code := codeAt (Tryz.f93.body.getD .skip) [false]
def zq59.c7 : Code := codeAt (Tryz.f93.body.getD .skip) [true, true]
def zq59.c24 : Code := codeAt (Tryz.f93.body.getD .skip) [true, false, false, false]
def zq59.K24 (N : Nat) (Kn12 : St D0 → Option zq59.R) : Ex → St D0 → Option zq59.R := ((fun up => (onN (fun s => zq59.C.tidy 12 s ((onN Kn12 up) .normal)) (onN Kn12 up))) (blockK 0 (onN (fun s => zq59.C.tidy 6 s (fun s' => runC zq59.C (zq59.O N) N zq59.c7 7 s' zq59.K0)) zq59.K0)))
def zq59.o1 (N : Nat) (v0 : Int) (v1 : Int) (c1 : Int → Int → Option zq59.R) : Option zq59.R :=
 bif (decide (v1 > 0)) then
  bif (v1 == 0) then
   none
  else
  c1 v1 (Int.tmod v0 v1)
 else
 some (v0)
theorem zq59.o1.run (N : Nat) (Kn12 : St D0 → Option zq59.R) (v0 : Int) (v1 : Int) : runC zq59.C (zq59.O N) N zq59.c24 24 (mkSt [(0, .one (.int .i64 v0)), (1, .one (.int .i64 v1))] [] : St D0) ((fun up => (onN (fun s => zq59.C.tidy 12 s ((onN Kn12 up) .normal)) (onN Kn12 up))) (blockK 0 (onN (fun s => zq59.C.tidy 6 s (fun s' => runC zq59.C (zq59.O N) N zq59.c7 7 s' zq59.K0)) zq59.K0))) = zq59.o1 N v0 v1 ((fun w0 w1 => Kn12 (mkSt [(0, .one (.int .i64 w0)), (1, .one (.int .i64 w1))] [] : St D0))) := by kernel_rfl
def zq59.d1 (N : Nat) (v0 : Int) (v1 : Int) (c1 : Int → Int → Option zq59.R) : Option zq59.R := zq59.o1 N v0 v1 c1
theorem zq59.d1.run (N : Nat) (Kn12 : St D0 → Option zq59.R) (v0 : Int) (v1 : Int) : runC zq59.C (zq59.O N) N zq59.c24 24 (mkSt [(0, .one (.int .i64 v0)), (1, .one (.int .i64 v1))] [] : St D0) (zq59.K24 N Kn12) = zq59.d1 N v0 v1 ((fun w0 w1 => Kn12 (mkSt [(0, .one (.int .i64 w0)), (1, .one (.int .i64 w1))] [] : St D0))) := by
  exact (zq59.o1.run N Kn12 v0 v1).trans rfl
def zq59.K12 (N : Nat) : Ex → St D0 → Option zq59.R := (blockK 0 (onN (fun s => zq59.C.tidy 6 s (fun s' => runC zq59.C (zq59.O N) N zq59.c7 7 s' zq59.K0)) zq59.K0))
def zq59.l1 (N : Nat) : Nat → Int → Int → Option zq59.R
  | 0, _, _ => none
  | n + 1, v0, v1 => zq59.d1 N v0 v1 ((fun w0 w1 => zq59.l1 N n w0 w1))
theorem zq59.loop12 (N : Nat) : ∀ n, (∀ (v0 : Int) (v1 : Int), iter (loopF zq59.C (zq59.O N) N zq59.c24 12) n (mkSt [(0, .one (.int .i64 v0)), (1, .one (.int .i64 v1))] [] : St D0) (zq59.K12 N) = zq59.l1 N n v0 v1)
  | 0 => (fun v0 v1 => rfl)
  | n + 1 => (fun v0 v1 => (zq59.d1.run N (fun s => iter (loopF zq59.C (zq59.O N) N zq59.c24 12) n s (zq59.K12 N)) v0 v1).trans (show _ = zq59.d1 N v0 v1 ((fun w0 w1 => zq59.l1 N n w0 w1)) from (congr rfl (funext fun w0 => funext fun w1 => (zq59.loop12 N n) w0 w1))))
def zq59.o0 (N : Nat) (a0 : Int) (a1 : Int) (c1 : Int → Int → Option zq59.R) : Option zq59.R :=
 c1 a0 a1
theorem zq59.o0.run (N : Nat) (H24 : Code) (a0 : Int) (a1 : Int) : runC zq59.C (zq59.O N) N (.seq zq59.c2 (.seq (.block 0 (.loop H24)) zq59.c7)) 1 (st0 [.one (.int .i64 a0), .one (.int .i64 a1)] [] : St D0) zq59.K0 = zq59.o0 N a0 a1 ((fun w0 w1 => iter (loopF zq59.C (zq59.O N) N H24 12) N (mkSt [(0, .one (.int .i64 w0)), (1, .one (.int .i64 w1))] [] : St D0) (blockK 0 (onN (fun s => zq59.C.tidy 6 s (fun s' => runC zq59.C (zq59.O N) N zq59.c7 7 s' zq59.K0)) zq59.K0)))) := by kernel_rfl
def zq59.g (N : Nat) (a0 : Int) (a1 : Int) : Option zq59.R := zq59.o0 N a0 a1 ((fun w0 w1 => zq59.l1 N N w0 w1))
theorem zq59.c1_0 : zq59.c1 = (.seq zq59.c2 (.seq (.block 0 (.loop zq59.c24)) zq59.c7)) := by kernel_rfl
theorem zq59.g.run (N : Nat) (a0 : Int) (a1 : Int) : runC zq59.C (zq59.O N) N zq59.c1 1 (st0 [.one (.int .i64 a0), .one (.int .i64 a1)] [] : St D0) zq59.K0 = zq59.g N a0 a1 := by
  rw [zq59.c1_0]; unfold zq59.g; exact (zq59.o0.run N zq59.c24 a0 a1).trans (congr rfl (funext fun w0 => funext fun w1 => (zq59.loop12 N N) w0 w1))
theorem zq59.good (N : Nat) (a0 : Int) (a1 : Int) (r : zq59.R) (h : zq59.g N a0 a1 = some r) : Go.PM.Good Tryz.prog T0 93 [.one (.int .i64 a0), .one (.int .i64 a1)] [] (zq59.sig.ret r) (zq59.sig.bs r) :=
  good_fn tabOk0 mixed0 zq59.sig (zq59.E N) Tryz.func93 (by kernel_rfl) (by kernel_rfl) 83 0 0 [(12, [0, 1], [])] 800 false [] [(false, [.any])] (by kernel_rfl) rfl rfl ((zq59.g.run N a0 a1).trans h)
def zq59.ent (N : Nat) : Ent Tryz.prog T0 := mkEnt 93 [(false, [.any]), (false, [.any])] zq59.sig (fun t => zq59.g N t.1 t.2) (fun t r h => zq59.good N t.1 t.2 r h)
/-! ### zq61 -/
abbrev zq61.R : Type := Int × Int × Bool
abbrev zq61.sig : Sig := ⟨[(false, 1), (false, 1)], [], [.int .i64, .int .i64], [(true, 2), (false, 1)], [], [.int .i64, .int .i64, .bool]⟩
def zq61.C : Cfg D0 := ⟨Tryz.prog, T0, 134217971, 0, 30, 0, [], 7187200, false, []⟩
def zq61.E (N : Nat) : List (Ent Tryz.prog T0) := [zq59.ent N]
def zq61.O (N : Nat) : Orc D0 zq61.R := orcOf (zq61.E N)
def zq61.K0 : Ex → St D0 → Option zq61.R := exitK zq61.C Tryz.f72.results.toList [(true, [.any, .any]), (false, [.any])] (decOut zq61.sig)
def zq61.c1 : Code := codeAt (Tryz.f72.body.getD .skip) []
def zq61.o0 (N : Nat) (a0 : Int) (a1 : Int) : Option zq61.R :=
 bif (a1 == 0) then
  none
 else
 bif (a1 == 0) then
  none
 else
 (zq59.g N (Int.tmod (w64 ((Int.tmod a0 a1) + a1)) a1) a1).bind fun r1 =>
 bif (r1 == 0) then
  none
 else
 bif (r1 == 0) then
  none
 else
 bif (decide ((w64 (Int.tdiv a1 r1)) > 1000000)) then
  some (0, 0, false)
 else
 some ((w64 (Int.tdiv (Int.tmod (w64 ((Int.tmod a0 a1) + a1)) a1) r1)), (w64 (Int.tdiv a1 r1)), true)
theorem zq61.o0.run (N : Nat) (a0 : Int) (a1 : Int) : runC zq61.C (zq61.O N) N zq61.c1 1 (st0 [.one (.int .i64 a0), .one (.int .i64 a1)] [] : St D0) zq61.K0 = zq61.o0 N a0 a1 := by kernel_rfl
def zq61.g (N : Nat) (a0 : Int) (a1 : Int) : Option zq61.R := zq61.o0 N a0 a1
theorem zq61.g.run (N : Nat) (a0 : Int) (a1 : Int) : runC zq61.C (zq61.O N) N zq61.c1 1 (st0 [.one (.int .i64 a0), .one (.int .i64 a1)] [] : St D0) zq61.K0 = zq61.g N a0 a1 := by
  exact (zq61.o0.run N a0 a1).trans rfl
theorem zq61.good (N : Nat) (a0 : Int) (a1 : Int) (r : zq61.R) (h : zq61.g N a0 a1 = some r) : Go.PM.Good Tryz.prog T0 72 [.one (.int .i64 a0), .one (.int .i64 a1)] [] (zq61.sig.ret r) (zq61.sig.bs r) :=
  good_fn tabOk0 mixed0 zq61.sig (zq61.E N) Tryz.func72 (by kernel_rfl) (by kernel_rfl) 134217971 0 0 [] 7187200 false [] [(true, [.any, .any]), (false, [.any])] (by kernel_rfl) rfl rfl ((zq61.g.run N a0 a1).trans h)
def zq61.ent (N : Nat) : Ent Tryz.prog T0 := mkEnt 72 [(false, [.any]), (false, [.any])] zq61.sig (fun t => zq61.g N t.1 t.2) (fun t r h => zq61.good N t.1 t.2 r h)
/-! ### zq62 -/
abbrev zq62.R : Type := Int × Int
abbrev zq62.sig : Sig := ⟨[(false, 1), (false, 1), (false, 1), (false, 1)], [], [.int .i64, .int .i64, .int .i64, .int .i64], [(true, 2)], [], [.int .i64, .int .i64]⟩
def zq62.C : Cfg D0 := ⟨Tryz.prog, T0, 783, 0, 25, 0, [], 675840, false, []⟩
def zq62.E (N : Nat) : List (Ent Tryz.prog T0) := [zq61.ent N]
def zq62.O (N : Nat) : Orc D0 zq62.R := orcOf (zq62.E N)
def zq62.K0 : Ex → St D0 → Option zq62.R := exitK zq62.C Tryz.f42.results.toList [(true, [.any, .any])] (decOut zq62.sig)
def zq62.c1 : Code := codeAt (Tryz.f42.body.getD .skip) []
def zq62.o0 (N : Nat) (a0 : Int) (a1 : Int) (a2 : Int) (a3 : Int) : Option zq62.R :=
 (zq61.g N (w64 ((w64 ((w64 ((w64 (a1 * 60)) + a2)) * 60)) + a3)) (w64 (a0 * 3600))).bind fun r1 =>
 some (r1.1, r1.2.1)
theorem zq62.o0.run (N : Nat) (a0 : Int) (a1 : Int) (a2 : Int) (a3 : Int) : runC zq62.C (zq62.O N) N zq62.c1 1 (st0 [.one (.int .i64 a0), .one (.int .i64 a1), .one (.int .i64 a2), .one (.int .i64 a3)] [] : St D0) zq62.K0 = zq62.o0 N a0 a1 a2 a3 := by kernel_rfl
def zq62.g (N : Nat) (a0 : Int) (a1 : Int) (a2 : Int) (a3 : Int) : Option zq62.R := zq62.o0 N a0 a1 a2 a3
theorem zq62.g.run (N : Nat) (a0 : Int) (a1 : Int) (a2 : Int) (a3 : Int) : runC zq62.C (zq62.O N) N zq62.c1 1 (st0 [.one (.int .i64 a0), .one (.int .i64 a1), .one (.int .i64 a2), .one (.int .i64 a3)] [] : St D0) zq62.K0 = zq62.g N a0 a1 a2 a3 := by
  exact (zq62.o0.run N a0 a1 a2 a3).trans rfl
theorem zq62.good (N : Nat) (a0 : Int) (a1 : Int) (a2 : Int) (a3 : Int) (r : zq62.R) (h : zq62.g N a0 a1 a2 a3 = some r) : Go.PM.Good Tryz.prog T0 42 [.one (.int .i64 a0), .one (.int .i64 a1), .one (.int .i64 a2), .one (.int .i64 a3)] [] (zq62.sig.ret r) (zq62.sig.bs r) :=
  good_fn tabOk0 mixed0 zq62.sig (zq62.E N) Tryz.func42 (by kernel_rfl) (by kernel_rfl) 783 0 0 [] 675840 false [] [(true, [.any, .any])] (by kernel_rfl) rfl rfl ((zq62.g.run N a0 a1 a2 a3).trans h)
def zq62.ent (N : Nat) : Ent Tryz.prog T0 := mkEnt 42 [(false, [.any]), (false, [.any]), (false, [.any]), (false, [.any])] zq62.sig (fun t => zq62.g N t.1 t.2.1 t.2.2.1 t.2.2.2) (fun t r h => zq62.good N t.1 t.2.1 t.2.2.1 t.2.2.2 r h)
/-! ### zq57 -/
abbrev zq57.R : Type := List S46 × Bool
abbrev zq57.sig : Sig := ⟨[(true, 2)], [], [.int .i64, .sl false 41], [(false, 1), (false, 1)], [], [.sl true 46, .bool]⟩
def zq57.C : Cfg D0 := ⟨Tryz.prog, T0, 246367, 0, 32, 0, [(122, [1, 4, 14, 15, 16], [1])], 41943040, false, []⟩
def zq57.E (N : Nat) : List (Ent Tryz.prog T0) := [zq82.ent N, zq79.ent N, zq62.ent N]
def zq57.O (N : Nat) : Orc D0 zq57.R := orcOf (zq57.E N)
def zq57.K0 : Ex → St D0 → Option zq57.R := exitK zq57.C Tryz.f12.results.toList [(false, [.own 46]), (false, [.any])] (decOut zq57.sig)
def zq57.c1 : Code := codeAt (Tryz.f12.body.getD .skip) []
def zq57.c2 : Code := codeAt (Tryz.f12.body.getD .skip) [false]
def zq57.c6 : Code := codeAt (Tryz.f12.body.getD .skip) [true, false]
def zq57.c14 : Code := codeAt (Tryz.f12.body.getD .skip) [true, true, false]
def zq57.c31 : Code := codeAt (Tryz.f12.body.getD .skip) [true, true, true, true]
def zq57.c60 : Code := codeAt (Tryz.f12.body.getD .skip) [true, true, true, false, false]
def zq57.c244 : Code := codeAt (Tryz.f12.body.getD .skip) [true, true, true, false, true, false, false]
def zq57.K244 (N : Nat) (Kn122 : St D0 → Option zq57.R) : Ex → St D0 → Option zq57.R := ((fun up => (onN (fun s => zq57.C.tidy 122 s ((onN Kn122 up) .normal)) (onN Kn122 up))) (blockK 0 (onN (fun s => zq57.C.tidy 30 s (fun s' => runC zq57.C (zq57.O N) N zq57.c31 31 s' zq57.K0)) zq57.K0)))
def zq57.o1 (N : Nat) (v0 : List Int) (v1 : Int) (v2 : Int) (v3 : Int) (v4 : List S41) (c2 : (List S46) → (List Int) → Int → Int → Int → (List S41) → Option zq57.R) : Option zq57.R :=
 bif (decide (v2 < v1)) then
  bif (decide (0 ≤ v2)) then
   bif (decide (v2 < (v0.length : Int))) then
    (v0[(v2 : Int).toNat]?).bind fun x1 =>
    (zq62.g N v3 (w64 (Int.tdiv x1 60)) (Int.tmod x1 60) 0).bind fun r2 =>
    bif (Nat.blt (([] : List S46).length + ([(⟨r2.1, r2.2⟩ : S46)] : List S46).length) 8796093022208) then
     c2 (([] : List S46) ++ ([(⟨r2.1, r2.2⟩ : S46)] : List S46)) v0 v1 (w64 (v2 + 1)) v3 v4
    else
    none
   else
   none
  else
  none
 else
 some (([] : List S46), true)
theorem zq57.o1.run (N : Nat) (Kn122 : St D0 → Option zq57.R) (v0 : List Int) (v1 : Int) (v2 : Int) (v3 : Int) (v4 : List S41) : runC zq57.C (zq57.O N) N zq57.c244 244 (mkSt [(1, .one (.ptr 1 0)), (4, .one (.nl)), (14, .one (.sl true 3 v0)), (15, .one (.int .i64 v1)), (16, .one (.int .i64 v2))] [(1, some (24, [.int .i64 v3, .sl false 41 v4]))] : St D0) ((fun up => (onN (fun s => zq57.C.tidy 122 s ((onN Kn122 up) .normal)) (onN Kn122 up))) (blockK 0 (onN (fun s => zq57.C.tidy 30 s (fun s' => runC zq57.C (zq57.O N) N zq57.c31 31 s' zq57.K0)) zq57.K0))) = zq57.o1 N v0 v1 v2 v3 v4 ((fun w0 w1 w2 w3 w4 w5 => Kn122 (mkSt [(1, .one (.ptr 1 0)), (4, .one (.sl true 46 w0)), (14, .one (.sl true 3 w1)), (15, .one (.int .i64 w2)), (16, .one (.int .i64 w3))] [(1, some (24, [.int .i64 w4, .sl false 41 w5]))] : St D0))) := by kernel_rfl
def zq57.d1 (N : Nat) (v0 : List Int) (v1 : Int) (v2 : Int) (v3 : Int) (v4 : List S41) (c2 : (List S46) → (List Int) → Int → Int → Int → (List S41) → Option zq57.R) : Option zq57.R := zq57.o1 N v0 v1 v2 v3 v4 c2
theorem zq57.d1.run (N : Nat) (Kn122 : St D0 → Option zq57.R) (v0 : List Int) (v1 : Int) (v2 : Int) (v3 : Int) (v4 : List S41) : runC zq57.C (zq57.O N) N zq57.c244 244 (mkSt [(1, .one (.ptr 1 0)), (4, .one (.nl)), (14, .one (.sl true 3 v0)), (15, .one (.int .i64 v1)), (16, .one (.int .i64 v2))] [(1, some (24, [.int .i64 v3, .sl false 41 v4]))] : St D0) (zq57.K244 N Kn122) = zq57.d1 N v0 v1 v2 v3 v4 ((fun w0 w1 w2 w3 w4 w5 => Kn122 (mkSt [(1, .one (.ptr 1 0)), (4, .one (.sl true 46 w0)), (14, .one (.sl true 3 w1)), (15, .one (.int .i64 w2)), (16, .one (.int .i64 w3))] [(1, some (24, [.int .i64 w4, .sl false 41 w5]))] : St D0))) := by
  exact (zq57.o1.run N Kn122 v0 v1 v2 v3 v4).trans rfl
def zq57.o2 (N : Nat) (v0 : List S46) (v1 : List Int) (v2 : Int) (v3 : Int) (v4 : Int) (v5 : List S41) (c2 : (List S46) → (List Int) → Int → Int → Int → (List S41) → Option zq57.R) : Option zq57.R :=
 bif (decide (v3 < v2)) then
  bif (decide (0 ≤ v3)) then
   bif (decide (v3 < (v1.length : Int))) then
    (v1[(v3 : Int).toNat]?).bind fun x1 =>
    (zq62.g N v4 (w64 (Int.tdiv x1 60)) (Int.tmod x1 60) 0).bind fun r2 =>
    bif (Nat.blt (v0.length + ([(⟨r2.1, r2.2⟩ : S46)] : List S46).length) 8796093022208) then
     c2 (v0 ++ ([(⟨r2.1, r2.2⟩ : S46)] : List S46)) v1 v2 (w64 (v3 + 1)) v4 v5
    else
    none
   else
   none
  else
  none
 else
 some (v0, true)
theorem zq57.o2.run (N : Nat) (Kn122 : St D0 → Option zq57.R) (v0 : List S46) (v1 : List Int) (v2 : Int) (v3 : Int) (v4 : Int) (v5 : List S41) : runC zq57.C (zq57.O N) N zq57.c244 244 (mkSt [(1, .one (.ptr 1 0)), (4, .one (.sl true 46 v0)), (14, .one (.sl true 3 v1)), (15, .one (.int .i64 v2)), (16, .one (.int .i64 v3))] [(1, some (24, [.int .i64 v4, .sl false 41 v5]))] : St D0) ((fun up => (onN (fun s => zq57.C.tidy 122 s ((onN Kn122 up) .normal)) (onN Kn122 up))) (blockK 0 (onN (fun s => zq57.C.tidy 30 s (fun s' => runC zq57.C (zq57.O N) N zq57.c31 31 s' zq57.K0)) zq57.K0))) = zq57.o2 N v0 v1 v2 v3 v4 v5 ((fun w0 w1 w2 w3 w4 w5 => Kn122 (mkSt [(1, .one (.ptr 1 0)), (4, .one (.sl true 46 w0)), (14, .one (.sl true 3 w1)), (15, .one (.int .i64 w2)), (16, .one (.int .i64 w3))] [(1, some (24, [.int .i64 w4, .sl false 41 w5]))] : St D0))) := by kernel_rfl
def zq57.d2 (N : Nat) (v0 : List S46) (v1 : List Int) (v2 : Int) (v3 : Int) (v4 : Int) (v5 : List S41) (c2 : (List S46) → (List Int) → Int → Int → Int → (List S41) → Option zq57.R) : Option zq57.R := zq57.o2 N v0 v1 v2 v3 v4 v5 c2
theorem zq57.d2.run (N : Nat) (Kn122 : St D0 → Option zq57.R) (v0 : List S46) (v1 : List Int) (v2 : Int) (v3 : Int) (v4 : Int) (v5 : List S41) : runC zq57.C (zq57.O N) N zq57.c244 244 (mkSt [(1, .one (.ptr 1 0)), (4, .one (.sl true 46 v0)), (14, .one (.sl true 3 v1)), (15, .one (.int .i64 v2)), (16, .one (.int .i64 v3))] [(1, some (24, [.int .i64 v4, .sl false 41 v5]))] : St D0) (zq57.K244 N Kn122) = zq57.d2 N v0 v1 v2 v3 v4 v5 ((fun w0 w1 w2 w3 w4 w5 => Kn122 (mkSt [(1, .one (.ptr 1 0)), (4, .one (.sl true 46 w0)), (14, .one (.sl true 3 w1)), (15, .one (.int .i64 w2)), (16, .one (.int .i64 w3))] [(1, some (24, [.int .i64 w4, .sl false 41 w5]))] : St D0))) := by
  exact (zq57.o2.run N Kn122 v0 v1 v2 v3 v4 v5).trans rfl
def zq57.K122 (N : Nat) : Ex → St D0 → Option zq57.R := (blockK 0 (onN (fun s => zq57.C.tidy 30 s (fun s' => runC zq57.C (zq57.O N) N zq57.c31 31 s' zq57.K0)) zq57.K0))
mutual
def zq57.l1 (N : Nat) : Nat → (List Int) → Int → Int → Int → (List S41) → Option zq57.R
  | 0, _, _, _, _, _ => none
  | n + 1, v0, v1, v2, v3, v4 => zq57.d1 N v0 v1 v2 v3 v4 ((fun w0 w1 w2 w3 w4 w5 => zq57.l2 N n w0 w1 w2 w3 w4 w5))
def zq57.l2 (N : Nat) : Nat → (List S46) → (List Int) → Int → Int → Int → (List S41) → Option zq57.R
  | 0, _, _, _, _, _, _ => none
  | n + 1, v0, v1, v2, v3, v4, v5 => zq57.d2 N v0 v1 v2 v3 v4 v5 ((fun w0 w1 w2 w3 w4 w5 => zq57.l2 N n w0 w1 w2 w3 w4 w5))
end
theorem zq57.loop122 (N : Nat) : ∀ n, (∀ (v0 : List Int) (v1 : Int) (v2 : Int) (v3 : Int) (v4 : List S41), iter (loopF zq57.C (zq57.O N) N zq57.c244 122) n (mkSt [(1, .one (.ptr 1 0)), (4, .one (.nl)), (14, .one (.sl true 3 v0)), (15, .one (.int .i64 v1)), (16, .one (.int .i64 v2))] [(1, some (24, [.int .i64 v3, .sl false 41 v4]))] : St D0) (zq57.K122 N) = zq57.l1 N n v0 v1 v2 v3 v4) ∧ (∀ (v0 : List S46) (v1 : List Int) (v2 : Int) (v3 : Int) (v4 : Int) (v5 : List S41), iter (loopF zq57.C (zq57.O N) N zq57.c244 122) n (mkSt [(1, .one (.ptr 1 0)), (4, .one (.sl true 46 v0)), (14, .one (.sl true 3 v1)), (15, .one (.int .i64 v2)), (16, .one (.int .i64 v3))] [(1, some (24, [.int .i64 v4, .sl false 41 v5]))] : St D0) (zq57.K122 N) = zq57.l2 N n v0 v1 v2 v3 v4 v5)
  | 0 => ⟨(fun v0 v1 v2 v3 v4 => rfl), (fun v0 v1 v2 v3 v4 v5 => rfl)⟩
  | n + 1 => ⟨(fun v0 v1 v2 v3 v4 => (zq57.d1.run N (fun s => iter (loopF zq57.C (zq57.O N) N zq57.c244 122) n s (zq57.K122 N)) v0 v1 v2 v3 v4).trans (show _ = zq57.d1 N v0 v1 v2 v3 v4 ((fun w0 w1 w2 w3 w4 w5 => zq57.l2 N n w0 w1 w2 w3 w4 w5)) from (congr rfl (funext fun w0 => funext fun w1 => funext fun w2 => funext fun w3 => funext fun w4 => funext fun w5 => (zq57.loop122 N n).2 w0 w1 w2 w3 w4 w5)))), (fun v0 v1 v2 v3 v4 v5 => (zq57.d2.run N (fun s => iter (loopF zq57.C (zq57.O N) N zq57.c244 122) n s (zq57.K122 N)) v0 v1 v2 v3 v4 v5).trans (show _ = zq57.d2 N v0 v1 v2 v3 v4 v5 ((fun w0 w1 w2 w3 w4 w5 => zq57.l2 N n w0 w1 w2 w3 w4 w5)) from (congr rfl (funext fun w0 => funext fun w1 => funext fun w2 => funext fun w3 => funext fun w4 => funext fun w5 => (zq57.loop122 N n).2 w0 w1 w2 w3 w4 w5))))⟩
def zq57.o0 (N : Nat) (a0_0 : Int) (a0_1 : List S41) (c1 : (List Int) → Int → Int → Int → (List S41) → Option zq57.R) : Option zq57.R :=
 (zq82.g N a0_0 a0_1).bind fun r1 =>
 bif (!r1) then
  some (([] : List S46), false)
 else
 (zq79.g N a0_0 a0_1).bind fun r2 =>
 c1 r2 (r2.length : Int) 0 a0_0 a0_1
theorem zq57.o0.run (N : Nat) (H244 : Code) (a0_0 : Int) (a0_1 : List S41) : runC zq57.C (zq57.O N) N (.seq zq57.c2 (.seq zq57.c6 (.seq zq57.c14 (.seq (.seq zq57.c60 (.block 0 (.loop H244))) zq57.c31)))) 1 (st0 [.agg [.int .i64 a0_0, .sl false 41 a0_1]] [] : St D0) zq57.K0 = zq57.o0 N a0_0 a0_1 ((fun w0 w1 w2 w3 w4 => iter (loopF zq57.C (zq57.O N) N H244 122) N (mkSt [(1, .one (.ptr 1 0)), (4, .one (.nl)), (14, .one (.sl true 3 w0)), (15, .one (.int .i64 w1)), (16, .one (.int .i64 w2))] [(1, some (24, [.int .i64 w3, .sl false 41 w4]))] : St D0) (blockK 0 (onN (fun s => zq57.C.tidy 30 s (fun s' => runC zq57.C (zq57.O N) N zq57.c31 31 s' zq57.K0)) zq57.K0)))) := by kernel_rfl
def zq57.g (N : Nat) (a0_0 : Int) (a0_1 : List S41) : Option zq57.R := zq57.o0 N a0_0 a0_1 ((fun w0 w1 w2 w3 w4 => zq57.l1 N N w0 w1 w2 w3 w4))
theorem zq57.c1_0 : zq57.c1 = (.seq zq57.c2 (.seq zq57.c6 (.seq zq57.c14 (.seq (.seq zq57.c60 (.block 0 (.loop zq57.c244))) zq57.c31)))) := by kernel_rfl
theorem zq57.g.run (N : Nat) (a0_0 : Int) (a0_1 : List S41) : runC zq57.C (zq57.O N) N zq57.c1 1 (st0 [.agg [.int .i64 a0_0, .sl false 41 a0_1]] [] : St D0) zq57.K0 = zq57.g N a0_0 a0_1 := by
  rw [zq57.c1_0]; unfold zq57.g; exact (zq57.o0.run N zq57.c244 a0_0 a0_1).trans (congr rfl (funext fun w0 => funext fun w1 => funext fun w2 => funext fun w3 => funext fun w4 => (zq57.loop122 N N).1 w0 w1 w2 w3 w4))
theorem zq57.good (N : Nat) (a0_0 : Int) (a0_1 : List S41) (r : zq57.R) (h : zq57.g N a0_0 a0_1 = some r) : Go.PM.Good Tryz.prog T0 12 [.agg [.int .i64 a0_0, .sl false 41 a0_1]] [] (zq57.sig.ret r) (zq57.sig.bs r) :=
  good_fn tabOk0 mixed0 zq57.sig (zq57.E N) Tryz.func12 (by kernel_rfl) (by kernel_rfl) 246367 0 0 [(122, [1, 4, 14, 15, 16], [1])] 41943040 false [] [(false, [.own 46]), (false, [.any])] (by kernel_rfl) rfl rfl ((zq57.g.run N a0_0 a0_1).trans h)
def zq57.ent (N : Nat) : Ent Tryz.prog T0 := mkEnt 12 [(true, [.any, .ro 41])] zq57.sig (fun t => zq57.g N t.1 t.2) (fun t r h => zq57.good N t.1 t.2 r h)
/-! ### zq52 -/
abbrev zq52.R : Type := Bool × Bool
abbrev zq52.sig : Sig := ⟨[(true, 2)], [], [.int .i64, .sl false 41], [(false, 1), (false, 1)], [], [.bool, .bool]⟩
def zq52.C : Cfg D0 := ⟨Tryz.prog, T0, 79, 0, 12, 0, [], 0, false, []⟩
def zq52.E (N : Nat) : List (Ent Tryz.prog T0) := [zq82.ent N, zq86.ent N]
def zq52.O (N : Nat) : Orc D0 zq52.R := orcOf (zq52.E N)
def zq52.K0 : Ex → St D0 → Option zq52.R := exitK zq52.C Tryz.f14.results.toList [(false, [.any]), (false, [.any])] (decOut zq52.sig)
def zq52.c1 : Code := codeAt (Tryz.f14.body.getD .skip) []
def zq52.o0 (N : Nat) (a0_0 : Int) (a0_1 : List S41) : Option zq52.R :=
 (zq82.g N a0_0 a0_1).bind fun r1 =>
 bif (!r1) then
  some (false, false)
 else
 (zq86.g N a0_0 a0_1).bind fun r2 =>
 some (r2, true)
theorem zq52.o0.run (N : Nat) (a0_0 : Int) (a0_1 : List S41) : runC zq52.C (zq52.O N) N zq52.c1 1 (st0 [.agg [.int .i64 a0_0, .sl false 41 a0_1]] [] : St D0) zq52.K0 = zq52.o0 N a0_0 a0_1 := by kernel_rfl
def zq52.g (N : Nat) (a0_0 : Int) (a0_1 : List S41) : Option zq52.R := zq52.o0 N a0_0 a0_1
theorem zq52.g.run (N : Nat) (a0_0 : Int) (a0_1 : List S41) : runC zq52.C (zq52.O N) N zq52.c1 1 (st0 [.agg [.int .i64 a0_0, .sl false 41 a0_1]] [] : St D0) zq52.K0 = zq52.g N a0_0 a0_1 := by
  exact (zq52.o0.run N a0_0 a0_1).trans rfl
theorem zq52.good (N : Nat) (a0_0 : Int) (a0_1 : List S41) (r : zq52.R) (h : zq52.g N a0_0 a0_1 = some r) : Go.PM.Good Tryz.prog T0 14 [.agg [.int .i64 a0_0, .sl false 41 a0_1]] [] (zq52.sig.ret r) (zq52.sig.bs r) :=
  good_fn tabOk0 mixed0 zq52.sig (zq52.E N) Tryz.func14 (by kernel_rfl) (by kernel_rfl) 79 0 0 [] 0 false [] [(false, [.any]), (false, [.any])] (by kernel_rfl) rfl rfl ((zq52.g.run N a0_0 a0_1).trans h)
def zq52.ent (N : Nat) : Ent Tryz.prog T0 := mkEnt 14 [(true, [.any, .ro 41])] zq52.sig (fun t => zq52.g N t.1 t.2) (fun t r h => zq52.good N t.1 t.2 r h)
/-! ### zq76 -/
abbrev zq76.R : Type := Bool
abbrev zq76.sig : Sig := ⟨[(false, 1), (false, 1)], [], [.sl false 3, .sl false 3], [(false, 1)], [], [.bool]⟩
def zq76.C : Cfg D0 := ⟨Tryz.prog, T0, 16806963, 0, 26, 0, [(58, [0, 1, 12, 13], [])], 3344704, false, []⟩
def zq76.E (N : Nat) : List (Ent Tryz.prog T0) := []
def zq76.O (N : Nat) : Orc D0 zq76.R := orcOf (zq76.E N)
def zq76.K0 : Ex → St D0 → Option zq76.R := exitK zq76.C Tryz.f45.results.toList [(false, [.any])] (decOut zq76.sig)
def zq76.c1 : Code := codeAt (Tryz.f45.body.getD .skip) []
def zq76.c2 : Code := codeAt (Tryz.f45.body.getD .skip) [false]
def zq76.c6 : Code := codeAt (Tryz.f45.body.getD .skip) [true, false]
def zq76.c15 : Code := codeAt (Tryz.f45.body.getD .skip) [true, true, true]
def zq76.c28 : Code := codeAt (Tryz.f45.body.getD .skip) [true, true, false, false]
def zq76.c116 : Code := codeAt (Tryz.f45.body.getD .skip) [true, true, false, true, false, false]
def zq76.K116 (N : Nat) (Kn58 : St D0 → Option zq76.R) : Ex → St D0 → Option zq76.R := ((fun up => (onN (fun s => zq76.C.tidy 58 s ((onN Kn58 up) .normal)) (onN Kn58 up))) (blockK 0 (onN (fun s => zq76.C.tidy 14 s (fun s' => runC zq76.C (zq76.O N) N zq76.c15 15 s' zq76.K0)) zq76.K0)))
def zq76.o1 (N : Nat) (v0 : List Int) (v1 : List Int) (v2 : Int) (v3 : Int) (c1 : (List Int) → (List Int) → Int → Int → Option zq76.R) : Option zq76.R :=
 bif (decide (v3 < v2)) then
  bif (decide (0 ≤ v3)) then
   bif (decide (v3 < (v0.length : Int))) then
    (v0[(v3 : Int).toNat]?).bind fun x1 =>
    bif (decide (0 ≤ v3)) then
     bif (decide (v3 < (v1.length : Int))) then
      (v1[(v3 : Int).toNat]?).bind fun x2 =>
      bif (x1 != x2) then
       some (false)
      else
      c1 v0 v1 v2 (w64 (v3 + 1))
     else
     none
    else
    none
   else
   none
  else
  none
 else
 some (true)
theorem zq76.o1.run (N : Nat) (Kn58 : St D0 → Option zq76.R) (v0 : List Int) (v1 : List Int) (v2 : Int) (v3 : Int) : runC zq76.C (zq76.O N) N zq76.c116 116 (mkSt [(0, .one (.sl false 3 v0)), (1, .one (.sl false 3 v1)), (12, .one (.int .i64 v2)), (13, .one (.int .i64 v3))] [] : St D0) ((fun up => (onN (fun s => zq76.C.tidy 58 s ((onN Kn58 up) .normal)) (onN Kn58 up))) (blockK 0 (onN (fun s => zq76.C.tidy 14 s (fun s' => runC zq76.C (zq76.O N) N zq76.c15 15 s' zq76.K0)) zq76.K0))) = zq76.o1 N v0 v1 v2 v3 ((fun w0 w1 w2 w3 => Kn58 (mkSt [(0, .one (.sl false 3 w0)), (1, .one (.sl false 3 w1)), (12, .one (.int .i64 w2)), (13, .one (.int .i64 w3))] [] : St D0))) := by kernel_rfl
def zq76.d1 (N : Nat) (v0 : List Int) (v1 : List Int) (v2 : Int) (v3 : Int) (c1 : (List Int) → (List Int) → Int → Int → Option zq76.R) : Option zq76.R := zq76.o1 N v0 v1 v2 v3 c1
theorem zq76.d1.run (N : Nat) (Kn58 : St D0 → Option zq76.R) (v0 : List Int) (v1 : List Int) (v2 : Int) (v3 : Int) : runC zq76.C (zq76.O N) N zq76.c116 116 (mkSt [(0, .one (.sl false 3 v0)), (1, .one (.sl false 3 v1)), (12, .one (.int .i64 v2)), (13, .one (.int .i64 v3))] [] : St D0) (zq76.K116 N Kn58) = zq76.d1 N v0 v1 v2 v3 ((fun w0 w1 w2 w3 => Kn58 (mkSt [(0, .one (.sl false 3 w0)), (1, .one (.sl false 3 w1)), (12, .one (.int .i64 w2)), (13, .one (.int .i64 w3))] [] : St D0))) := by
  exact (zq76.o1.run N Kn58 v0 v1 v2 v3).trans rfl
def zq76.K58 (N : Nat) : Ex → St D0 → Option zq76.R := (blockK 0 (onN (fun s => zq76.C.tidy 14 s (fun s' => runC zq76.C (zq76.O N) N zq76.c15 15 s' zq76.K0)) zq76.K0))
def zq76.l1 (N : Nat) : Nat → (List Int) → (List Int) → Int → Int → Option zq76.R
  | 0, _, _, _, _ => none
  | n + 1, v0, v1, v2, v3 => zq76.d1 N v0 v1 v2 v3 ((fun w0 w1 w2 w3 => zq76.l1 N n w0 w1 w2 w3))
theorem zq76.loop58 (N : Nat) : ∀ n, (∀ (v0 : List Int) (v1 : List Int) (v2 : Int) (v3 : Int), iter (loopF zq76.C (zq76.O N) N zq76.c116 58) n (mkSt [(0, .one (.sl false 3 v0)), (1, .one (.sl false 3 v1)), (12, .one (.int .i64 v2)), (13, .one (.int .i64 v3))] [] : St D0) (zq76.K58 N) = zq76.l1 N n v0 v1 v2 v3)
  | 0 => (fun v0 v1 v2 v3 => rfl)
  | n + 1 => (fun v0 v1 v2 v3 => (zq76.d1.run N (fun s => iter (loopF zq76.C (zq76.O N) N zq76.c116 58) n s (zq76.K58 N)) v0 v1 v2 v3).trans (show _ = zq76.d1 N v0 v1 v2 v3 ((fun w0 w1 w2 w3 => zq76.l1 N n w0 w1 w2 w3)) from (congr rfl (funext fun w0 => funext fun w1 => funext fun w2 => funext fun w3 => (zq76.loop58 N n) w0 w1 w2 w3))))
def zq76.o0 (N : Nat) (a0 : List Int) (a1 : List Int) (c1 : (List Int) → (List Int) → Int → Int → Option zq76.R) : Option zq76.R :=
 bif ((a0.length : Int) != (a1.length : Int)) then
  some (false)
 else
 c1 a0 a1 (a0.length : Int) 0
theorem zq76.o0.run (N : Nat) (H116 : Code) (a0 : List Int) (a1 : List Int) : runC zq76.C (zq76.O N) N (.seq zq76.c2 (.seq zq76.c6 (.seq (.seq zq76.c28 (.block 0 (.loop H116))) zq76.c15))) 1 (st0 [.one (.sl false 3 a0), .one (.sl false 3 a1)] [] : St D0) zq76.K0 = zq76.o0 N a0 a1 ((fun w0 w1 w2 w3 => iter (loopF zq76.C (zq76.O N) N H116 58) N (mkSt [(0, .one (.sl false 3 w0)), (1, .one (.sl false 3 w1)), (12, .one (.int .i64 w2)), (13, .one (.int .i64 w3))] [] : St D0) (blockK 0 (onN (fun s => zq76.C.tidy 14 s (fun s' => runC zq76.C (zq76.O N) N zq76.c15 15 s' zq76.K0)) zq76.K0)))) := by kernel_rfl
def zq76.g (N : Nat) (a0 : List Int) (a1 : List Int) : Option zq76.R := zq76.o0 N a0 a1 ((fun w0 w1 w2 w3 => zq76.l1 N N w0 w1 w2 w3))
theorem zq76.c1_0 : zq76.c1 = (.seq zq76.c2 (.seq zq76.c6 (.seq (.seq zq76.c28 (.block 0 (.loop zq76.c116))) zq76.c15))) := by kernel_rfl
theorem zq76.g.run (N : Nat) (a0 : List Int) (a1 : List Int) : runC zq76.C (zq76.O N) N zq76.c1 1 (st0 [.one (.sl false 3 a0), .one (.sl false 3 a1)] [] : St D0) zq76.K0 = zq76.g N a0 a1 := by
  rw [zq76.c1_0]; unfold zq76.g; exact (zq76.o0.run N zq76.c116 a0 a1).trans (congr rfl (funext fun w0 => funext fun w1 => funext fun w2 => funext fun w3 => (zq76.loop58 N N) w0 w1 w2 w3))
theorem zq76.good (N : Nat) (a0 : List Int) (a1 : List Int) (r : zq76.R) (h : zq76.g N a0 a1 = some r) : Go.PM.Good Tryz.prog T0 45 [.one (.sl false 3 a0), .one (.sl false 3 a1)] [] (zq76.sig.ret r) (zq76.sig.bs r) :=
  good_fn tabOk0 mixed0 zq76.sig (zq76.E N) Tryz.func45 (by kernel_rfl) (by kernel_rfl) 16806963 0 0 [(58, [0, 1, 12, 13], [])] 3344704 false [] [(false, [.any])] (by kernel_rfl) rfl rfl ((zq76.g.run N a0 a1).trans h)
def zq76.ent (N : Nat) : Ent Tryz.prog T0 := mkEnt 45 [(false, [.ro 3]), (false, [.ro 3])] zq76.sig (fun t => zq76.g N t.1 t.2) (fun t r h => zq76.good N t.1 t.2 r h)
/-! ### zq54 -/
abbrev zq54.R : Type := List Int × Bool
abbrev zq54.sig : Sig := ⟨[(true, 2)], [], [.int .i64, .sl false 41], [(false, 1), (false, 1)], [], [.sl true 3, .bool]⟩
def zq54.C : Cfg D0 := ⟨Tryz.prog, T0, 537789055, 0, 36, 0, [(250, [1, 4, 5, 17, 18], [1])], 301989888, false, []⟩
def zq54.E (N : Nat) : List (Ent Tryz.prog T0) := [zq82.ent N, zq79.ent N, zq88.ent N, zq76.ent N]
def zq54.O (N : Nat) : Orc D0 zq54.R := orcOf (zq54.E N)
def zq54.K0 : Ex → St D0 → Option zq54.R := exitK zq54.C Tryz.f16.results.toList [(false, [.own 3]), (false, [.any])] (decOut zq54.sig)
def zq54.c1 : Code := codeAt (Tryz.f16.body.getD .skip) []
def zq54.c2 : Code := codeAt (Tryz.f16.body.getD .skip) [false]
def zq54.c6 : Code := codeAt (Tryz.f16.body.getD .skip) [true, false]
def zq54.c14 : Code := codeAt (Tryz.f16.body.getD .skip) [true, true, false]
def zq54.c30 : Code := codeAt (Tryz.f16.body.getD .skip) [true, true, true, false]
def zq54.c63 : Code := codeAt (Tryz.f16.body.getD .skip) [true, true, true, true, true]
def zq54.c124 : Code := codeAt (Tryz.f16.body.getD .skip) [true, true, true, true, false, false]
def zq54.c500 : Code := codeAt (Tryz.f16.body.getD .skip) [true, true, true, true, false, true, false, false]
def zq54.K500 (N : Nat) (Kn250 : St D0 → Option zq54.R) : Ex → St D0 → Option zq54.R := ((fun up => (onN (fun s => zq54.C.tidy 250 s ((onN Kn250 up) .normal)) (onN Kn250 up))) (blockK 0 (onN (fun s => zq54.C.tidy 62 s (fun s' => runC zq54.C (zq54.O N) N zq54.c63 63 s' zq54.K0)) zq54.K0)))
def zq54.o1 (N : Nat) (v0 : List Int) (v1 : Int) (v2 : Int) (v3 : Int) (v4 : List S41) (c2 : (List Int) → (List Int) → Int → Int → Int → (List S41) → Option zq54.R) (c1 : (List Int) → Int → Int → Int → (List S41) → Option zq54.R) : Option zq54.R :=
 bif (decide (v2 < v1)) then
  (zq88.g N v4 v2).bind fun r1 =>
  (zq79.g N v3 r1).bind fun r2 =>
  (zq76.g N r2 v0).bind fun r3 =>
  bif r3 then
   bif (Nat.blt (([] : List Int).length + ([v2] : List Int).length) 17592186044416) then
    c2 (([] : List Int) ++ ([v2] : List Int)) v0 v1 (w64 (v2 + 1)) v3 v4
   else
   none
  else
  c1 v0 v1 (w64 (v2 + 1)) v3 v4
 else
 some (([] : List Int), true)
theorem zq54.o1.run (N : Nat) (Kn250 : St D0 → Option zq54.R) (v0 : List Int) (v1 : Int) (v2 : Int) (v3 : Int) (v4 : List S41) : runC zq54.C (zq54.O N) N zq54.c500 500 (mkSt [(1, .one (.ptr 1 0)), (4, .one (.nl)), (5, .one (.sl true 3 v0)), (17, .one (.int .i64 v1)), (18, .one (.int .i64 v2))] [(1, some (24, [.int .i64 v3, .sl false 41 v4]))] : St D0) ((fun up => (onN (fun s => zq54.C.tidy 250 s ((onN Kn250 up) .normal)) (onN Kn250 up))) (blockK 0 (onN (fun s => zq54.C.tidy 62 s (fun s' => runC zq54.C (zq54.O N) N zq54.c63 63 s' zq54.K0)) zq54.K0))) = zq54.o1 N v0 v1 v2 v3 v4 ((fun w0 w1 w2 w3 w4 w5 => Kn250 (mkSt [(1, .one (.ptr 1 0)), (4, .one (.sl true 3 w0)), (5, .one (.sl true 3 w1)), (17, .one (.int .i64 w2)), (18, .one (.int .i64 w3))] [(1, some (24, [.int .i64 w4, .sl false 41 w5]))] : St D0))) ((fun w0 w1 w2 w3 w4 => Kn250 (mkSt [(1, .one (.ptr 1 0)), (4, .one (.nl)), (5, .one (.sl true 3 w0)), (17, .one (.int .i64 w1)), (18, .one (.int .i64 w2))] [(1, some (24, [.int .i64 w3, .sl false 41 w4]))] : St D0))) := by kernel_rfl
def zq54.d1 (N : Nat) (v0 : List Int) (v1 : Int) (v2 : Int) (v3 : Int) (v4 : List S41) (c1 : (List Int) → Int → Int → Int → (List S41) → Option zq54.R) (c2 : (List Int) → (List Int) → Int → Int → Int → (List S41) → Option zq54.R) : Option zq54.R := zq54.o1 N v0 v1 v2 v3 v4 c2 c1
theorem zq54.d1.run (N : Nat) (Kn250 : St D0 → Option zq54.R) (v0 : List Int) (v1 : Int) (v2 : Int) (v3 : Int) (v4 : List S41) : runC zq54.C (zq54.O N) N zq54.c500 500 (mkSt [(1, .one (.ptr 1 0)), (4, .one (.nl)), (5, .one (.sl true 3 v0)), (17, .one (.int .i64 v1)), (18, .one (.int .i64 v2))] [(1, some (24, [.int .i64 v3, .sl false 41 v4]))] : St D0) (zq54.K500 N Kn250) = zq54.d1 N v0 v1 v2 v3 v4 ((fun w0 w1 w2 w3 w4 => Kn250 (mkSt [(1, .one (.ptr 1 0)), (4, .one (.nl)), (5, .one (.sl true 3 w0)), (17, .one (.int .i64 w1)), (18, .one (.int .i64 w2))] [(1, some (24, [.int .i64 w3, .sl false 41 w4]))] : St D0))) ((fun w0 w1 w2 w3 w4 w5 => Kn250 (mkSt [(1, .one (.ptr 1 0)), (4, .one (.sl true 3 w0)), (5, .one (.sl true 3 w1)), (17, .one (.int .i64 w2)), (18, .one (.int .i64 w3))] [(1, some (24, [.int .i64 w4, .sl false 41 w5]))] : St D0))) := by
  exact (zq54.o1.run N Kn250 v0 v1 v2 v3 v4).trans rfl
def zq54.o2 (N : Nat) (v0 : List Int) (v1 : List Int) (v2 : Int) (v3 : Int) (v4 : Int) (v5 : List S41) (c2 : (List Int) → (List Int) → Int → Int → Int → (List S41) → Option zq54.R) : Option zq54.R :=
 bif (decide (v3 < v2)) then
  (zq88.g N v5 v3).bind fun r1 =>
  (zq79.g N v4 r1).bind fun r2 =>
  (zq76.g N r2 v1).bind fun r3 =>
  bif r3 then
   bif (Nat.blt (v0.length + ([v3] : List Int).length) 17592186044416) then
    c2 (v0 ++ ([v3] : List Int)) v1 v2 (w64 (v3 + 1)) v4 v5
   else
   none
  else
  c2 v0 v1 v2 (w64 (v3 + 1)) v4 v5
 else
 some (v0, true)
theorem zq54.o2.run (N : Nat) (Kn250 : St D0 → Option zq54.R) (v0 : List Int) (v1 : List Int) (v2 : Int) (v3 : Int) (v4 : Int) (v5 : List S41) : runC zq54.C (zq54.O N) N zq54.c500 500 (mkSt [(1, .one (.ptr 1 0)), (4, .one (.sl true 3 v0)), (5, .one (.sl true 3 v1)), (17, .one (.int .i64 v2)), (18, .one (.int .i64 v3))] [(1, some (24, [.int .i64 v4, .sl false 41 v5]))] : St D0) ((fun up => (onN (fun s => zq54.C.tidy 250 s ((onN Kn250 up) .normal)) (onN Kn250 up))) (blockK 0 (onN (fun s => zq54.C.tidy 62 s (fun s' => runC zq54.C (zq54.O N) N zq54.c63 63 s' zq54.K0)) zq54.K0))) = zq54.o2 N v0 v1 v2 v3 v4 v5 ((fun w0 w1 w2 w3 w4 w5 => Kn250 (mkSt [(1, .one (.ptr 1 0)), (4, .one (.sl true 3 w0)), (5, .one (.sl true 3 w1)), (17, .one (.int .i64 w2)), (18, .one (.int .i64 w3))] [(1, some (24, [.int .i64 w4, .sl false 41 w5]))] : St D0))) := by kernel_rfl
def zq54.d2 (N : Nat) (v0 : List Int) (v1 : List Int) (v2 : Int) (v3 : Int) (v4 : Int) (v5 : List S41) (c2 : (List Int) → (List Int) → Int → Int → Int → (List S41) → Option zq54.R) : Option zq54.R := zq54.o2 N v0 v1 v2 v3 v4 v5 c2
theorem zq54.d2.run (N : Nat) (Kn250 : St D0 → Option zq54.R) (v0 : List Int) (v1 : List Int) (v2 : Int) (v3 : Int) (v4 : Int) (v5 : List S41) : runC zq54.C (zq54.O N) N zq54.c500 500 (mkSt [(1, .one (.ptr 1 0)), (4, .one (.sl true 3 v0)), (5, .one (.sl true 3 v1)), (17, .one (.int .i64 v2)), (18, .one (.int .i64 v3))] [(1, some (24, [.int .i64 v4, .sl false 41 v5]))] : St D0) (zq54.K500 N Kn250) = zq54.d2 N v0 v1 v2 v3 v4 v5 ((fun w0 w1 w2 w3 w4 w5 => Kn250 (mkSt [(1, .one (.ptr 1 0)), (4, .one (.sl true 3 w0)), (5, .one (.sl true 3 w1)), (17, .one (.int .i64 w2)), (18, .one (.int .i64 w3))] [(1, some (24, [.int .i64 w4, .sl false 41 w5]))] : St D0))) := by
  exact (zq54.o2.run N Kn250 v0 v1 v2 v3 v4 v5).trans rfl
def zq54.K250 (N : Nat) : Ex → St D0 → Option zq54.R := (blockK 0 (onN (fun s => zq54.C.tidy 62 s (fun s' => runC zq54.C (zq54.O N) N zq54.c63 63 s' zq54.K0)) zq54.K0))
mutual
def zq54.l1 (N : Nat) : Nat → (List Int) → Int → Int → Int → (List S41) → Option zq54.R
  | 0, _, _, _, _, _ => none
  | n + 1, v0, v1, v2, v3, v4 => zq54.d1 N v0 v1 v2 v3 v4 ((fun w0 w1 w2 w3 w4 => zq54.l1 N n w0 w1 w2 w3 w4)) ((fun w0 w1 w2 w3 w4 w5 => zq54.l2 N n w0 w1 w2 w3 w4 w5))
def zq54.l2 (N : Nat) : Nat → (List Int) → (List Int) → Int → Int → Int → (List S41) → Option zq54.R
  | 0, _, _, _, _, _, _ => none
  | n + 1, v0, v1, v2, v3, v4, v5 => zq54.d2 N v0 v1 v2 v3 v4 v5 ((fun w0 w1 w2 w3 w4 w5 => zq54.l2 N n w0 w1 w2 w3 w4 w5))
end
theorem zq54.loop250 (N : Nat) : ∀ n, (∀ (v0 : List Int) (v1 : Int) (v2 : Int) (v3 : Int) (v4 : List S41), iter (loopF zq54.C (zq54.O N) N zq54.c500 250) n (mkSt [(1, .one (.ptr 1 0)), (4, .one (.nl)), (5, .one (.sl true 3 v0)), (17, .one (.int .i64 v1)), (18, .one (.int .i64 v2))] [(1, some (24, [.int .i64 v3, .sl false 41 v4]))] : St D0) (zq54.K250 N) = zq54.l1 N n v0 v1 v2 v3 v4) ∧ (∀ (v0 : List Int) (v1 : List Int) (v2 : Int) (v3 : Int) (v4 : Int) (v5 : List S41), iter (loopF zq54.C (zq54.O N) N zq54.c500 250) n (mkSt [(1, .one (.ptr 1 0)), (4, .one (.sl true 3 v0)), (5, .one (.sl true 3 v1)), (17, .one (.int .i64 v2)), (18, .one (.int .i64 v3))] [(1, some (24, [.int .i64 v4, .sl false 41 v5]))] : St D0) (zq54.K250 N) = zq54.l2 N n v0 v1 v2 v3 v4 v5)
  | 0 => ⟨(fun v0 v1 v2 v3 v4 => rfl), (fun v0 v1 v2 v3 v4 v5 => rfl)⟩
  | n + 1 => ⟨(fun v0 v1 v2 v3 v4 => (zq54.d1.run N (fun s => iter (loopF zq54.C (zq54.O N) N zq54.c500 250) n s (zq54.K250 N)) v0 v1 v2 v3 v4).trans (show _ = zq54.d1 N v0 v1 v2 v3 v4 ((fun w0 w1 w2 w3 w4 => zq54.l1 N n w0 w1 w2 w3 w4)) ((fun w0 w1 w2 w3 w4 w5 => zq54.l2 N n w0 w1 w2 w3 w4 w5)) from (congr (congr rfl (funext fun w0 => funext fun w1 => funext fun w2 => funext fun w3 => funext fun w4 => (zq54.loop250 N n).1 w0 w1 w2 w3 w4)) (funext fun w0 => funext fun w1 => funext fun w2 => funext fun w3 => funext fun w4 => funext fun w5 => (zq54.loop250 N n).2 w0 w1 w2 w3 w4 w5)))), (fun v0 v1 v2 v3 v4 v5 => (zq54.d2.run N (fun s => iter (loopF zq54.C (zq54.O N) N zq54.c500 250) n s (zq54.K250 N)) v0 v1 v2 v3 v4 v5).trans (show _ = zq54.d2 N v0 v1 v2 v3 v4 v5 ((fun w0 w1 w2 w3 w4 w5 => zq54.l2 N n w0 w1 w2 w3 w4 w5)) from (congr rfl (funext fun w0 => funext fun w1 => funext fun w2 => funext fun w3 => funext fun w4 => funext fun w5 => (zq54.loop250 N n).2 w0 w1 w2 w3 w4 w5))))⟩
def zq54.o0 (N : Nat) (a0_0 : Int) (a0_1 : List S41) (c1 : (List Int) → Int → Int → Int → (List S41) → Option zq54.R) : Option zq54.R :=
 (zq82.g N a0_0 a0_1).bind fun r1 =>
 bif (!r1) then
  some (([] : List Int), false)
 else
 (zq79.g N a0_0 a0_1).bind fun r2 =>
 c1 r2 (a0_1.length : Int) 0 a0_0 a0_1
theorem zq54.o0.run (N : Nat) (H500 : Code) (a0_0 : Int) (a0_1 : List S41) : runC zq54.C (zq54.O N) N (.seq zq54.c2 (.seq zq54.c6 (.seq zq54.c14 (.seq zq54.c30 (.seq (.seq zq54.c124 (.block 0 (.loop H500))) zq54.c63))))) 1 (st0 [.agg [.int .i64 a0_0, .sl false 41 a0_1]] [] : St D0) zq54.K0 = zq54.o0 N a0_0 a0_1 ((fun w0 w1 w2 w3 w4 => iter (loopF zq54.C (zq54.O N) N H500 250) N (mkSt [(1, .one (.ptr 1 0)), (4, .one (.nl)), (5, .one (.sl true 3 w0)), (17, .one (.int .i64 w1)), (18, .one (.int .i64 w2))] [(1, some (24, [.int .i64 w3, .sl false 41 w4]))] : St D0) (blockK 0 (onN (fun s => zq54.C.tidy 62 s (fun s' => runC zq54.C (zq54.O N) N zq54.c63 63 s' zq54.K0)) zq54.K0)))) := by kernel_rfl
def zq54.g (N : Nat) (a0_0 : Int) (a0_1 : List S41) : Option zq54.R := zq54.o0 N a0_0 a0_1 ((fun w0 w1 w2 w3 w4 => zq54.l1 N N w0 w1 w2 w3 w4))
theorem zq54.c1_0 : zq54.c1 = (.seq zq54.c2 (.seq zq54.c6 (.seq zq54.c14 (.seq zq54.c30 (.seq (.seq zq54.c124 (.block 0 (.loop zq54.c500))) zq54.c63))))) := by kernel_rfl
theorem zq54.g.run (N : Nat) (a0_0 : Int) (a0_1 : List S41) : runC zq54.C (zq54.O N) N zq54.c1 1 (st0 [.agg [.int .i64 a0_0, .sl false 41 a0_1]] [] : St D0) zq54.K0 = zq54.g N a0_0 a0_1 := by
  rw [zq54.c1_0]; unfold zq54.g; exact (zq54.o0.run N zq54.c500 a0_0 a0_1).trans (congr rfl (funext fun w0 => funext fun w1 => funext fun w2 => funext fun w3 => funext fun w4 => (zq54.loop250 N N).1 w0 w1 w2 w3 w4))
theorem zq54.good (N : Nat) (a0_0 : Int) (a0_1 : List S41) (r : zq54.R) (h : zq54.g N a0_0 a0_1 = some r) : Go.PM.Good Tryz.prog T0 16 [.agg [.int .i64 a0_0, .sl false 41 a0_1]] [] (zq54.sig.ret r) (zq54.sig.bs r) :=
  good_fn tabOk0 mixed0 zq54.sig (zq54.E N) Tryz.func16 (by kernel_rfl) (by kernel_rfl) 537789055 0 0 [(250, [1, 4, 5, 17, 18], [1])] 301989888 false [] [(false, [.own 3]), (false, [.any])] (by kernel_rfl) rfl rfl ((zq54.g.run N a0_0 a0_1).trans h)
def zq54.ent (N : Nat) : Ent Tryz.prog T0 := mkEnt 16 [(true, [.any, .ro 41])] zq54.sig (fun t => zq54.g N t.1 t.2) (fun t r h => zq54.good N t.1 t.2 r h)
/-! ### zq11 -/
abbrev zq11.R : Type := List Int × Bool
abbrev zq11.sig : Sig := ⟨[(true, 2)], [], [.int .i64, .sl false 41], [(false, 1), (false, 1)], [], [.sl true 3, .bool]⟩
def zq11.C : Cfg D0 := ⟨Tryz.prog, T0, 57663, 0, 30, 0, [(122, [1, 4, 13, 14], [1])], 4194304, false, []⟩
def zq11.E (N : Nat) : List (Ent Tryz.prog T0) := [zq7.ent N, zq27.ent N]
def zq11.O (N : Nat) : Orc D0 zq11.R := orcOf (zq11.E N)
def zq11.K0 : Ex → St D0 → Option zq11.R := exitK zq11.C Tryz.f17.results.toList [(false, [.own 3]), (false, [.any])] (decOut zq11.sig)
def zq11.c1 : Code := codeAt (Tryz.f17.body.getD .skip) []
def zq11.c2 : Code := codeAt (Tryz.f17.body.getD .skip) [false]
def zq11.c6 : Code := codeAt (Tryz.f17.body.getD .skip) [true, false]
def zq11.c14 : Code := codeAt (Tryz.f17.body.getD .skip) [true, true, false]
def zq11.c31 : Code := codeAt (Tryz.f17.body.getD .skip) [true, true, true, true]
def zq11.c60 : Code := codeAt (Tryz.f17.body.getD .skip) [true, true, true, false, false]
def zq11.c244 : Code := codeAt (Tryz.f17.body.getD .skip) [true, true, true, false, true, false, false]
def zq11.K244 (N : Nat) (Kn122 : St D0 → Option zq11.R) : Ex → St D0 → Option zq11.R := ((fun up => (onN (fun s => zq11.C.tidy 122 s ((onN Kn122 up) .normal)) (onN Kn122 up))) (blockK 0 (onN (fun s => zq11.C.tidy 30 s (fun s' => runC zq11.C (zq11.O N) N zq11.c31 31 s' zq11.K0)) zq11.K0)))
def zq11.o1 (N : Nat) (v0 : List Int) (v1 : Int) (v2 : Int) (v3 : Int) (v4 : List S41) (c1 : (List Int) → Int → Int → Int → (List S41) → Option zq11.R) : Option zq11.R :=
 bif (decide (v2 < v1)) then
  bif (decide (0 ≤ v2)) then
   bif (decide (v2 ≤ (v4.length : Int))) then
    bif (decide (0 ≤ v2)) then
     (zq27.g N v3 ((v4.take (v2 : Int).toNat).drop (0 : Int).toNat)).bind fun r1 =>
     bif (Nat.blt (v0.length + ([(r1.length : Int)] : List Int).length) 17592186044416) then
      c1 (v0 ++ ([(r1.length : Int)] : List Int)) v1 (w64 (v2 + 1)) v3 v4
     else
     none
    else
    none
   else
   none
  else
  none
 else
 some (v0, true)
theorem zq11.o1.run (N : Nat) (Kn122 : St D0 → Option zq11.R) (v0 : List Int) (v1 : Int) (v2 : Int) (v3 : Int) (v4 : List S41) : runC zq11.C (zq11.O N) N zq11.c244 244 (mkSt [(1, .one (.ptr 1 0)), (4, .one (.sl true 3 v0)), (13, .one (.int .i64 v1)), (14, .one (.int .i64 v2))] [(1, some (24, [.int .i64 v3, .sl false 41 v4]))] : St D0) ((fun up => (onN (fun s => zq11.C.tidy 122 s ((onN Kn122 up) .normal)) (onN Kn122 up))) (blockK 0 (onN (fun s => zq11.C.tidy 30 s (fun s' => runC zq11.C (zq11.O N) N zq11.c31 31 s' zq11.K0)) zq11.K0))) = zq11.o1 N v0 v1 v2 v3 v4 ((fun w0 w1 w2 w3 w4 => Kn122 (mkSt [(1, .one (.ptr 1 0)), (4, .one (.sl true 3 w0)), (13, .one (.int .i64 w1)), (14, .one (.int .i64 w2))] [(1, some (24, [.int .i64 w3, .sl false 41 w4]))] : St D0))) := by kernel_rfl
def zq11.d1 (N : Nat) (v0 : List Int) (v1 : Int) (v2 : Int) (v3 : Int) (v4 : List S41) (c1 : (List Int) → Int → Int → Int → (List S41) → Option zq11.R) : Option zq11.R := zq11.o1 N v0 v1 v2 v3 v4 c1
theorem zq11.d1.run (N : Nat) (Kn122 : St D0 → Option zq11.R) (v0 : List Int) (v1 : Int) (v2 : Int) (v3 : Int) (v4 : List S41) : runC zq11.C (zq11.O N) N zq11.c244 244 (mkSt [(1, .one (.ptr 1 0)), (4, .one (.sl true 3 v0)), (13, .one (.int .i64 v1)), (14, .one (.int .i64 v2))] [(1, some (24, [.int .i64 v3, .sl false 41 v4]))] : St D0) (zq11.K244 N Kn122) = zq11.d1 N v0 v1 v2 v3 v4 ((fun w0 w1 w2 w3 w4 => Kn122 (mkSt [(1, .one (.ptr 1 0)), (4, .one (.sl true 3 w0)), (13, .one (.int .i64 w1)), (14, .one (.int .i64 w2))] [(1, some (24, [.int .i64 w3, .sl false 41 w4]))] : St D0))) := by
  exact (zq11.o1.run N Kn122 v0 v1 v2 v3 v4).trans rfl
def zq11.K122 (N : Nat) : Ex → St D0 → Option zq11.R := (blockK 0 (onN (fun s => zq11.C.tidy 30 s (fun s' => runC zq11.C (zq11.O N) N zq11.c31 31 s' zq11.K0)) zq11.K0))
def zq11.l1 (N : Nat) : Nat → (List Int) → Int → Int → Int → (List S41) → Option zq11.R
  | 0, _, _, _, _, _ => none
  | n + 1, v0, v1, v2, v3, v4 => zq11.d1 N v0 v1 v2 v3 v4 ((fun w0 w1 w2 w3 w4 => zq11.l1 N n w0 w1 w2 w3 w4))
theorem zq11.loop122 (N : Nat) : ∀ n, (∀ (v0 : List Int) (v1 : Int) (v2 : Int) (v3 : Int) (v4 : List S41), iter (loopF zq11.C (zq11.O N) N zq11.c244 122) n (mkSt [(1, .one (.ptr 1 0)), (4, .one (.sl true 3 v0)), (13, .one (.int .i64 v1)), (14, .one (.int .i64 v2))] [(1, some (24, [.int .i64 v3, .sl false 41 v4]))] : St D0) (zq11.K122 N) = zq11.l1 N n v0 v1 v2 v3 v4)
  | 0 => (fun v0 v1 v2 v3 v4 => rfl)
  | n + 1 => (fun v0 v1 v2 v3 v4 => (zq11.d1.run N (fun s => iter (loopF zq11.C (zq11.O N) N zq11.c244 122) n s (zq11.K122 N)) v0 v1 v2 v3 v4).trans (show _ = zq11.d1 N v0 v1 v2 v3 v4 ((fun w0 w1 w2 w3 w4 => zq11.l1 N n w0 w1 w2 w3 w4)) from (congr rfl (funext fun w0 => funext fun w1 => funext fun w2 => funext fun w3 => funext fun w4 => (zq11.loop122 N n) w0 w1 w2 w3 w4))))
def zq11.o0 (N : Nat) (a0_0 : Int) (a0_1 : List S41) (c1 : (List Int) → Int → Int → Int → (List S41) → Option zq11.R) : Option zq11.R :=
 (zq7.g N a0_0 a0_1).bind fun r1 =>
 bif (!r1) then
  some (([] : List Int), false)
 else
 c1 ([] : List Int) (w64 ((a0_1.length : Int) + 1)) 0 a0_0 a0_1
theorem zq11.o0.run (N : Nat) (H244 : Code) (a0_0 : Int) (a0_1 : List S41) : runC zq11.C (zq11.O N) N (.seq zq11.c2 (.seq zq11.c6 (.seq zq11.c14 (.seq (.seq zq11.c60 (.block 0 (.loop H244))) zq11.c31)))) 1 (st0 [.agg [.int .i64 a0_0, .sl false 41 a0_1]] [] : St D0) zq11.K0 = zq11.o0 N a0_0 a0_1 ((fun w0 w1 w2 w3 w4 => iter (loopF zq11.C (zq11.O N) N H244 122) N (mkSt [(1, .one (.ptr 1 0)), (4, .one (.sl true 3 w0)), (13, .one (.int .i64 w1)), (14, .one (.int .i64 w2))] [(1, some (24, [.int .i64 w3, .sl false 41 w4]))] : St D0) (blockK 0 (onN (fun s => zq11.C.tidy 30 s (fun s' => runC zq11.C (zq11.O N) N zq11.c31 31 s' zq11.K0)) zq11.K0)))) := by kernel_rfl
def zq11.g (N : Nat) (a0_0 : Int) (a0_1 : List S41) : Option zq11.R := zq11.o0 N a0_0 a0_1 ((fun w0 w1 w2 w3 w4 => zq11.l1 N N w0 w1 w2 w3 w4))
theorem zq11.c1_0 : zq11.c1 = (.seq zq11.c2 (.seq zq11.c6 (.seq zq11.c14 (.seq (.seq zq11.c60 (.block 0 (.loop zq11.c244))) zq11.c31)))) := by kernel_rfl
theorem zq11.g.run (N : Nat) (a0_0 : Int) (a0_1 : List S41) : runC zq11.C (zq11.O N) N zq11.c1 1 (st0 [.agg [.int .i64 a0_0, .sl false 41 a0_1]] [] : St D0) zq11.K0 = zq11.g N a0_0 a0_1 := by
  rw [zq11.c1_0]; unfold zq11.g; exact (zq11.o0.run N zq11.c244 a0_0 a0_1).trans (congr rfl (funext fun w0 => funext fun w1 => funext fun w2 => funext fun w3 => funext fun w4 => (zq11.loop122 N N) w0 w1 w2 w3 w4))
theorem zq11.good (N : Nat) (a0_0 : Int) (a0_1 : List S41) (r : zq11.R) (h : zq11.g N a0_0 a0_1 = some r) : Go.PM.Good Tryz.prog T0 17 [.agg [.int .i64 a0_0, .sl false 41 a0_1]] [] (zq11.sig.ret r) (zq11.sig.bs r) :=
  good_fn tabOk0 mixed0 zq11.sig (zq11.E N) Tryz.func17 (by kernel_rfl) (by kernel_rfl) 57663 0 0 [(122, [1, 4, 13, 14], [1])] 4194304 false [] [(false, [.own 3]), (false, [.any])] (by kernel_rfl) rfl rfl ((zq11.g.run N a0_0 a0_1).trans h)
def zq11.ent (N : Nat) : Ent Tryz.prog T0 := mkEnt 17 [(true, [.any, .ro 41])] zq11.sig (fun t => zq11.g N t.1 t.2) (fun t r h => zq11.good N t.1 t.2 r h)
/-! ### zq53 -/
abbrev zq53.R : Type := List Int × Bool
abbrev zq53.sig : Sig := ⟨[(true, 2)], [], [.int .i64, .sl false 41], [(false, 1), (false, 1)], [], [.sl true 3, .bool]⟩
def zq53.C : Cfg D0 := ⟨Tryz.prog, T0, 8511, 0, 28, 0, [(122, [1, 4, 5], [1])], 2114048, false, []⟩
def zq53.E (N : Nat) : List (Ent Tryz.prog T0) := [zq82.ent N, zq79.ent N]
def zq53.O (N : Nat) : Orc D0 zq53.R := orcOf (zq53.E N)
def zq53.K0 : Ex → St D0 → Option zq53.R := exitK zq53.C Tryz.f18.results.toList [(false, [.own 3]), (false, [.any])] (decOut zq53.sig)
def zq53.c1 : Code := codeAt (Tryz.f18.body.getD .skip) []
def zq53.c2 : Code := codeAt (Tryz.f18.body.getD .skip) [false]
def zq53.c6 : Code := codeAt (Tryz.f18.body.getD .skip) [true, false]
def zq53.c14 : Code := codeAt (Tryz.f18.body.getD .skip) [true, true, false]
def zq53.c31 : Code := codeAt (Tryz.f18.body.getD .skip) [true, true, true, true]
def zq53.c60 : Code := codeAt (Tryz.f18.body.getD .skip) [true, true, true, false, false]
def zq53.c244 : Code := codeAt (Tryz.f18.body.getD .skip) [true, true, true, false, true, false, false]
def zq53.K244 (N : Nat) (Kn122 : St D0 → Option zq53.R) : Ex → St D0 → Option zq53.R := ((fun up => (onN (fun s => zq53.C.tidy 122 s ((onN Kn122 up) .normal)) (onN Kn122 up))) (blockK 0 (onN (fun s => zq53.C.tidy 30 s (fun s' => runC zq53.C (zq53.O N) N zq53.c31 31 s' zq53.K0)) zq53.K0)))
def zq53.o1 (N : Nat) (v0 : Int) (v1 : Int) (v2 : List S41) (c2 : (List Int) → Int → Int → (List S41) → Option zq53.R) : Option zq53.R :=
 bif (decide (v0 ≤ (v2.length : Int))) then
  bif (decide (0 ≤ v0)) then
   bif (decide (v0 ≤ (v2.length : Int))) then
    bif (decide (0 ≤ v0)) then
     (zq79.g N v1 ((v2.take (v0 : Int).toNat).drop (0 : Int).toNat)).bind fun r1 =>
     bif (Nat.blt (([] : List Int).length + ([(r1.length : Int)] : List Int).length) 17592186044416) then
      c2 (([] : List Int) ++ ([(r1.length : Int)] : List Int)) (w64 (v0 + 1)) v1 v2
     else
     none
    else
    none
   else
   none
  else
  none
 else
 some (([] : List Int), true)
theorem zq53.o1.run (N : Nat) (Kn122 : St D0 → Option zq53.R) (v0 : Int) (v1 : Int) (v2 : List S41) : runC zq53.C (zq53.O N) N zq53.c244 244 (mkSt [(1, .one (.ptr 1 0)), (4, .one (.nl)), (5, .one (.int .i64 v0))] [(1, some (24, [.int .i64 v1, .sl false 41 v2]))] : St D0) ((fun up => (onN (fun s => zq53.C.tidy 122 s ((onN Kn122 up) .normal)) (onN Kn122 up))) (blockK 0 (onN (fun s => zq53.C.tidy 30 s (fun s' => runC zq53.C (zq53.O N) N zq53.c31 31 s' zq53.K0)) zq53.K0))) = zq53.o1 N v0 v1 v2 ((fun w0 w1 w2 w3 => Kn122 (mkSt [(1, .one (.ptr 1 0)), (4, .one (.sl true 3 w0)), (5, .one (.int .i64 w1))] [(1, some (24, [.int .i64 w2, .sl false 41 w3]))] : St D0))) := by kernel_rfl
def zq53.d1 (N : Nat) (v0 : Int) (v1 : Int) (v2 : List S41) (c2 : (List Int) → Int → Int → (List S41) → Option zq53.R) : Option zq53.R := zq53.o1 N v0 v1 v2 c2
theorem zq53.d1.run (N : Nat) (Kn122 : St D0 → Option zq53.R) (v0 : Int) (v1 : Int) (v2 : List S41) : runC zq53.C (zq53.O N) N zq53.c244 244 (mkSt [(1, .one (.ptr 1 0)), (4, .one (.nl)), (5, .one (.int .i64 v0))] [(1, some (24, [.int .i64 v1, .sl false 41 v2]))] : St D0) (zq53.K244 N Kn122) = zq53.d1 N v0 v1 v2 ((fun w0 w1 w2 w3 => Kn122 (mkSt [(1, .one (.ptr 1 0)), (4, .one (.sl true 3 w0)), (5, .one (.int .i64 w1))] [(1, some (24, [.int .i64 w2, .sl false 41 w3]))] : St D0))) := by
  exact (zq53.o1.run N Kn122 v0 v1 v2).trans rfl
def zq53.o2 (N : Nat) (v0 : List Int) (v1 : Int) (v2 : Int) (v3 : List S41) (c2 : (List Int) → Int → Int → (List S41) → Option zq53.R) : Option zq53.R :=
 bif (decide (v1 ≤ (v3.length : Int))) then
  bif (decide (0 ≤ v1)) then
   bif (decide (v1 ≤ (v3.length : Int))) then
    bif (decide (0 ≤ v1)) then
     (zq79.g N v2 ((v3.take (v1 : Int).toNat).drop (0 : Int).toNat)).bind fun r1 =>
     bif (Nat.blt (v0.length + ([(r1.length : Int)] : List Int).length) 17592186044416) then
      c2 (v0 ++ ([(r1.length : Int)] : List Int)) (w64 (v1 + 1)) v2 v3
     else
     none
    else
    none
   else
   none
  else
  none
 else
 some (v0, true)
theorem zq53.o2.run (N : Nat) (Kn122 : St D0 → Option zq53.R) (v0 : List Int) (v1 : Int) (v2 : Int) (v3 : List S41) : runC zq53.C (zq53.O N) N zq53.c244 244 (mkSt [(1, .one (.ptr 1 0)), (4, .one (.sl true 3 v0)), (5, .one (.int .i64 v1))] [(1, some (24, [.int .i64 v2, .sl false 41 v3]))] : St D0) ((fun up => (onN (fun s => zq53.C.tidy 122 s ((onN Kn122 up) .normal)) (onN Kn122 up))) (blockK 0 (onN (fun s => zq53.C.tidy 30 s (fun s' => runC zq53.C (zq53.O N) N zq53.c31 31 s' zq53.K0)) zq53.K0))) = zq53.o2 N v0 v1 v2 v3 ((fun w0 w1 w2 w3 => Kn122 (mkSt [(1, .one (.ptr 1 0)), (4, .one (.sl true 3 w0)), (5, .one (.int .i64 w1))] [(1, some (24, [.int .i64 w2, .sl false 41 w3]))] : St D0))) := by kernel_rfl
def zq53.d2 (N : Nat) (v0 : List Int) (v1 : Int) (v2 : Int) (v3 : List S41) (c2 : (List Int) → Int → Int → (List S41) → Option zq53.R) : Option zq53.R := zq53.o2 N v0 v1 v2 v3 c2
theorem zq53.d2.run (N : Nat) (Kn122 : St D0 → Option zq53.R) (v0 : List Int) (v1 : Int) (v2 : Int) (v3 : List S41) : runC zq53.C (zq53.O N) N zq53.c244 244 (mkSt [(1, .one (.ptr 1 0)), (4, .one (.sl true 3 v0)), (5, .one (.int .i64 v1))] [(1, some (24, [.int .i64 v2, .sl false 41 v3]))] : St D0) (zq53.K244 N Kn122) = zq53.d2 N v0 v1 v2 v3 ((fun w0 w1 w2 w3 => Kn122 (mkSt [(1, .one (.ptr 1 0)), (4, .one (.sl true 3 w0)), (5, .one (.int .i64 w1))] [(1, some (24, [.int .i64 w2, .sl false 41 w3]))] : St D0))) := by
  exact (zq53.o2.run N Kn122 v0 v1 v2 v3).trans rfl
def zq53.K122 (N : Nat) : Ex → St D0 → Option zq53.R := (blockK 0 (onN (fun s => zq53.C.tidy 30 s (fun s' => runC zq53.C (zq53.O N) N zq53.c31 31 s' zq53.K0)) zq53.K0))
mutual
def zq53.l1 (N : Nat) : Nat → Int → Int → (List S41) → Option zq53.R
  | 0, _, _, _ => none
  | n + 1, v0, v1, v2 => zq53.d1 N v0 v1 v2 ((fun w0 w1 w2 w3 => zq53.l2 N n w0 w1 w2 w3))
def zq53.l2 (N : Nat) : Nat → (List Int) → Int → Int → (List S41) → Option zq53.R
  | 0, _, _, _, _ => none
  | n + 1, v0, v1, v2, v3 => zq53.d2 N v0 v1 v2 v3 ((fun w0 w1 w2 w3 => zq53.l2 N n w0 w1 w2 w3))
end
theorem zq53.loop122 (N : Nat) : ∀ n, (∀ (v0 : Int) (v1 : Int) (v2 : List S41), iter (loopF zq53.C (zq53.O N) N zq53.c244 122) n (mkSt [(1, .one (.ptr 1 0)), (4, .one (.nl)), (5, .one (.int .i64 v0))] [(1, some (24, [.int .i64 v1, .sl false 41 v2]))] : St D0) (zq53.K122 N) = zq53.l1 N n v0 v1 v2) ∧ (∀ (v0 : List Int) (v1 : Int) (v2 : Int) (v3 : List S41), iter (loopF zq53.C (zq53.O N) N zq53.c244 122) n (mkSt [(1, .one (.ptr 1 0)), (4, .one (.sl true 3 v0)), (5, .one (.int .i64 v1))] [(1, some (24, [.int .i64 v2, .sl false 41 v3]))] : St D0) (zq53.K122 N) = zq53.l2 N n v0 v1 v2 v3)
  | 0 => ⟨(fun v0 v1 v2 => rfl), (fun v0 v1 v2 v3 => rfl)⟩
  | n + 1 => ⟨(fun v0 v1 v2 => (zq53.d1.run N (fun s => iter (loopF zq53.C (zq53.O N) N zq53.c244 122) n s (zq53.K122 N)) v0 v1 v2).trans (show _ = zq53.d1 N v0 v1 v2 ((fun w0 w1 w2 w3 => zq53.l2 N n w0 w1 w2 w3)) from (congr rfl (funext fun w0 => funext fun w1 => funext fun w2 => funext fun w3 => (zq53.loop122 N n).2 w0 w1 w2 w3)))), (fun v0 v1 v2 v3 => (zq53.d2.run N (fun s => iter (loopF zq53.C (zq53.O N) N zq53.c244 122) n s (zq53.K122 N)) v0 v1 v2 v3).trans (show _ = zq53.d2 N v0 v1 v2 v3 ((fun w0 w1 w2 w3 => zq53.l2 N n w0 w1 w2 w3)) from (congr rfl (funext fun w0 => funext fun w1 => funext fun w2 => funext fun w3 => (zq53.loop122 N n).2 w0 w1 w2 w3))))⟩
def zq53.o0 (N : Nat) (a0_0 : Int) (a0_1 : List S41) (c1 : Int → Int → (List S41) → Option zq53.R) : Option zq53.R :=
 (zq82.g N a0_0 a0_1).bind fun r1 =>
 bif (!r1) then
  some (([] : List Int), false)
 else
 c1 0 a0_0 a0_1
theorem zq53.o0.run (N : Nat) (H244 : Code) (a0_0 : Int) (a0_1 : List S41) : runC zq53.C (zq53.O N) N (.seq zq53.c2 (.seq zq53.c6 (.seq zq53.c14 (.seq (.seq zq53.c60 (.block 0 (.loop H244))) zq53.c31)))) 1 (st0 [.agg [.int .i64 a0_0, .sl false 41 a0_1]] [] : St D0) zq53.K0 = zq53.o0 N a0_0 a0_1 ((fun w0 w1 w2 => iter (loopF zq53.C (zq53.O N) N H244 122) N (mkSt [(1, .one (.ptr 1 0)), (4, .one (.nl)), (5, .one (.int .i64 w0))] [(1, some (24, [.int .i64 w1, .sl false 41 w2]))] : St D0) (blockK 0 (onN (fun s => zq53.C.tidy 30 s (fun s' => runC zq53.C (zq53.O N) N zq53.c31 31 s' zq53.K0)) zq53.K0)))) := by kernel_rfl
def zq53.g (N : Nat) (a0_0 : Int) (a0_1 : List S41) : Option zq53.R := zq53.o0 N a0_0 a0_1 ((fun w0 w1 w2 => zq53.l1 N N w0 w1 w2))
theorem zq53.c1_0 : zq53.c1 = (.seq zq53.c2 (.seq zq53.c6 (.seq zq53.c14 (.seq (.seq zq53.c60 (.block 0 (.loop zq53.c244))) zq53.c31)))) := by kernel_rfl
theorem zq53.g.run (N : Nat) (a0_0 : Int) (a0_1 : List S41) : runC zq53.C (zq53.O N) N zq53.c1 1 (st0 [.agg [.int .i64 a0_0, .sl false 41 a0_1]] [] : St D0) zq53.K0 = zq53.g N a0_0 a0_1 := by
  rw [zq53.c1_0]; unfold zq53.g; exact (zq53.o0.run N zq53.c244 a0_0 a0_1).trans (congr rfl (funext fun w0 => funext fun w1 => funext fun w2 => (zq53.loop122 N N).1 w0 w1 w2))
theorem zq53.good (N : Nat) (a0_0 : Int) (a0_1 : List S41) (r : zq53.R) (h : zq53.g N a0_0 a0_1 = some r) : Go.PM.Good Tryz.prog T0 18 [.agg [.int .i64 a0_0, .sl false 41 a0_1]] [] (zq53.sig.ret r) (zq53.sig.bs r) :=
  good_fn tabOk0 mixed0 zq53.sig (zq53.E N) Tryz.func18 (by kernel_rfl) (by kernel_rfl) 8511 0 0 [(122, [1, 4, 5], [1])] 2114048 false [] [(false, [.own 3]), (false, [.any])] (by kernel_rfl) rfl rfl ((zq53.g.run N a0_0 a0_1).trans h)
def zq53.ent (N : Nat) : Ent Tryz.prog T0 := mkEnt 18 [(true, [.any, .ro 41])] zq53.sig (fun t => zq53.g N t.1 t.2) (fun t r h => zq53.good N t.1 t.2 r h)
/-! ### zq0 -/
abbrev zq0.R : Type := Int × Bool
abbrev zq0.sig : Sig := ⟨[(true, 2)], [], [.int .i64, .sl false 41], [(false, 1), (false, 1)], [], [.int .i64, .bool]⟩
def zq0.C : Cfg D0 := ⟨Tryz.prog, T0, 549759549695, 0, 44, 0, [(12, [1, 16], [1]), (122, [1, 4, 5, 19, 20], [1]), (31334, [1, 4, 5, 6, 7, 19, 20, 39], [1])], 215151017984, false, []⟩
def zq0.E (N : Nat) : List (Ent Tryz.prog T0) := [zq7.ent N, zq27.ent N]
def zq0.O (N : Nat) : Orc D0 zq0.R := orcOf (zq0.E N)
def zq0.K0 : Ex → St D0 → Option zq0.R := exitK zq0.C Tryz.f19.results.toList [(false, [.any]), (false, [.any])] (decOut zq0.sig)
def zq0.c1 : Code := codeAt (Tryz.f19.body.getD .skip) []
def zq0.c2 : Code := codeAt (Tryz.f19.body.getD .skip) [false]
def zq0.c7 : Code := codeAt (Tryz.f19.body.getD .skip) [true, true]
def zq0.c12 : Code := codeAt (Tryz.f19.body.getD .skip) [true, false, false]
def zq0.c13 : Code := codeAt (Tryz.f19.body.getD .skip) [true, false, true]
def zq0.c14 : Code := codeAt (Tryz.f19.body.getD .skip) [true, true, false]
def zq0.c31 : Code := codeAt (Tryz.f19.body.getD .skip) [true, true, true, true]
def zq0.c60 : Code := codeAt (Tryz.f19.body.getD .skip) [true, true, true, false, false]
def zq0.c244 : Code := codeAt (Tryz.f19.body.getD .skip) [true, true, true, false, true, false, false]
def zq0.c488 : Code := codeAt (Tryz.f19.body.getD .skip) [true, true, true, false, true, false, false, false]
def zq0.c978 : Code := codeAt (Tryz.f19.body.getD .skip) [true, true, true, false, true, false, false, true, false]
def zq0.c1959 : Code := codeAt (Tryz.f19.body.getD .skip) [true, true, true, false, true, false, false, true, true, true]
def zq0.c7832 : Code := codeAt (Tryz.f19.body.getD .skip) [true, true, true, false, true, false, false, true, true, false, false, false]
def zq0.c15666 : Code := codeAt (Tryz.f19.body.getD .skip) [true, true, true, false, true, false, false, true, true, false, false, true, false]
def zq0.c31334 : Code := codeAt (Tryz.f19.body.getD .skip) [true, true, true, false, true, false, false, true, true, false, false, true, true, false]
def zq0.c31335 : Code := codeAt (Tryz.f19.body.getD .skip) [true, true, true, false, true, false, false, true, true, false, false, true, true, true]
def zq0.K31335 (N : Nat) (Kn122 : St D0 → Option zq0.R) : Ex → St D0 → Option zq0.R := (blockK 1 ((fun up => (onN (fun s => zq0.C.tidy 1958 s (fun s' => runC zq0.C (zq0.O N) N zq0.c1959 1959 s' up)) up)) ((fun up => (onN (fun s => zq0.C.tidy 122 s ((onN Kn122 up) .normal)) (onN Kn122 up))) (blockK 0 (onN (fun s => zq0.C.tidy 30 s (fun s' => runC zq0.C (zq0.O N) N zq0.c31 31 s' zq0.K0)) zq0.K0)))))
def zq0.o3 (N : Nat) (v0 : Int) (v1 : Int) (v2 : Int) (v3 : Int) (v4 : Int) (v5 : Int) (v6 : Bool) (v7 : Int) (v8 : List S41) (c2 : Int → Int → Int → Int → Int → (List S41) → Option zq0.R) : Option zq0.R :=
 bif v6 then
  c2 v2 v3 v4 (w64 (v5 + 1)) v7 v8
 else
 c2 v0 v1 v4 (w64 (v5 + 1)) v7 v8
theorem zq0.o3.run (N : Nat) (Kn122 : St D0 → Option zq0.R) (v0 : Int) (v1 : Int) (v2 : Int) (v3 : Int) (v4 : Int) (v5 : Int) (v6 : Bool) (v7 : Int) (v8 : List S41) : runC zq0.C (zq0.O N) N zq0.c31335 31335 (mkSt [(1, .one (.ptr 1 0)), (4, .one (.int .i64 v0)), (5, .one (.int .i64 v1)), (6, .one (.int .i64 v2)), (7, .one (.int .i64 v3)), (19, .one (.int .i64 v4)), (20, .one (.int .i64 v5)), (39, .one (.bool v6))] [(1, some (24, [.int .i64 v7, .sl false 41 v8]))] : St D0) (blockK 1 ((fun up => (onN (fun s => zq0.C.tidy 1958 s (fun s' => runC zq0.C (zq0.O N) N zq0.c1959 1959 s' up)) up)) ((fun up => (onN (fun s => zq0.C.tidy 122 s ((onN Kn122 up) .normal)) (onN Kn122 up))) (blockK 0 (onN (fun s => zq0.C.tidy 30 s (fun s' => runC zq0.C (zq0.O N) N zq0.c31 31 s' zq0.K0)) zq0.K0))))) = zq0.o3 N v0 v1 v2 v3 v4 v5 v6 v7 v8 ((fun w0 w1 w2 w3 w4 w5 => Kn122 (mkSt [(1, .one (.ptr 1 0)), (4, .one (.int .i64 w0)), (5, .one (.int .i64 w1)), (19, .one (.int .i64 w2)), (20, .one (.int .i64 w3))] [(1, some (24, [.int .i64 w4, .sl false 41 w5]))] : St D0))) := by kernel_rfl
def zq0.d3 (N : Nat) (v0 : Int) (v1 : Int) (v2 : Int) (v3 : Int) (v4 : Int) (v5 : Int) (v6 : Bool) (v7 : Int) (v8 : List S41) (c2 : Int → Int → Int → Int → Int → (List S41) → Option zq0.R) : Option zq0.R := zq0.o3 N v0 v1 v2 v3 v4 v5 v6 v7 v8 c2
theorem zq0.d3.run (N : Nat) (Kn122 : St D0 → Option zq0.R) (v0 : Int) (v1 : Int) (v2 : Int) (v3 : Int) (v4 : Int) (v5 : Int) (v6 : Bool) (v7 : Int) (v8 : List S41) : runC zq0.C (zq0.O N) N zq0.c31335 31335 (mkSt [(1, .one (.ptr 1 0)), (4, .one (.int .i64 v0)), (5, .one (.int .i64 v1)), (6, .one (.int .i64 v2)), (7, .one (.int .i64 v3)), (19, .one (.int .i64 v4)), (20, .one (.int .i64 v5)), (39, .one (.bool v6))] [(1, some (24, [.int .i64 v7, .sl false 41 v8]))] : St D0) (zq0.K31335 N Kn122) = zq0.d3 N v0 v1 v2 v3 v4 v5 v6 v7 v8 ((fun w0 w1 w2 w3 w4 w5 => Kn122 (mkSt [(1, .one (.ptr 1 0)), (4, .one (.int .i64 w0)), (5, .one (.int .i64 w1)), (19, .one (.int .i64 w2)), (20, .one (.int .i64 w3))] [(1, some (24, [.int .i64 w4, .sl false 41 w5]))] : St D0))) := by
  exact (zq0.o3.run N Kn122 v0 v1 v2 v3 v4 v5 v6 v7 v8).trans rfl
def zq0.K244 (N : Nat) (Kn122 : St D0 → Option zq0.R) : Ex → St D0 → Option zq0.R := ((fun up => (onN (fun s => zq0.C.tidy 122 s ((onN Kn122 up) .normal)) (onN Kn122 up))) (blockK 0 (onN (fun s => zq0.C.tidy 30 s (fun s' => runC zq0.C (zq0.O N) N zq0.c31 31 s' zq0.K0)) zq0.K0)))
def zq0.o2 (N : Nat) (v0 : Int) (v1 : Int) (v2 : Int) (v3 : Int) (v4 : Int) (v5 : List S41) (c3 : Int → Int → Int → Int → Int → Int → Bool → Int → (List S41) → Option zq0.R) : Option zq0.R :=
 bif (decide (v3 < v2)) then
  bif (decide (0 ≤ (w64 (v3 + 1)))) then
   bif (decide ((w64 (v3 + 1)) ≤ (v5.length : Int))) then
    bif (decide (0 ≤ v3)) then
     bif (decide (v3 ≤ (w64 (v3 + 1)))) then
      (zq27.g N v4 ((v5.take ((w64 (v3 + 1)) : Int).toNat).drop (v3 : Int).toNat)).bind fun r1 =>
      bif (decide (v1 < 0)) then
       c3 v0 v1 v3 (r1.length : Int) v2 v3 true v4 v5
      else
      c3 v0 v1 v3 (r1.length : Int) v2 v3 (decide ((r1.length : Int) < v1)) v4 v5
     else
     none
    else
    none
   else
   none
  else
  none
 else
 some (v0, true)
theorem zq0.o2.run (N : Nat) (Kn122 : St D0 → Option zq0.R) (H31335 : Code) (v0 : Int) (v1 : Int) (v2 : Int) (v3 : Int) (v4 : Int) (v5 : List S41) : runC zq0.C (zq0.O N) N (.seq zq0.c488 (.seq zq0.c978 (.seq (.block 1 (.seq zq0.c7832 (.seq zq0.c15666 (.seq zq0.c31334 H31335)))) zq0.c1959))) 244 (mkSt [(1, .one (.ptr 1 0)), (4, .one (.int .i64 v0)), (5, .one (.int .i64 v1)), (19, .one (.int .i64 v2)), (20, .one (.int .i64 v3))] [(1, some (24, [.int .i64 v4, .sl false 41 v5]))] : St D0) ((fun up => (onN (fun s => zq0.C.tidy 122 s ((onN Kn122 up) .normal)) (onN Kn122 up))) (blockK 0 (onN (fun s => zq0.C.tidy 30 s (fun s' => runC zq0.C (zq0.O N) N zq0.c31 31 s' zq0.K0)) zq0.K0))) = zq0.o2 N v0 v1 v2 v3 v4 v5 ((fun w0 w1 w2 w3 w4 w5 w6 w7 w8 => runC zq0.C (zq0.O N) N H31335 31335 (mkSt [(1, .one (.ptr 1 0)), (4, .one (.int .i64 w0)), (5, .one (.int .i64 w1)), (6, .one (.int .i64 w2)), (7, .one (.int .i64 w3)), (19, .one (.int .i64 w4)), (20, .one (.int .i64 w5)), (39, .one (.bool w6))] [(1, some (24, [.int .i64 w7, .sl false 41 w8]))] : St D0) (blockK 1 ((fun up => (onN (fun s => zq0.C.tidy 1958 s (fun s' => runC zq0.C (zq0.O N) N zq0.c1959 1959 s' up)) up)) ((fun up => (onN (fun s => zq0.C.tidy 122 s ((onN Kn122 up) .normal)) (onN Kn122 up))) (blockK 0 (onN (fun s => zq0.C.tidy 30 s (fun s' => runC zq0.C (zq0.O N) N zq0.c31 31 s' zq0.K0)) zq0.K0))))))) := by kernel_rfl
def zq0.d2 (N : Nat) (v0 : Int) (v1 : Int) (v2 : Int) (v3 : Int) (v4 : Int) (v5 : List S41) (c2 : Int → Int → Int → Int → Int → (List S41) → Option zq0.R) : Option zq0.R := zq0.o2 N v0 v1 v2 v3 v4 v5 ((fun w0 w1 w2 w3 w4 w5 w6 w7 w8 => zq0.d3 N w0 w1 w2 w3 w4 w5 w6 w7 w8 c2))
theorem zq0.c244_2 : zq0.c244 = (.seq zq0.c488 (.seq zq0.c978 (.seq (.block 1 (.seq zq0.c7832 (.seq zq0.c15666 (.seq zq0.c31334 zq0.c31335)))) zq0.c1959))) := by kernel_rfl
theorem zq0.d2.run (N : Nat) (Kn122 : St D0 → Option zq0.R) (v0 : Int) (v1 : Int) (v2 : Int) (v3 : Int) (v4 : Int) (v5 : List S41) : runC zq0.C (zq0.O N) N zq0.c244 244 (mkSt [(1, .one (.ptr 1 0)), (4, .one (.int .i64 v0)), (5, .one (.int .i64 v1)), (19, .one (.int .i64 v2)), (20, .one (.int .i64 v3))] [(1, some (24, [.int .i64 v4, .sl false 41 v5]))] : St D0) (zq0.K244 N Kn122) = zq0.d2 N v0 v1 v2 v3 v4 v5 ((fun w0 w1 w2 w3 w4 w5 => Kn122 (mkSt [(1, .one (.ptr 1 0)), (4, .one (.int .i64 w0)), (5, .one (.int .i64 w1)), (19, .one (.int .i64 w2)), (20, .one (.int .i64 w3))] [(1, some (24, [.int .i64 w4, .sl false 41 w5]))] : St D0))) := by
  rw [zq0.c244_2]; unfold zq0.d2; exact (zq0.o2.run N Kn122 zq0.c31335 v0 v1 v2 v3 v4 v5).trans (congr rfl (funext fun w0 => funext fun w1 => funext fun w2 => funext fun w3 => funext fun w4 => funext fun w5 => funext fun w6 => funext fun w7 => funext fun w8 => zq0.d3.run N Kn122 w0 w1 w2 w3 w4 w5 w6 w7 w8))
def zq0.K122 (N : Nat) : Ex → St D0 → Option zq0.R := (blockK 0 (onN (fun s => zq0.C.tidy 30 s (fun s' => runC zq0.C (zq0.O N) N zq0.c31 31 s' zq0.K0)) zq0.K0))
def zq0.l2 (N : Nat) : Nat → Int → Int → Int → Int → Int → (List S41) → Option zq0.R
  | 0, _, _, _, _, _, _ => none
  | n + 1, v0, v1, v2, v3, v4, v5 => zq0.d2 N v0 v1 v2 v3 v4 v5 ((fun w0 w1 w2 w3 w4 w5 => zq0.l2 N n w0 w1 w2 w3 w4 w5))
theorem zq0.loop122 (N : Nat) : ∀ n, (∀ (v0 : Int) (v1 : Int) (v2 : Int) (v3 : Int) (v4 : Int) (v5 : List S41), iter (loopF zq0.C (zq0.O N) N zq0.c244 122) n (mkSt [(1, .one (.ptr 1 0)), (4, .one (.int .i64 v0)), (5, .one (.int .i64 v1)), (19, .one (.int .i64 v2)), (20, .one (.int .i64 v3))] [(1, some (24, [.int .i64 v4, .sl false 41 v5]))] : St D0) (zq0.K122 N) = zq0.l2 N n v0 v1 v2 v3 v4 v5)
  | 0 => (fun v0 v1 v2 v3 v4 v5 => rfl)
  | n + 1 => (fun v0 v1 v2 v3 v4 v5 => (zq0.d2.run N (fun s => iter (loopF zq0.C (zq0.O N) N zq0.c244 122) n s (zq0.K122 N)) v0 v1 v2 v3 v4 v5).trans (show _ = zq0.d2 N v0 v1 v2 v3 v4 v5 ((fun w0 w1 w2 w3 w4 w5 => zq0.l2 N n w0 w1 w2 w3 w4 w5)) from (congr rfl (funext fun w0 => funext fun w1 => funext fun w2 => funext fun w3 => funext fun w4 => funext fun w5 => (zq0.loop122 N n) w0 w1 w2 w3 w4 w5))))
def zq0.K13 (N : Nat) : Ex → St D0 → Option zq0.R := (onN (fun s => zq0.C.tidy 6 s (fun s' => runC zq0.C (zq0.O N) N zq0.c7 7 s' zq0.K0)) zq0.K0)
def zq0.o1 (N : Nat) (v0 : Bool) (v1 : Int) (v2 : List S41) (c2 : Int → Int → Int → Int → Int → (List S41) → Option zq0.R) : Option zq0.R :=
 bif v0 then
  some (0, false)
 else
 c2 0 (-1) (v2.length : Int) 0 v1 v2
theorem zq0.o1.run (N : Nat) (H244 : Code) (v0 : Bool) (v1 : Int) (v2 : List S41) : runC zq0.C (zq0.O N) N zq0.c13 13 (mkSt [(1, .one (.ptr 1 0)), (16, .one (.bool v0))] [(1, some (24, [.int .i64 v1, .sl false 41 v2]))] : St D0) (onN (fun s => zq0.C.tidy 6 s (fun s' => runC zq0.C (zq0.O N) N (.seq zq0.c14 (.seq (.seq zq0.c60 (.block 0 (.loop H244))) zq0.c31)) 7 s' zq0.K0)) zq0.K0) = zq0.o1 N v0 v1 v2 ((fun w0 w1 w2 w3 w4 w5 => iter (loopF zq0.C (zq0.O N) N H244 122) N (mkSt [(1, .one (.ptr 1 0)), (4, .one (.int .i64 w0)), (5, .one (.int .i64 w1)), (19, .one (.int .i64 w2)), (20, .one (.int .i64 w3))] [(1, some (24, [.int .i64 w4, .sl false 41 w5]))] : St D0) (blockK 0 (onN (fun s => zq0.C.tidy 30 s (fun s' => runC zq0.C (zq0.O N) N zq0.c31 31 s' zq0.K0)) zq0.K0)))) := by kernel_rfl
def zq0.d1 (N : Nat) (v0 : Bool) (v1 : Int) (v2 : List S41) : Option zq0.R := zq0.o1 N v0 v1 v2 ((fun w0 w1 w2 w3 w4 w5 => zq0.l2 N N w0 w1 w2 w3 w4 w5))
theorem zq0.d1.run (N : Nat) (v0 : Bool) (v1 : Int) (v2 : List S41) : runC zq0.C (zq0.O N) N zq0.c13 13 (mkSt [(1, .one (.ptr 1 0)), (16, .one (.bool v0))] [(1, some (24, [.int .i64 v1, .sl false 41 v2]))] : St D0) (zq0.K13 N) = zq0.d1 N v0 v1 v2 := by
  unfold zq0.d1; exact (zq0.o1.run N zq0.c244 v0 v1 v2).trans (congr rfl (funext fun w0 => funext fun w1 => funext fun w2 => funext fun w3 => funext fun w4 => funext fun w5 => (zq0.loop122 N N) w0 w1 w2 w3 w4 w5))
def zq0.o0 (N : Nat) (a0_0 : Int) (a0_1 : List S41) (c1 : Bool → Int → (List S41) → Option zq0.R) : Option zq0.R :=
 (zq7.g N a0_0 a0_1).bind fun r1 =>
 bif (!r1) then
  c1 true a0_0 a0_1
 else
 c1 ((a0_1.length : Int) == 0) a0_0 a0_1
theorem zq0.o0.run (N : Nat) (H13 : Code) (a0_0 : Int) (a0_1 : List S41) : runC zq0.C (zq0.O N) N (.seq zq0.c2 (.seq (.seq zq0.c12 H13) zq0.c7)) 1 (st0 [.agg [.int .i64 a0_0, .sl false 41 a0_1]] [] : St D0) zq0.K0 = zq0.o0 N a0_0 a0_1 ((fun w0 w1 w2 => runC zq0.C (zq0.O N) N H13 13 (mkSt [(1, .one (.ptr 1 0)), (16, .one (.bool w0))] [(1, some (24, [.int .i64 w1, .sl false 41 w2]))] : St D0) (onN (fun s => zq0.C.tidy 6 s (fun s' => runC zq0.C (zq0.O N) N zq0.c7 7 s' zq0.K0)) zq0.K0))) := by kernel_rfl
def zq0.g (N : Nat) (a0_0 : Int) (a0_1 : List S41) : Option zq0.R := zq0.o0 N a0_0 a0_1 ((fun w0 w1 w2 => zq0.d1 N w0 w1 w2))
theorem zq0.c1_0 : zq0.c1 = (.seq zq0.c2 (.seq (.seq zq0.c12 zq0.c13) zq0.c7)) := by kernel_rfl
theorem zq0.g.run (N : Nat) (a0_0 : Int) (a0_1 : List S41) : runC zq0.C (zq0.O N) N zq0.c1 1 (st0 [.agg [.int .i64 a0_0, .sl false 41 a0_1]] [] : St D0) zq0.K0 = zq0.g N a0_0 a0_1 := by
  rw [zq0.c1_0]; unfold zq0.g; exact (zq0.o0.run N zq0.c13 a0_0 a0_1).trans (congr rfl (funext fun w0 => funext fun w1 => funext fun w2 => zq0.d1.run N w0 w1 w2))
theorem zq0.good (N : Nat) (a0_0 : Int) (a0_1 : List S41) (r : zq0.R) (h : zq0.g N a0_0 a0_1 = some r) : Go.PM.Good Tryz.prog T0 19 [.agg [.int .i64 a0_0, .sl false 41 a0_1]] [] (zq0.sig.ret r) (zq0.sig.bs r) :=
  good_fn tabOk0 mixed0 zq0.sig (zq0.E N) Tryz.func19 (by kernel_rfl) (by kernel_rfl) 549759549695 0 0 [(12, [1, 16], [1]), (122, [1, 4, 5, 19, 20], [1]), (31334, [1, 4, 5, 6, 7, 19, 20, 39], [1])] 215151017984 false [] [(false, [.any]), (false, [.any])] (by kernel_rfl) rfl rfl ((zq0.g.run N a0_0 a0_1).trans h)
def zq0.ent (N : Nat) : Ent Tryz.prog T0 := mkEnt 19 [(true, [.any, .ro 41])] zq0.sig (fun t => zq0.g N t.1 t.2) (fun t r h => zq0.good N t.1 t.2 r h)
/-! ### zq45 -/
abbrev zq45.R : Type := Int × Bool
abbrev zq45.sig : Sig := ⟨[(true, 2)], [], [.int .i64, .sl false 41], [(false, 1), (false, 1)], [], [.int .i64, .bool]⟩
def zq45.C : Cfg D0 := ⟨Tryz.prog, T0, 549759549695, 0, 44, 0, [(12, [1, 16], [1]), (122, [1, 4, 5, 19, 20], [1]), (31334, [1, 4, 5, 6, 7, 19, 20, 39], [1])], 215151017984, false, []⟩
def zq45.E (N : Nat) : List (Ent Tryz.prog T0) := [zq82.ent N, zq79.ent N]
def zq45.O (N : Nat) : Orc D0 zq45.R := orcOf (zq45.E N)
def zq45.K0 : Ex → St D0 → Option zq45.R := exitK zq45.C Tryz.f20.results.toList [(false, [.any]), (false, [.any])] (decOut zq45.sig)
def zq45.c1 : Code := codeAt (Tryz.f20.body.getD .skip) []
def zq45.c2 : Code := codeAt (Tryz.f20.body.getD .skip) [false]
def zq45.c7 : Code := codeAt (Tryz.f20.body.getD .skip) [true, true]
def zq45.c12 : Code := codeAt (Tryz.f20.body.getD .skip) [true, false, false]
def zq45.c13 : Code := codeAt (Tryz.f20.body.getD .skip) [true, false, true]
def zq45.c14 : Code := codeAt (Tryz.f20.body.getD .skip) [true, true, false]
def zq45.c31 : Code := codeAt (Tryz.f20.body.getD .skip) [true, true, true, true]
def zq45.c60 : Code := codeAt (Tryz.f20.body.getD .skip) [true, true, true, false, false]
def zq45.c244 : Code := codeAt (Tryz.f20.body.getD .skip) [true, true, true, false, true, false, false]
def zq45.c488 : Code := codeAt (Tryz.f20.body.getD .skip) [true, true, true, false, true, false, false, false]
def zq45.c978 : Code := codeAt (Tryz.f20.body.getD .skip) [true, true, true, false, true, false, false, true, false]
def zq45.c1959 : Code := codeAt (Tryz.f20.body.getD .skip) [true, true, true, false, true, false, false, true, true, true]
def zq45.c7832 : Code := codeAt (Tryz.f20.body.getD .skip) [true, true, true, false, true, false, false, true, true, false, false, false]
def zq45.c15666 : Code := codeAt (Tryz.f20.body.getD .skip) [true, true, true, false, true, false, false, true, true, false, false, true, false]
def zq45.c31334 : Code := codeAt (Tryz.f20.body.getD .skip) [true, true, true, false, true, false, false, true, true, false, false, true, true, false]
def zq45.c31335 : Code := codeAt (Tryz.f20.body.getD .skip) [true, true, true, false, true, false, false, true, true, false, false, true, true, true]
def zq45.K31335 (N : Nat) (Kn122 : St D0 → Option zq45.R) : Ex → St D0 → Option zq45.R := (blockK 1 ((fun up => (onN (fun s => zq45.C.tidy 1958 s (fun s' => runC zq45.C (zq45.O N) N zq45.c1959 1959 s' up)) up)) ((fun up => (onN (fun s => zq45.C.tidy 122 s ((onN Kn122 up) .normal)) (onN Kn122 up))) (blockK 0 (onN (fun s => zq45.C.tidy 30 s (fun s' => runC zq45.C (zq45.O N) N zq45.c31 31 s' zq45.K0)) zq45.K0)))))
def zq45.o3 (N : Nat) (v0 : Int) (v1 : Int) (v2 : Int) (v3 : Int) (v4 : Int) (v5 : Int) (v6 : Bool) (v7 : Int) (v8 : List S41) (c2 : Int → Int → Int → Int → Int → (List S41) → Option zq45.R) : Option zq45.R :=
 bif v6 then
  c2 v2 v3 v4 (w64 (v5 + 1)) v7 v8
 else
 c2 v0 v1 v4 (w64 (v5 + 1)) v7 v8
theorem zq45.o3.run (N : Nat) (Kn122 : St D0 → Option zq45.R) (v0 : Int) (v1 : Int) (v2 : Int) (v3 : Int) (v4 : Int) (v5 : Int) (v6 : Bool) (v7 : Int) (v8 : List S41) : runC zq45.C (zq45.O N) N zq45.c31335 31335 (mkSt [(1, .one (.ptr 1 0)), (4, .one (.int .i64 v0)), (5, .one (.int .i64 v1)), (6, .one (.int .i64 v2)), (7, .one (.int .i64 v3)), (19, .one (.int .i64 v4)), (20, .one (.int .i64 v5)), (39, .one (.bool v6))] [(1, some (24, [.int .i64 v7, .sl false 41 v8]))] : St D0) (blockK 1 ((fun up => (onN (fun s => zq45.C.tidy 1958 s (fun s' => runC zq45.C (zq45.O N) N zq45.c1959 1959 s' up)) up)) ((fun up => (onN (fun s => zq45.C.tidy 122 s ((onN Kn122 up) .normal)) (onN Kn122 up))) (blockK 0 (onN (fun s => zq45.C.tidy 30 s (fun s' => runC zq45.C (zq45.O N) N zq45.c31 31 s' zq45.K0)) zq45.K0))))) = zq45.o3 N v0 v1 v2 v3 v4 v5 v6 v7 v8 ((fun w0 w1 w2 w3 w4 w5 => Kn122 (mkSt [(1, .one (.ptr 1 0)), (4, .one (.int .i64 w0)), (5, .one (.int .i64 w1)), (19, .one (.int .i64 w2)), (20, .one (.int .i64 w3))] [(1, some (24, [.int .i64 w4, .sl false 41 w5]))] : St D0))) := by kernel_rfl
def zq45.d3 (N : Nat) (v0 : Int) (v1 : Int) (v2 : Int) (v3 : Int) (v4 : Int) (v5 : Int) (v6 : Bool) (v7 : Int) (v8 : List S41) (c2 : Int → Int → Int → Int → Int → (List S41) → Option zq45.R) : Option zq45.R := zq45.o3 N v0 v1 v2 v3 v4 v5 v6 v7 v8 c2
theorem zq45.d3.run (N : Nat) (Kn122 : St D0 → Option zq45.R) (v0 : Int) (v1 : Int) (v2 : Int) (v3 : Int) (v4 : Int) (v5 : Int) (v6 : Bool) (v7 : Int) (v8 : List S41) : runC zq45.C (zq45.O N) N zq45.c31335 31335 (mkSt [(1, .one (.ptr 1 0)), (4, .one (.int .i64 v0)), (5, .one (.int .i64 v1)), (6, .one (.int .i64 v2)), (7, .one (.int .i64 v3)), (19, .one (.int .i64 v4)), (20, .one (.int .i64 v5)), (39, .one (.bool v6))] [(1, some (24, [.int .i64 v7, .sl false 41 v8]))] : St D0) (zq45.K31335 N Kn122) = zq45.d3 N v0 v1 v2 v3 v4 v5 v6 v7 v8 ((fun w0 w1 w2 w3 w4 w5 => Kn122 (mkSt [(1, .one (.ptr 1 0)), (4, .one (.int .i64 w0)), (5, .one (.int .i64 w1)), (19, .one (.int .i64 w2)), (20, .one (.int .i64 w3))] [(1, some (24, [.int .i64 w4, .sl false 41 w5]))] : St D0))) := by
  exact (zq45.o3.run N Kn122 v0 v1 v2 v3 v4 v5 v6 v7 v8).trans rfl
def zq45.K244 (N : Nat) (Kn122 : St D0 → Option zq45.R) : Ex → St D0 → Option zq45.R := ((fun up => (onN (fun s => zq45.C.tidy 122 s ((onN Kn122 up) .normal)) (onN Kn122 up))) (blockK 0 (onN (fun s => zq45.C.tidy 30 s (fun s' => runC zq45.C (zq45.O N) N zq45.c31 31 s' zq45.K0)) zq45.K0)))
def zq45.o2 (N : Nat) (v0 : Int) (v1 : Int) (v2 : Int) (v3 : Int) (v4 : Int) (v5 : List S41) (c3 : Int → Int → Int → Int → Int → Int → Bool → Int → (List S41) → Option zq45.R) : Option zq45.R :=
 bif (decide (v3 < v2)) then
  bif (decide (0 ≤ (w64 (v3 + 1)))) then
   bif (decide ((w64 (v3 + 1)) ≤ (v5.length : Int))) then
    bif (decide (0 ≤ v3)) then
     bif (decide (v3 ≤ (w64 (v3 + 1)))) then
      (zq79.g N v4 ((v5.take ((w64 (v3 + 1)) : Int).toNat).drop (v3 : Int).toNat)).bind fun r1 =>
      bif (v3 == 0) then
       c3 v0 v1 v3 (r1.length : Int) v2 v3 true v4 v5
      else
      c3 v0 v1 v3 (r1.length : Int) v2 v3 (decide ((r1.length : Int) < v1)) v4 v5
     else
     none
    else
    none
   else
   none
  else
  none
 else
 some (v0, true)
theorem zq45.o2.run (N : Nat) (Kn122 : St D0 → Option zq45.R) (H31335 : Code) (v0 : Int) (v1 : Int) (v2 : Int) (v3 : Int) (v4 : Int) (v5 : List S41) : runC zq45.C (zq45.O N) N (.seq zq45.c488 (.seq zq45.c978 (.seq (.block 1 (.seq zq45.c7832 (.seq zq45.c15666 (.seq zq45.c31334 H31335)))) zq45.c1959))) 244 (mkSt [(1, .one (.ptr 1 0)), (4, .one (.int .i64 v0)), (5, .one (.int .i64 v1)), (19, .one (.int .i64 v2)), (20, .one (.int .i64 v3))] [(1, some (24, [.int .i64 v4, .sl false 41 v5]))] : St D0) ((fun up => (onN (fun s => zq45.C.tidy 122 s ((onN Kn122 up) .normal)) (onN Kn122 up))) (blockK 0 (onN (fun s => zq45.C.tidy 30 s (fun s' => runC zq45.C (zq45.O N) N zq45.c31 31 s' zq45.K0)) zq45.K0))) = zq45.o2 N v0 v1 v2 v3 v4 v5 ((fun w0 w1 w2 w3 w4 w5 w6 w7 w8 => runC zq45.C (zq45.O N) N H31335 31335 (mkSt [(1, .one (.ptr 1 0)), (4, .one (.int .i64 w0)), (5, .one (.int .i64 w1)), (6, .one (.int .i64 w2)), (7, .one (.int .i64 w3)), (19, .one (.int .i64 w4)), (20, .one (.int .i64 w5)), (39, .one (.bool w6))] [(1, some (24, [.int .i64 w7, .sl false 41 w8]))] : St D0) (blockK 1 ((fun up => (onN (fun s => zq45.C.tidy 1958 s (fun s' => runC zq45.C (zq45.O N) N zq45.c1959 1959 s' up)) up)) ((fun up => (onN (fun s => zq45.C.tidy 122 s ((onN Kn122 up) .normal)) (onN Kn122 up))) (blockK 0 (onN (fun s => zq45.C.tidy 30 s (fun s' => runC zq45.C (zq45.O N) N zq45.c31 31 s' zq45.K0)) zq45.K0))))))) := by kernel_rfl
def zq45.d2 (N : Nat) (v0 : Int) (v1 : Int) (v2 : Int) (v3 : Int) (v4 : Int) (v5 : List S41) (c2 : Int → Int → Int → Int → Int → (List S41) → Option zq45.R) : Option zq45.R := zq45.o2 N v0 v1 v2 v3 v4 v5 ((fun w0 w1 w2 w3 w4 w5 w6 w7 w8 => zq45.d3 N w0 w1 w2 w3 w4 w5 w6 w7 w8 c2))
theorem zq45.c244_2 : zq45.c244 = (.seq zq45.c488 (.seq zq45.c978 (.seq (.block 1 (.seq zq45.c7832 (.seq zq45.c15666 (.seq zq45.c31334 zq45.c31335)))) zq45.c1959))) := by kernel_rfl
theorem zq45.d2.run (N : Nat) (Kn122 : St D0 → Option zq45.R) (v0 : Int) (v1 : Int) (v2 : Int) (v3 : Int) (v4 : Int) (v5 : List S41) : runC zq45.C (zq45.O N) N zq45.c244 244 (mkSt [(1, .one (.ptr 1 0)), (4, .one (.int .i64 v0)), (5, .one (.int .i64 v1)), (19, .one (.int .i64 v2)), (20, .one (.int .i64 v3))] [(1, some (24, [.int .i64 v4, .sl false 41 v5]))] : St D0) (zq45.K244 N Kn122) = zq45.d2 N v0 v1 v2 v3 v4 v5 ((fun w0 w1 w2 w3 w4 w5 => Kn122 (mkSt [(1, .one (.ptr 1 0)), (4, .one (.int .i64 w0)), (5, .one (.int .i64 w1)), (19, .one (.int .i64 w2)), (20, .one (.int .i64 w3))] [(1, some (24, [.int .i64 w4, .sl false 41 w5]))] : St D0))) := by
  rw [zq45.c244_2]; unfold zq45.d2; exact (zq45.o2.run N Kn122 zq45.c31335 v0 v1 v2 v3 v4 v5).trans (congr rfl (funext fun w0 => funext fun w1 => funext fun w2 => funext fun w3 => funext fun w4 => funext fun w5 => funext fun w6 => funext fun w7 => funext fun w8 => zq45.d3.run N Kn122 w0 w1 w2 w3 w4 w5 w6 w7 w8))
def zq45.K122 (N : Nat) : Ex → St D0 → Option zq45.R := (blockK 0 (onN (fun s => zq45.C.tidy 30 s (fun s' => runC zq45.C (zq45.O N) N zq45.c31 31 s' zq45.K0)) zq45.K0))
def zq45.l2 (N : Nat) : Nat → Int → Int → Int → Int → Int → (List S41) → Option zq45.R
  | 0, _, _, _, _, _, _ => none
  | n + 1, v0, v1, v2, v3, v4, v5 => zq45.d2 N v0 v1 v2 v3 v4 v5 ((fun w0 w1 w2 w3 w4 w5 => zq45.l2 N n w0 w1 w2 w3 w4 w5))
theorem zq45.loop122 (N : Nat) : ∀ n, (∀ (v0 : Int) (v1 : Int) (v2 : Int) (v3 : Int) (v4 : Int) (v5 : List S41), iter (loopF zq45.C (zq45.O N) N zq45.c244 122) n (mkSt [(1, .one (.ptr 1 0)), (4, .one (.int .i64 v0)), (5, .one (.int .i64 v1)), (19, .one (.int .i64 v2)), (20, .one (.int .i64 v3))] [(1, some (24, [.int .i64 v4, .sl false 41 v5]))] : St D0) (zq45.K122 N) = zq45.l2 N n v0 v1 v2 v3 v4 v5)
  | 0 => (fun v0 v1 v2 v3 v4 v5 => rfl)
  | n + 1 => (fun v0 v1 v2 v3 v4 v5 => (zq45.d2.run N (fun s => iter (loopF zq45.C (zq45.O N) N zq45.c244 122) n s (zq45.K122 N)) v0 v1 v2 v3 v4 v5).trans (show _ = zq45.d2 N v0 v1 v2 v3 v4 v5 ((fun w0 w1 w2 w3 w4 w5 => zq45.l2 N n w0 w1 w2 w3 w4 w5)) from (congr rfl (funext fun w0 => funext fun w1 => funext fun w2 => funext fun w3 => funext fun w4 => funext fun w5 => (zq45.loop122 N n) w0 w1 w2 w3 w4 w5))))
def zq45.K13 (N : Nat) : Ex → St D0 → Option zq45.R := (onN (fun s => zq45.C.tidy 6 s (fun s' => runC zq45.C (zq45.O N) N zq45.c7 7 s' zq45.K0)) zq45.K0)
def zq45.o1 (N : Nat) (v0 : Bool) (v1 : Int) (v2 : List S41) (c2 : Int → Int → Int → Int → Int → (List S41) → Option zq45.R) : Option zq45.R :=
 bif v0 then
  some (0, false)
 else
 c2 0 0 (v2.length : Int) 0 v1 v2
theorem zq45.o1.run (N : Nat) (H244 : Code) (v0 : Bool) (v1 : Int) (v2 : List S41) : runC zq45.C (zq45.O N) N zq45.c13 13 (mkSt [(1, .one (.ptr 1 0)), (16, .one (.bool v0))] [(1, some (24, [.int .i64 v1, .sl false 41 v2]))] : St D0) (onN (fun s => zq45.C.tidy 6 s (fun s' => runC zq45.C (zq45.O N) N (.seq zq45.c14 (.seq (.seq zq45.c60 (.block 0 (.loop H244))) zq45.c31)) 7 s' zq45.K0)) zq45.K0) = zq45.o1 N v0 v1 v2 ((fun w0 w1 w2 w3 w4 w5 => iter (loopF zq45.C (zq45.O N) N H244 122) N (mkSt [(1, .one (.ptr 1 0)), (4, .one (.int .i64 w0)), (5, .one (.int .i64 w1)), (19, .one (.int .i64 w2)), (20, .one (.int .i64 w3))] [(1, some (24, [.int .i64 w4, .sl false 41 w5]))] : St D0) (blockK 0 (onN (fun s => zq45.C.tidy 30 s (fun s' => runC zq45.C (zq45.O N) N zq45.c31 31 s' zq45.K0)) zq45.K0)))) := by kernel_rfl
def zq45.d1 (N : Nat) (v0 : Bool) (v1 : Int) (v2 : List S41) : Option zq45.R := zq45.o1 N v0 v1 v2 ((fun w0 w1 w2 w3 w4 w5 => zq45.l2 N N w0 w1 w2 w3 w4 w5))
theorem zq45.d1.run (N : Nat) (v0 : Bool) (v1 : Int) (v2 : List S41) : runC zq45.C (zq45.O N) N zq45.c13 13 (mkSt [(1, .one (.ptr 1 0)), (16, .one (.bool v0))] [(1, some (24, [.int .i64 v1, .sl false 41 v2]))] : St D0) (zq45.K13 N) = zq45.d1 N v0 v1 v2 := by
  unfold zq45.d1; exact (zq45.o1.run N zq45.c244 v0 v1 v2).trans (congr rfl (funext fun w0 => funext fun w1 => funext fun w2 => funext fun w3 => funext fun w4 => funext fun w5 => (zq45.loop122 N N) w0 w1 w2 w3 w4 w5))
def zq45.o0 (N : Nat) (a0_0 : Int) (a0_1 : List S41) (c1 : Bool → Int → (List S41) → Option zq45.R) : Option zq45.R :=
 (zq82.g N a0_0 a0_1).bind fun r1 =>
 bif (!r1) then
  c1 true a0_0 a0_1
 else
 c1 ((a0_1.length : Int) == 0) a0_0 a0_1
theorem zq45.o0.run (N : Nat) (H13 : Code) (a0_0 : Int) (a0_1 : List S41) : runC zq45.C (zq45.O N) N (.seq zq45.c2 (.seq (.seq zq45.c12 H13) zq45.c7)) 1 (st0 [.agg [.int .i64 a0_0, .sl false 41 a0_1]] [] : St D0) zq45.K0 = zq45.o0 N a0_0 a0_1 ((fun w0 w1 w2 => runC zq45.C (zq45.O N) N H13 13 (mkSt [(1, .one (.ptr 1 0)), (16, .one (.bool w0))] [(1, some (24, [.int .i64 w1, .sl false 41 w2]))] : St D0) (onN (fun s => zq45.C.tidy 6 s (fun s' => runC zq45.C (zq45.O N) N zq45.c7 7 s' zq45.K0)) zq45.K0))) := by kernel_rfl
def zq45.g (N : Nat) (a0_0 : Int) (a0_1 : List S41) : Option zq45.R := zq45.o0 N a0_0 a0_1 ((fun w0 w1 w2 => zq45.d1 N w0 w1 w2))
theorem zq45.c1_0 : zq45.c1 = (.seq zq45.c2 (.seq (.seq zq45.c12 zq45.c13) zq45.c7)) := by kernel_rfl
theorem zq45.g.run (N : Nat) (a0_0 : Int) (a0_1 : List S41) : runC zq45.C (zq45.O N) N zq45.c1 1 (st0 [.agg [.int .i64 a0_0, .sl false 41 a0_1]] [] : St D0) zq45.K0 = zq45.g N a0_0 a0_1 := by
  rw [zq45.c1_0]; unfold zq45.g; exact (zq45.o0.run N zq45.c13 a0_0 a0_1).trans (congr rfl (funext fun w0 => funext fun w1 => funext fun w2 => zq45.d1.run N w0 w1 w2))
theorem zq45.good (N : Nat) (a0_0 : Int) (a0_1 : List S41) (r : zq45.R) (h : zq45.g N a0_0 a0_1 = some r) : Go.PM.Good Tryz.prog T0 20 [.agg [.int .i64 a0_0, .sl false 41 a0_1]] [] (zq45.sig.ret r) (zq45.sig.bs r) :=
  good_fn tabOk0 mixed0 zq45.sig (zq45.E N) Tryz.func20 (by kernel_rfl) (by kernel_rfl) 549759549695 0 0 [(12, [1, 16], [1]), (122, [1, 4, 5, 19, 20], [1]), (31334, [1, 4, 5, 6, 7, 19, 20, 39], [1])] 215151017984 false [] [(false, [.any]), (false, [.any])] (by kernel_rfl) rfl rfl ((zq45.g.run N a0_0 a0_1).trans h)
def zq45.ent (N : Nat) : Ent Tryz.prog T0 := mkEnt 20 [(true, [.any, .ro 41])] zq45.sig (fun t => zq45.g N t.1 t.2) (fun t r h => zq45.good N t.1 t.2 r h)
/-! ### zq51 -/
abbrev zq51.R : Type := Bool
abbrev zq51.sig : Sig := ⟨[(true, 2)], [], [.int .i64, .sl false 41], [(false, 1)], [], [.bool]⟩
def zq51.C : Cfg D0 := ⟨Tryz.prog, T0, 7, 0, 5, 0, [], 0, false, []⟩
def zq51.E (N : Nat) : List (Ent Tryz.prog T0) := [zq82.ent N]
def zq51.O (N : Nat) : Orc D0 zq51.R := orcOf (zq51.E N)
def zq51.K0 : Ex → St D0 → Option zq51.R := exitK zq51.C Tryz.f26.results.toList [(false, [.any])] (decOut zq51.sig)
def zq51.c1 : Code := codeAt (Tryz.f26.body.getD .skip) []
def zq51.o0 (N : Nat) (a0_0 : Int) (a0_1 : List S41) : Option zq51.R :=
 (zq82.g N a0_0 a0_1).bind fun r1 =>
 some (r1)
theorem zq51.o0.run (N : Nat) (a0_0 : Int) (a0_1 : List S41) : runC zq51.C (zq51.O N) N zq51.c1 1 (st0 [.agg [.int .i64 a0_0, .sl false 41 a0_1]] [] : St D0) zq51.K0 = zq51.o0 N a0_0 a0_1 := by kernel_rfl
def zq51.g (N : Nat) (a0_0 : Int) (a0_1 : List S41) : Option zq51.R := zq51.o0 N a0_0 a0_1
theorem zq51.g.run (N : Nat) (a0_0 : Int) (a0_1 : List S41) : runC zq51.C (zq51.O N) N zq51.c1 1 (st0 [.agg [.int .i64 a0_0, .sl false 41 a0_1]] [] : St D0) zq51.K0 = zq51.g N a0_0 a0_1 := by
  exact (zq51.o0.run N a0_0 a0_1).trans rfl
theorem zq51.good (N : Nat) (a0_0 : Int) (a0_1 : List S41) (r : zq51.R) (h : zq51.g N a0_0 a0_1 = some r) : Go.PM.Good Tryz.prog T0 26 [.agg [.int .i64 a0_0, .sl false 41 a0_1]] [] (zq51.sig.ret r) (zq51.sig.bs r) :=
  good_fn tabOk0 mixed0 zq51.sig (zq51.E N) Tryz.func26 (by kernel_rfl) (by kernel_rfl) 7 0 0 [] 0 false [] [(false, [.any])] (by kernel_rfl) rfl rfl ((zq51.g.run N a0_0 a0_1).trans h)
def zq51.ent (N : Nat) : Ent Tryz.prog T0 := mkEnt 26 [(true, [.any, .ro 41])] zq51.sig (fun t => zq51.g N t.1 t.2) (fun t r h => zq51.good N t.1 t.2 r h)
/-! ### zq39 -/
abbrev zq39.R : Type := Bool
abbrev zq39.sig : Sig := ⟨[(false, 1), (false, 1)], [], [.sl false 46, .sl false 46], [(false, 1)], [], [.bool]⟩
def zq39.C : Cfg D0 := ⟨Tryz.prog, T0, 16806963, 0, 26, 0, [(58, [0, 1, 12, 13], [])], 3344704, false, []⟩
def zq39.E (N : Nat) : List (Ent Tryz.prog T0) := []
def zq39.O (N : Nat) : Orc D0 zq39.R := orcOf (zq39.E N)
def zq39.K0 : Ex → St D0 → Option zq39.R := exitK zq39.C Tryz.f24.results.toList [(false, [.any])] (decOut zq39.sig)
def zq39.c1 : Code := codeAt (Tryz.f24.body.getD .skip) []
def zq39.c2 : Code := codeAt (Tryz.f24.body.getD .skip) [false]
def zq39.c6 : Code := codeAt (Tryz.f24.body.getD .skip) [true, false]
def zq39.c15 : Code := codeAt (Tryz.f24.body.getD .skip) [true, true, true]
def zq39.c28 : Code := codeAt (Tryz.f24.body.getD .skip) [true, true, false, false]
def zq39.c116 : Code := codeAt (Tryz.f24.body.getD .skip) [true, true, false, true, false, false]
def zq39.K116 (N : Nat) (Kn58 : St D0 → Option zq39.R) : Ex → St D0 → Option zq39.R := ((fun up => (onN (fun s => zq39.C.tidy 58 s ((onN Kn58 up) .normal)) (onN Kn58 up))) (blockK 0 (onN (fun s => zq39.C.tidy 14 s (fun s' => runC zq39.C (zq39.O N) N zq39.c15 15 s' zq39.K0)) zq39.K0)))
def zq39.o1 (N : Nat) (v0 : List S46) (v1 : List S46) (v2 : Int) (v3 : Int) (c1 : (List S46) → (List S46) → Int → Int → Option zq39.R) : Option zq39.R :=
 bif (decide (v3 < v2)) then
  bif (decide (0 ≤ v3)) then
   bif (decide (v3 < (v0.length : Int))) then
    (v0[(v3 : Int).toNat]?).bind fun x1 =>
    bif (decide (0 ≤ v3)) then
     bif (decide (v3 < (v1.length : Int))) then
      (v1[(v3 : Int).toNat]?).bind fun x2 =>
      bif (!((x1.f0 == x2.f0) && ((x1.f1 == x2.f1) && true))) then
       some (false)
      else
      c1 v0 v1 v2 (w64 (v3 + 1))
     else
     none
    else
    none
   else
   none
  else
  none
 else
 some (true)
theorem zq39.o1.run (N : Nat) (Kn58 : St D0 → Option zq39.R) (v0 : List S46) (v1 : List S46) (v2 : Int) (v3 : Int) : runC zq39.C (zq39.O N) N zq39.c116 116 (mkSt [(0, .one (.sl false 46 v0)), (1, .one (.sl false 46 v1)), (12, .one (.int .i64 v2)), (13, .one (.int .i64 v3))] [] : St D0) ((fun up => (onN (fun s => zq39.C.tidy 58 s ((onN Kn58 up) .normal)) (onN Kn58 up))) (blockK 0 (onN (fun s => zq39.C.tidy 14 s (fun s' => runC zq39.C (zq39.O N) N zq39.c15 15 s' zq39.K0)) zq39.K0))) = zq39.o1 N v0 v1 v2 v3 ((fun w0 w1 w2 w3 => Kn58 (mkSt [(0, .one (.sl false 46 w0)), (1, .one (.sl false 46 w1)), (12, .one (.int .i64 w2)), (13, .one (.int .i64 w3))] [] : St D0))) := by kernel_rfl
def zq39.d1 (N : Nat) (v0 : List S46) (v1 : List S46) (v2 : Int) (v3 : Int) (c1 : (List S46) → (List S46) → Int → Int → Option zq39.R) : Option zq39.R := zq39.o1 N v0 v1 v2 v3 c1
theorem zq39.d1.run (N : Nat) (Kn58 : St D0 → Option zq39.R) (v0 : List S46) (v1 : List S46) (v2 : Int) (v3 : Int) : runC zq39.C (zq39.O N) N zq39.c116 116 (mkSt [(0, .one (.sl false 46 v0)), (1, .one (.sl false 46 v1)), (12, .one (.int .i64 v2)), (13, .one (.int .i64 v3))] [] : St D0) (zq39.K116 N Kn58) = zq39.d1 N v0 v1 v2 v3 ((fun w0 w1 w2 w3 => Kn58 (mkSt [(0, .one (.sl false 46 w0)), (1, .one (.sl false 46 w1)), (12, .one (.int .i64 w2)), (13, .one (.int .i64 w3))] [] : St D0))) := by
  exact (zq39.o1.run N Kn58 v0 v1 v2 v3).trans rfl
def zq39.K58 (N : Nat) : Ex → St D0 → Option zq39.R := (blockK 0 (onN (fun s => zq39.C.tidy 14 s (fun s' => runC zq39.C (zq39.O N) N zq39.c15 15 s' zq39.K0)) zq39.K0))
def zq39.l1 (N : Nat) : Nat → (List S46) → (List S46) → Int → Int → Option zq39.R
  | 0, _, _, _, _ => none
  | n + 1, v0, v1, v2, v3 => zq39.d1 N v0 v1 v2 v3 ((fun w0 w1 w2 w3 => zq39.l1 N n w0 w1 w2 w3))
theorem zq39.loop58 (N : Nat) : ∀ n, (∀ (v0 : List S46) (v1 : List S46) (v2 : Int) (v3 : Int), iter (loopF zq39.C (zq39.O N) N zq39.c116 58) n (mkSt [(0, .one (.sl false 46 v0)), (1, .one (.sl false 46 v1)), (12, .one (.int .i64 v2)), (13, .one (.int .i64 v3))] [] : St D0) (zq39.K58 N) = zq39.l1 N n v0 v1 v2 v3)
  | 0 => (fun v0 v1 v2 v3 => rfl)
  | n + 1 => (fun v0 v1 v2 v3 => (zq39.d1.run N (fun s => iter (loopF zq39.C (zq39.O N) N zq39.c116 58) n s (zq39.K58 N)) v0 v1 v2 v3).trans (show _ = zq39.d1 N v0 v1 v2 v3 ((fun w0 w1 w2 w3 => zq39.l1 N n w0 w1 w2 w3)) from (congr rfl (funext fun w0 => funext fun w1 => funext fun w2 => funext fun w3 => (zq39.loop58 N n) w0 w1 w2 w3))))
def zq39.o0 (N : Nat) (a0 : List S46) (a1 : List S46) (c1 : (List S46) → (List S46) → Int → Int → Option zq39.R) : Option zq39.R :=
 bif ((a0.length : Int) != (a1.length : Int)) then
  some (false)
 else
 c1 a0 a1 (a0.length : Int) 0
theorem zq39.o0.run (N : Nat) (H116 : Code) (a0 : List S46) (a1 : List S46) : runC zq39.C (zq39.O N) N (.seq zq39.c2 (.seq zq39.c6 (.seq (.seq zq39.c28 (.block 0 (.loop H116))) zq39.c15))) 1 (st0 [.one (.sl false 46 a0), .one (.sl false 46 a1)] [] : St D0) zq39.K0 = zq39.o0 N a0 a1 ((fun w0 w1 w2 w3 => iter (loopF zq39.C (zq39.O N) N H116 58) N (mkSt [(0, .one (.sl false 46 w0)), (1, .one (.sl false 46 w1)), (12, .one (.int .i64 w2)), (13, .one (.int .i64 w3))] [] : St D0) (blockK 0 (onN (fun s => zq39.C.tidy 14 s (fun s' => runC zq39.C (zq39.O N) N zq39.c15 15 s' zq39.K0)) zq39.K0)))) := by kernel_rfl
def zq39.g (N : Nat) (a0 : List S46) (a1 : List S46) : Option zq39.R := zq39.o0 N a0 a1 ((fun w0 w1 w2 w3 => zq39.l1 N N w0 w1 w2 w3))
theorem zq39.c1_0 : zq39.c1 = (.seq zq39.c2 (.seq zq39.c6 (.seq (.seq zq39.c28 (.block 0 (.loop zq39.c116))) zq39.c15))) := by kernel_rfl
theorem zq39.g.run (N : Nat) (a0 : List S46) (a1 : List S46) : runC zq39.C (zq39.O N) N zq39.c1 1 (st0 [.one (.sl false 46 a0), .one (.sl false 46 a1)] [] : St D0) zq39.K0 = zq39.g N a0 a1 := by
  rw [zq39.c1_0]; unfold zq39.g; exact (zq39.o0.run N zq39.c116 a0 a1).trans (congr rfl (funext fun w0 => funext fun w1 => funext fun w2 => funext fun w3 => (zq39.loop58 N N) w0 w1 w2 w3))
theorem zq39.good (N : Nat) (a0 : List S46) (a1 : List S46) (r : zq39.R) (h : zq39.g N a0 a1 = some r) : Go.PM.Good Tryz.prog T0 24 [.one (.sl false 46 a0), .one (.sl false 46 a1)] [] (zq39.sig.ret r) (zq39.sig.bs r) :=
  good_fn tabOk0 mixed0 zq39.sig (zq39.E N) Tryz.func24 (by kernel_rfl) (by kernel_rfl) 16806963 0 0 [(58, [0, 1, 12, 13], [])] 3344704 false [] [(false, [.any])] (by kernel_rfl) rfl rfl ((zq39.g.run N a0 a1).trans h)
def zq39.ent (N : Nat) : Ent Tryz.prog T0 := mkEnt 24 [(false, [.ro 46]), (false, [.ro 46])] zq39.sig (fun t => zq39.g N t.1 t.2) (fun t r h => zq39.good N t.1 t.2 r h)
/-! ### zq10 -/
abbrev zq10.R : Type := Bool
abbrev zq10.sig : Sig := ⟨[(true, 2)], [], [.int .i64, .int .i64], [(false, 1)], [], [.bool]⟩
def zq10.C : Cfg D0 := ⟨Tryz.prog, T0, 7, 0, 22, 0, [], 0, false, []⟩
def zq10.E (N : Nat) : List (Ent Tryz.prog T0) := [zq31.ent N, zq20.ent N]
def zq10.O (N : Nat) : Orc D0 zq10.R := orcOf (zq10.E N)
def zq10.K0 : Ex → St D0 → Option zq10.R := exitK zq10.C Tryz.f80.results.toList [(false, [.any])] (decOut zq10.sig)
def zq10.c1 : Code := codeAt (Tryz.f80.body.getD .skip) []
def zq10.o0 (N : Nat) (a0_0 : Int) (a0_1 : Int) : Option zq10.R :=
 (zq31.g N a0_1 1 1000000).bind fun r1 =>
 bif r1 then
  (zq31.g N a0_0 0 (w64 (a0_1 - 1))).bind fun r2 =>
  bif r2 then
   (zq20.g N a0_0 a0_1).bind fun r3 =>
   some ((r3 == 1))
  else
  some (false)
 else
 some (false)
theorem zq10.o0.run (N : Nat) (a0_0 : Int) (a0_1 : Int) : runC zq10.C (zq10.O N) N zq10.c1 1 (st0 [.agg [.int .i64 a0_0, .int .i64 a0_1]] [] : St D0) zq10.K0 = zq10.o0 N a0_0 a0_1 := by kernel_rfl
def zq10.g (N : Nat) (a0_0 : Int) (a0_1 : Int) : Option zq10.R := zq10.o0 N a0_0 a0_1
theorem zq10.g.run (N : Nat) (a0_0 : Int) (a0_1 : Int) : runC zq10.C (zq10.O N) N zq10.c1 1 (st0 [.agg [.int .i64 a0_0, .int .i64 a0_1]] [] : St D0) zq10.K0 = zq10.g N a0_0 a0_1 := by
  exact (zq10.o0.run N a0_0 a0_1).trans rfl
theorem zq10.good (N : Nat) (a0_0 : Int) (a0_1 : Int) (r : zq10.R) (h : zq10.g N a0_0 a0_1 = some r) : Go.PM.Good Tryz.prog T0 80 [.agg [.int .i64 a0_0, .int .i64 a0_1]] [] (zq10.sig.ret r) (zq10.sig.bs r) :=
  good_fn tabOk0 mixed0 zq10.sig (zq10.E N) Tryz.func80 (by kernel_rfl) (by kernel_rfl) 7 0 0 [] 0 false [] [(false, [.any])] (by kernel_rfl) rfl rfl ((zq10.g.run N a0_0 a0_1).trans h)
def zq10.ent (N : Nat) : Ent Tryz.prog T0 := mkEnt 80 [(true, [.any, .any])] zq10.sig (fun t => zq10.g N t.1 t.2) (fun t r h => zq10.good N t.1 t.2 r h)
/-! ### zq23 -/
abbrev zq23.R : Type := Bool
abbrev zq23.sig : Sig := ⟨[(false, 1), (true, 2)], [], [.int .i64, .int .i64, .int .i64], [(false, 1)], [], [.bool]⟩
def zq23.C : Cfg D0 := ⟨Tryz.prog, T0, 27, 0, 11, 0, [], 32, false, []⟩
def zq23.E (N : Nat) : List (Ent Tryz.prog T0) := [zq21.ent N, zq10.ent N]
def zq23.O (N : Nat) : Orc D0 zq23.R := orcOf (zq23.E N)
def zq23.K0 : Ex → St D0 → Option zq23.R := exitK zq23.C Tryz.f55.results.toList [(false, [.any])] (decOut zq23.sig)
def zq23.c1 : Code := codeAt (Tryz.f55.body.getD .skip) []
def zq23.o0 (N : Nat) (a0 : Int) (a1_0 : Int) (a1_1 : Int) : Option zq23.R :=
 (zq21.g N a0).bind fun r1 =>
 bif r1 then
  (zq10.g N a1_0 a1_1).bind fun r2 =>
  some (r2)
 else
 some (false)
theorem zq23.o0.run (N : Nat) (a0 : Int) (a1_0 : Int) (a1_1 : Int) : runC zq23.C (zq23.O N) N zq23.c1 1 (st0 [.one (.int .i64 a0), .agg [.int .i64 a1_0, .int .i64 a1_1]] [] : St D0) zq23.K0 = zq23.o0 N a0 a1_0 a1_1 := by kernel_rfl
def zq23.g (N : Nat) (a0 : Int) (a1_0 : Int) (a1_1 : Int) : Option zq23.R := zq23.o0 N a0 a1_0 a1_1
theorem zq23.g.run (N : Nat) (a0 : Int) (a1_0 : Int) (a1_1 : Int) : runC zq23.C (zq23.O N) N zq23.c1 1 (st0 [.one (.int .i64 a0), .agg [.int .i64 a1_0, .int .i64 a1_1]] [] : St D0) zq23.K0 = zq23.g N a0 a1_0 a1_1 := by
  exact (zq23.o0.run N a0 a1_0 a1_1).trans rfl
theorem zq23.good (N : Nat) (a0 : Int) (a1_0 : Int) (a1_1 : Int) (r : zq23.R) (h : zq23.g N a0 a1_0 a1_1 = some r) : Go.PM.Good Tryz.prog T0 55 [.one (.int .i64 a0), .agg [.int .i64 a1_0, .int .i64 a1_1]] [] (zq23.sig.ret r) (zq23.sig.bs r) :=
  good_fn tabOk0 mixed0 zq23.sig (zq23.E N) Tryz.func55 (by kernel_rfl) (by kernel_rfl) 27 0 0 [] 32 false [] [(false, [.any])] (by kernel_rfl) rfl rfl ((zq23.g.run N a0 a1_0 a1_1).trans h)
def zq23.ent (N : Nat) : Ent Tryz.prog T0 := mkEnt 55 [(false, [.any]), (true, [.any, .any])] zq23.sig (fun t => zq23.g N t.1 t.2.1 t.2.2) (fun t r h => zq23.good N t.1 t.2.1 t.2.2 r h)
/-! ### zq29 -/
abbrev zq29.R : Type := Int × Int × Int × Int
abbrev zq29.sig : Sig := ⟨[(false, 1), (true, 2)], [], [.int .i64, .int .i64, .int .i64], [(false, 1), (false, 1), (true, 2)], [], [.int .i64, .int .i64, .int .i64, .int .i64]⟩
def zq29.C : Cfg D0 := ⟨Tryz.prog, T0, 507, 0, 26, 0, [], 5523456, false, []⟩
def zq29.E (N : Nat) : List (Ent Tryz.prog T0) := [zq24.ent N]
def zq29.O (N : Nat) : Orc D0 zq29.R := orcOf (zq29.E N)
def zq29.K0 : Ex → St D0 → Option zq29.R := exitK zq29.C Tryz.f56.results.toList [(false, [.any]), (false, [.any]), (true, [.any, .any])] (decOut zq29.sig)
def zq29.c1 : Code := codeAt (Tryz.f56.body.getD .skip) []
def zq29.o0 (N : Nat) (a0 : Int) (a1_0 : Int) (a1_1 : Int) : Option zq29.R :=
 bif (a1_1 == 0) then
  none
 else
 (zq24.g N (w64 ((w64 (a1_0 * a0)) * 60)) a1_1).bind fun r1 =>
 some ((w64 (Int.tdiv (w64 (Int.tdiv (w64 ((w64 (a1_0 * a0)) * 60)) a1_1)) 60)), (Int.tmod (w64 (Int.tdiv (w64 ((w64 (a1_0 * a0)) * 60)) a1_1)) 60), r1.1, r1.2)
theorem zq29.o0.run (N : Nat) (a0 : Int) (a1_0 : Int) (a1_1 : Int) : runC zq29.C (zq29.O N) N zq29.c1 1 (st0 [.one (.int .i64 a0), .agg [.int .i64 a1_0, .int .i64 a1_1]] [] : St D0) zq29.K0 = zq29.o0 N a0 a1_0 a1_1 := by kernel_rfl
def zq29.g (N : Nat) (a0 : Int) (a1_0 : Int) (a1_1 : Int) : Option zq29.R := zq29.o0 N a0 a1_0 a1_1
theorem zq29.g.run (N : Nat) (a0 : Int) (a1_0 : Int) (a1_1 : Int) : runC zq29.C (zq29.O N) N zq29.c1 1 (st0 [.one (.int .i64 a0), .agg [.int .i64 a1_0, .int .i64 a1_1]] [] : St D0) zq29.K0 = zq29.g N a0 a1_0 a1_1 := by
  exact (zq29.o0.run N a0 a1_0 a1_1).trans rfl
theorem zq29.good (N : Nat) (a0 : Int) (a1_0 : Int) (a1_1 : Int) (r : zq29.R) (h : zq29.g N a0 a1_0 a1_1 = some r) : Go.PM.Good Tryz.prog T0 56 [.one (.int .i64 a0), .agg [.int .i64 a1_0, .int .i64 a1_1]] [] (zq29.sig.ret r) (zq29.sig.bs r) :=
  good_fn tabOk0 mixed0 zq29.sig (zq29.E N) Tryz.func56 (by kernel_rfl) (by kernel_rfl) 507 0 0 [] 5523456 false [] [(false, [.any]), (false, [.any]), (true, [.any, .any])] (by kernel_rfl) rfl rfl ((zq29.g.run N a0 a1_0 a1_1).trans h)
def zq29.ent (N : Nat) : Ent Tryz.prog T0 := mkEnt 56 [(false, [.any]), (true, [.any, .any])] zq29.sig (fun t => zq29.g N t.1 t.2.1 t.2.2) (fun t r h => zq29.good N t.1 t.2.1 t.2.2 r h)
/-! ### zq5 -/
abbrev zq5.R : Type := Int × Bool
abbrev zq5.sig : Sig := ⟨[(false, 1), (true, 2)], [], [.int .i64, .int .i64, .int .i64], [(false, 1), (false, 1)], [], [.int .i64, .bool]⟩
def zq5.C : Cfg D0 := ⟨Tryz.prog, T0, 4219, 0, 21, 0, [], 16896, false, []⟩
def zq5.E (N : Nat) : List (Ent Tryz.prog T0) := [zq23.ent N, zq29.ent N]
def zq5.O (N : Nat) : Orc D0 zq5.R := orcOf (zq5.E N)
def zq5.K0 : Ex → St D0 → Option zq5.R := exitK zq5.C Tryz.f29.results.toList [(false, [.any]), (false, [.any])] (decOut zq5.sig)
def zq5.c1 : Code := codeAt (Tryz.f29.body.getD .skip) []
def zq5.o0 (N : Nat) (a0 : Int) (a1_0 : Int) (a1_1 : Int) : Option zq5.R :=
 (zq23.g N a0 a1_0 a1_1).bind fun r1 =>
 bif (!r1) then
  some (0, false)
 else
 (zq29.g N a0 a1_0 a1_1).bind fun r2 =>
 some (r2.1, true)
theorem zq5.o0.run (N : Nat) (a0 : Int) (a1_0 : Int) (a1_1 : Int) : runC zq5.C (zq5.O N) N zq5.c1 1 (st0 [.one (.int .i64 a0), .agg [.int .i64 a1_0, .int .i64 a1_1]] [] : St D0) zq5.K0 = zq5.o0 N a0 a1_0 a1_1 := by kernel_rfl
def zq5.g (N : Nat) (a0 : Int) (a1_0 : Int) (a1_1 : Int) : Option zq5.R := zq5.o0 N a0 a1_0 a1_1
theorem zq5.g.run (N : Nat) (a0 : Int) (a1_0 : Int) (a1_1 : Int) : runC zq5.C (zq5.O N) N zq5.c1 1 (st0 [.one (.int .i64 a0), .agg [.int .i64 a1_0, .int .i64 a1_1]] [] : St D0) zq5.K0 = zq5.g N a0 a1_0 a1_1 := by
  exact (zq5.o0.run N a0 a1_0 a1_1).trans rfl
theorem zq5.good (N : Nat) (a0 : Int) (a1_0 : Int) (a1_1 : Int) (r : zq5.R) (h : zq5.g N a0 a1_0 a1_1 = some r) : Go.PM.Good Tryz.prog T0 29 [.one (.int .i64 a0), .agg [.int .i64 a1_0, .int .i64 a1_1]] [] (zq5.sig.ret r) (zq5.sig.bs r) :=
  good_fn tabOk0 mixed0 zq5.sig (zq5.E N) Tryz.func29 (by kernel_rfl) (by kernel_rfl) 4219 0 0 [] 16896 false [] [(false, [.any]), (false, [.any])] (by kernel_rfl) rfl rfl ((zq5.g.run N a0 a1_0 a1_1).trans h)
def zq5.ent (N : Nat) : Ent Tryz.prog T0 := mkEnt 29 [(false, [.any]), (true, [.any, .any])] zq5.sig (fun t => zq5.g N t.1 t.2.1 t.2.2) (fun t r h => zq5.good N t.1 t.2.1 t.2.2 r h)
/-! ### zq12 -/
abbrev zq12.R : Type := Int × Bool
abbrev zq12.sig : Sig := ⟨[(false, 1), (true, 2)], [], [.int .i64, .int .i64, .int .i64], [(false, 1), (false, 1)], [], [.int .i64, .bool]⟩
def zq12.C : Cfg D0 := ⟨Tryz.prog, T0, 4283, 0, 21, 0, [], 16896, false, []⟩
def zq12.E (N : Nat) : List (Ent Tryz.prog T0) := [zq23.ent N, zq29.ent N]
def zq12.O (N : Nat) : Orc D0 zq12.R := orcOf (zq12.E N)
def zq12.K0 : Ex → St D0 → Option zq12.R := exitK zq12.C Tryz.f30.results.toList [(false, [.any]), (false, [.any])] (decOut zq12.sig)
def zq12.c1 : Code := codeAt (Tryz.f30.body.getD .skip) []
def zq12.o0 (N : Nat) (a0 : Int) (a1_0 : Int) (a1_1 : Int) : Option zq12.R :=
 (zq23.g N a0 a1_0 a1_1).bind fun r1 =>
 bif (!r1) then
  some (0, false)
 else
 (zq29.g N a0 a1_0 a1_1).bind fun r2 =>
 some (r2.2.1, true)
theorem zq12.o0.run (N : Nat) (a0 : Int) (a1_0 : Int) (a1_1 : Int) : runC zq12.C (zq12.O N) N zq12.c1 1 (st0 [.one (.int .i64 a0), .agg [.int .i64 a1_0, .int .i64 a1_1]] [] : St D0) zq12.K0 = zq12.o0 N a0 a1_0 a1_1 := by kernel_rfl
def zq12.g (N : Nat) (a0 : Int) (a1_0 : Int) (a1_1 : Int) : Option zq12.R := zq12.o0 N a0 a1_0 a1_1
theorem zq12.g.run (N : Nat) (a0 : Int) (a1_0 : Int) (a1_1 : Int) : runC zq12.C (zq12.O N) N zq12.c1 1 (st0 [.one (.int .i64 a0), .agg [.int .i64 a1_0, .int .i64 a1_1]] [] : St D0) zq12.K0 = zq12.g N a0 a1_0 a1_1 := by
  exact (zq12.o0.run N a0 a1_0 a1_1).trans rfl
theorem zq12.good (N : Nat) (a0 : Int) (a1_0 : Int) (a1_1 : Int) (r : zq12.R) (h : zq12.g N a0 a1_0 a1_1 = some r) : Go.PM.Good Tryz.prog T0 30 [.one (.int .i64 a0), .agg [.int .i64 a1_0, .int .i64 a1_1]] [] (zq12.sig.ret r) (zq12.sig.bs r) :=
  good_fn tabOk0 mixed0 zq12.sig (zq12.E N) Tryz.func30 (by kernel_rfl) (by kernel_rfl) 4283 0 0 [] 16896 false [] [(false, [.any]), (false, [.any])] (by kernel_rfl) rfl rfl ((zq12.g.run N a0 a1_0 a1_1).trans h)
def zq12.ent (N : Nat) : Ent Tryz.prog T0 := mkEnt 30 [(false, [.any]), (true, [.any, .any])] zq12.sig (fun t => zq12.g N t.1 t.2.1 t.2.2) (fun t r h => zq12.good N t.1 t.2.1 t.2.2 r h)
end Go.Proofs.YtpeleommbipeaaaGreatDoor.M
namespace Go.Proofs.YtpeleommbipeaaaGreatDoor.M
open Go Go.PM Go.Proofs.YtpeleommbipeaaaGreatDoor.P
set_option linter.unusedVariables false
set_option maxRecDepth 100000
open Go.RowKit Go.Lib
/-! ### zq93 -/
theorem zq93.asd {p : Prop} (h : p) : Aside p := h
abbrev zq93.R : Type := List ByteArray
abbrev zq93.sig : Sig := ⟨[(false, 1), (false, 1)], [], [.str, .str], [(false, 1)], [], [.sl true 9]⟩
def zq93.g (N : Nat) (a0 : ByteArray) (a1 : ByteArray) : Option zq93.R := match a1.data.toList with
  | [_] => bif decide (a0.size < 4294967281) then some (Lib.splitB a1 0 (Lib.countB a0 a1) a0) else none
  | _ => none
set_option maxHeartbeats 1000000 in
theorem zq93.walk (a0 : ByteArray) (ch : UInt8) (w : World) (hs : a0.size < 4294967281) :
    Calls Tryz.prog 60 #[.string a0, .string ⟨#[ch]⟩] w fun e w' => ∃ v', e = .returned v' ∧ w'.ownsRow w.heap.size 9 1 v' (Lib.splitB ⟨#[ch]⟩ 0 (Lib.countB a0 ⟨#[ch]⟩) a0).length ((Lib.splitB ⟨#[ch]⟩ 0 (Lib.countB a0 ⟨#[ch]⟩) a0).map Value.string) ∧ Below w.heap.size w w' := by
  have h1 : 1 ≤ (⟨#[ch]⟩ : ByteArray).size := Nat.le_refl 1
  have hle := Lib.countB_le ⟨#[ch]⟩ h1 a0.size a0 (Nat.le_refl _)
  have hlen := Lib.splitB_all ⟨#[ch]⟩ h1 0 _ a0 rfl
  have hI : ∀ (x : ByteArray) (c : Array Value), x.size ≤ a0.size → Calls Tryz.prog 103 #[.string x, .string ⟨#[ch]⟩] (w.alloc (.cells c 9)) fun e w' => e = .returned (.int .i64 (Lib.indexB x ⟨#[ch]⟩)) ∧ w' = w.alloc (.cells c 9) := by
    intro x c hx
    refine (Tryz.strings_Index_one x ch _).mono ?_
    rintro e w' ⟨rfl, rfl⟩
    exact ⟨by rw [show Lib.indexB x ⟨#[ch]⟩ = Lib.index x.data.toList [ch] from rfl, Lib.index_one], rfl⟩
  have hC : Calls Tryz.prog 102 #[.string a0, .string ⟨#[ch]⟩] w fun e w' => e = .returned (.int .i64 (Lib.countB a0 ⟨#[ch]⟩)) ∧ w' = w := by
    refine (Tryz.strings_Count_one a0 ch w).mono ?_
    rintro e w' ⟨rfl, rfl⟩
    exact ⟨by rw [show Lib.countB a0 ⟨#[ch]⟩ = Lib.count a0.data.toList [ch] from rfl, Lib.count_one]; rfl, rfl⟩
  have c := Go.Proofs.Any.strings_genSplit_core Tryz.lays221 (by kernel_rfl) a0 ⟨#[ch]⟩ 0 (-1) (Lib.countB a0 ⟨#[ch]⟩ + 1) w hs h1 (Nat.zero_le _) hI hC (by decide) (by decide) (by rw [if_pos (by decide)]; omega)
  rw [Nat.add_sub_cancel, hlen] at c
  have e2 : Lib.cellsOf (Lib.splitB ⟨#[ch]⟩ 0 (Lib.countB a0 ⟨#[ch]⟩) a0) (Lib.countB a0 ⟨#[ch]⟩ + 1) = ((Lib.splitB ⟨#[ch]⟩ 0 (Lib.countB a0 ⟨#[ch]⟩) a0).map Value.string).toArray := by rw [← hlen]; exact Lib.cellsOf_full _
  rw [e2] at c
  have HC := zq93.asd (show Calls Tryz.prog 83 #[.string a0, .string ⟨#[ch]⟩, .int .i64 0, .int .i64 (-1)] w _ from c)
  have HL := zq93.asd hlen
  have HLE := zq93.asd hle
  clear c hI hC e2 hlen hle
  go_enter Tryz.func60, Tryz.ntmps60
  go_wp2_with (go_at_call 83; refine HC.out.mono ?_; rintro e w' ⟨rfl, hw⟩; have HW := zq93.asd hw; clear hw)
  go_ret
  have hw := HW.out
  have hlen := HL.out
  have hle := HLE.out
  subst hw
  refine ⟨_, rfl, ?_, (Below.refl _ _).alloc (Nat.le_refl _) _⟩
  have ho := World.ownsRow_lit (base := w.heap.size) (e := 9) (size := 1) w ((Lib.splitB ⟨#[ch]⟩ 0 (Lib.countB a0 ⟨#[ch]⟩) a0).map Value.string).toArray (Lib.countB a0 ⟨#[ch]⟩ + 1) (Nat.le_refl _) (by unfold maxLen; omega) (by simp [hlen])
  rw [hlen]
  simp at ho
  exact ho
theorem zq93.good (N : Nat) (a0 : ByteArray) (a1 : ByteArray) (r : zq93.R) (h : zq93.g N a0 a1 = some r) : Go.PM.Good Tryz.prog T0 60 [.one (.str a0), .one (.str a1)] [] (zq93.sig.ret r) (zq93.sig.bs r) := by
  obtain ⟨⟨l⟩⟩ := a1
  match l, h with
  | [ch], h =>
    obtain ⟨hc, h⟩ := bif_some (show (bif decide (a0.size < 4294967281) then some (Lib.splitB ⟨#[ch]⟩ 0 (Lib.countB a0 ⟨#[ch]⟩) a0) else none) = some r from h)
    have hc := of_decide_eq_true hc
    cases Option.some.inj h
    refine good_new tabOk0 9 ⟨_, Tryz.func60, by kernel_rfl, rfl⟩ [.one (.str a0), .one (.str ⟨#[ch]⟩)] (Lib.splitB ⟨#[ch]⟩ 0 (Lib.countB a0 ⟨#[ch]⟩) a0) ?_
    intro w C blk vargs hsz hrep hag
    have ev : vargs = #[.string a0, .string ⟨#[ch]⟩] := (args2 hsz).trans (by rw [rep_str (hrep 0), rep_str (hrep 1)])
    rw [ev]
    exact ⟨_, row_str (T := T0) (e := 9) (fun x => x) rfl (fun x => rfl), zq93.walk a0 ch w hc⟩
def zq93.ent (N : Nat) : Ent Tryz.prog T0 := mkEnt 60 [(false, [.any]), (false, [.any])] zq93.sig (fun t => zq93.g N t.1 t.2) (fun t r h => zq93.good N t.1 t.2 r h)

end Go.Proofs.YtpeleommbipeaaaGreatDoor.M
namespace Go.Proofs.YtpeleommbipeaaaGreatDoor.M
open Go Go.PM Go.Proofs.YtpeleommbipeaaaGreatDoor.P
set_option linter.unusedVariables false
set_option maxRecDepth 100000
/-! ### zq77 -/
abbrev zq77.R : Type := List ByteArray
abbrev zq77.sig : Sig := ⟨[(false, 1), (false, 1)], [], [.str, .int .u8], [(false, 1)], [], [.sl true 9]⟩
def zq77.C : Cfg D0 := ⟨Tryz.prog, T0, 264435, 0, 34, 0, [(122, [0, 1, 5, 6, 7], []), (978, [0, 1, 5, 6, 7], [])], 1685246720, false, []⟩
def zq77.E (N : Nat) : List (Ent Tryz.prog T0) := []
def zq77.O (N : Nat) : Orc D0 zq77.R := orcOf (zq77.E N)
def zq77.K0 : Ex → St D0 → Option zq77.R := exitK zq77.C Tryz.f84.results.toList [(false, [.own 9])] (decOut zq77.sig)
def zq77.c1 : Code := codeAt (Tryz.f84.body.getD .skip) []
def zq77.c2 : Code := codeAt (Tryz.f84.body.getD .skip) [false]
def zq77.c6 : Code := codeAt (Tryz.f84.body.getD .skip) [true, false]
def zq77.c14 : Code := codeAt (Tryz.f84.body.getD .skip) [true, true, false]
def zq77.c31 : Code := codeAt (Tryz.f84.body.getD .skip) [true, true, true, true]
def zq77.c60 : Code := codeAt (Tryz.f84.body.getD .skip) [true, true, true, false, false]
def zq77.c244 : Code := codeAt (Tryz.f84.body.getD .skip) [true, true, true, false, true, false, false]
def zq77.c488 : Code := codeAt (Tryz.f84.body.getD .skip) [true, true, true, false, true, false, false, false]
def zq77.c978 : Code := codeAt (Tryz.f84.body.getD .skip) [true, true, true, false, true, false, false, true, false]
def zq77.c979 : Code := codeAt (Tryz.f84.body.getD .skip) [true, true, true, false, true, false, false, true, true]
def zq77.K979 (N : Nat) (Kn122 : St D0 → Option zq77.R) : Ex → St D0 → Option zq77.R := ((fun up => (onN (fun s => zq77.C.tidy 122 s ((onN Kn122 up) .normal)) (onN Kn122 up))) (blockK 0 (onN (fun s => zq77.C.tidy 30 s (fun s' => runC zq77.C (zq77.O N) N zq77.c31 31 s' zq77.K0)) zq77.K0)))
def zq77.o2 (N : Nat) (v0 : ByteArray) (v1 : Int) (v2 : List ByteArray) (v3 : Int) (v4 : Int) (c4 : ByteArray → Int → (List ByteArray) → Int → Int → Option zq77.R) : Option zq77.R :=
 c4 v0 v1 v2 v3 (w64 (v4 + 1))
theorem zq77.o2.run (N : Nat) (Kn122 : St D0 → Option zq77.R) (v0 : ByteArray) (v1 : Int) (v2 : List ByteArray) (v3 : Int) (v4 : Int) : runC zq77.C (zq77.O N) N zq77.c979 979 (mkSt [(0, .one (.str v0)), (1, .one (.int .u8 v1)), (5, .one (.sl true 9 v2)), (6, .one (.int .i64 v3)), (7, .one (.int .i64 v4))] [] : St D0) ((fun up => (onN (fun s => zq77.C.tidy 122 s ((onN Kn122 up) .normal)) (onN Kn122 up))) (blockK 0 (onN (fun s => zq77.C.tidy 30 s (fun s' => runC zq77.C (zq77.O N) N zq77.c31 31 s' zq77.K0)) zq77.K0))) = zq77.o2 N v0 v1 v2 v3 v4 ((fun w0 w1 w2 w3 w4 => Kn122 (mkSt [(0, .one (.str w0)), (1, .one (.int .u8 w1)), (5, .one (.sl true 9 w2)), (6, .one (.int .i64 w3)), (7, .one (.int .i64 w4))] [] : St D0))) := by kernel_rfl
def zq77.d2 (N : Nat) (v0 : ByteArray) (v1 : Int) (v2 : List ByteArray) (v3 : Int) (v4 : Int) (c4 : ByteArray → Int → (List ByteArray) → Int → Int → Option zq77.R) : Option zq77.R := zq77.o2 N v0 v1 v2 v3 v4 c4
theorem zq77.d2.run (N : Nat) (Kn122 : St D0 → Option zq77.R) (v0 : ByteArray) (v1 : Int) (v2 : List ByteArray) (v3 : Int) (v4 : Int) : runC zq77.C (zq77.O N) N zq77.c979 979 (mkSt [(0, .one (.str v0)), (1, .one (.int .u8 v1)), (5, .one (.sl true 9 v2)), (6, .one (.int .i64 v3)), (7, .one (.int .i64 v4))] [] : St D0) (zq77.K979 N Kn122) = zq77.d2 N v0 v1 v2 v3 v4 ((fun w0 w1 w2 w3 w4 => Kn122 (mkSt [(0, .one (.str w0)), (1, .one (.int .u8 w1)), (5, .one (.sl true 9 w2)), (6, .one (.int .i64 w3)), (7, .one (.int .i64 w4))] [] : St D0))) := by
  exact (zq77.o2.run N Kn122 v0 v1 v2 v3 v4).trans rfl
def zq77.o3 (N : Nat) (v0 : ByteArray) (v1 : Int) (v2 : Int) (v3 : Int) (c1 : ByteArray → Int → Int → Int → Option zq77.R) : Option zq77.R :=
 c1 v0 v1 v2 (w64 (v3 + 1))
theorem zq77.o3.run (N : Nat) (Kn122 : St D0 → Option zq77.R) (v0 : ByteArray) (v1 : Int) (v2 : Int) (v3 : Int) : runC zq77.C (zq77.O N) N zq77.c979 979 (mkSt [(0, .one (.str v0)), (1, .one (.int .u8 v1)), (5, .one (.nl)), (6, .one (.int .i64 v2)), (7, .one (.int .i64 v3))] [] : St D0) ((fun up => (onN (fun s => zq77.C.tidy 122 s ((onN Kn122 up) .normal)) (onN Kn122 up))) (blockK 0 (onN (fun s => zq77.C.tidy 30 s (fun s' => runC zq77.C (zq77.O N) N zq77.c31 31 s' zq77.K0)) zq77.K0))) = zq77.o3 N v0 v1 v2 v3 ((fun w0 w1 w2 w3 => Kn122 (mkSt [(0, .one (.str w0)), (1, .one (.int .u8 w1)), (5, .one (.nl)), (6, .one (.int .i64 w2)), (7, .one (.int .i64 w3))] [] : St D0))) := by kernel_rfl
def zq77.d3 (N : Nat) (v0 : ByteArray) (v1 : Int) (v2 : Int) (v3 : Int) (c1 : ByteArray → Int → Int → Int → Option zq77.R) : Option zq77.R := zq77.o3 N v0 v1 v2 v3 c1
theorem zq77.d3.run (N : Nat) (Kn122 : St D0 → Option zq77.R) (v0 : ByteArray) (v1 : Int) (v2 : Int) (v3 : Int) : runC zq77.C (zq77.O N) N zq77.c979 979 (mkSt [(0, .one (.str v0)), (1, .one (.int .u8 v1)), (5, .one (.nl)), (6, .one (.int .i64 v2)), (7, .one (.int .i64 v3))] [] : St D0) (zq77.K979 N Kn122) = zq77.d3 N v0 v1 v2 v3 ((fun w0 w1 w2 w3 => Kn122 (mkSt [(0, .one (.str w0)), (1, .one (.int .u8 w1)), (5, .one (.nl)), (6, .one (.int .i64 w2)), (7, .one (.int .i64 w3))] [] : St D0))) := by
  exact (zq77.o3.run N Kn122 v0 v1 v2 v3).trans rfl
def zq77.K244 (N : Nat) (Kn122 : St D0 → Option zq77.R) : Ex → St D0 → Option zq77.R := ((fun up => (onN (fun s => zq77.C.tidy 122 s ((onN Kn122 up) .normal)) (onN Kn122 up))) (blockK 0 (onN (fun s => zq77.C.tidy 30 s (fun s' => runC zq77.C (zq77.O N) N zq77.c31 31 s' zq77.K0)) zq77.K0)))
def zq77.o1 (N : Nat) (v0 : ByteArray) (v1 : Int) (v2 : Int) (v3 : Int) (c2 : ByteArray → Int → (List ByteArray) → Int → Int → Option zq77.R) (c3 : ByteArray → Int → Int → Int → Option zq77.R) : Option zq77.R :=
 bif (decide (v3 < (v0.size : Int))) then
  bif (decide (0 ≤ v3)) then
   bif (decide (v3 < (v0.size : Int))) then
    bif ((bt v0 v3) == v1) then
     bif (decide (0 ≤ v3)) then
      bif (decide (v3 ≤ (v0.size : Int))) then
       bif (decide (0 ≤ v2)) then
        bif (decide (v2 ≤ v3)) then
         bif (Nat.blt (([] : List ByteArray).length + ([(v0.extract (v2 : Int).toNat (v3 : Int).toNat)] : List ByteArray).length) 8796093022208) then
          c2 v0 v1 (([] : List ByteArray) ++ ([(v0.extract (v2 : Int).toNat (v3 : Int).toNat)] : List ByteArray)) (w64 (v3 + 1)) v3
         else
         none
        else
        none
       else
       none
      else
      none
     else
     none
    else
    c3 v0 v1 v2 v3
   else
   none
  else
  none
 else
 bif (decide (0 ≤ (v0.size : Int))) then
  bif (decide ((v0.size : Int) ≤ (v0.size : Int))) then
   bif (decide (0 ≤ v2)) then
    bif (decide (v2 ≤ (v0.size : Int))) then
     bif (Nat.blt (([] : List ByteArray).length + ([(v0.extract (v2 : Int).toNat ((v0.size : Int) : Int).toNat)] : List ByteArray).length) 8796093022208) then
      some ((([] : List ByteArray) ++ ([(v0.extract (v2 : Int).toNat ((v0.size : Int) : Int).toNat)] : List ByteArray)))
     else
     none
    else
    none
   else
   none
  else
  none
 else
 none
theorem zq77.o1.run (N : Nat) (Kn122 : St D0 → Option zq77.R) (H979 : Code) (v0 : ByteArray) (v1 : Int) (v2 : Int) (v3 : Int) : runC zq77.C (zq77.O N) N (.seq zq77.c488 (.seq zq77.c978 H979)) 244 (mkSt [(0, .one (.str v0)), (1, .one (.int .u8 v1)), (5, .one (.nl)), (6, .one (.int .i64 v2)), (7, .one (.int .i64 v3))] [] : St D0) ((fun up => (onN (fun s => zq77.C.tidy 122 s ((onN Kn122 up) .normal)) (onN Kn122 up))) (blockK 0 (onN (fun s => zq77.C.tidy 30 s (fun s' => runC zq77.C (zq77.O N) N zq77.c31 31 s' zq77.K0)) zq77.K0))) = zq77.o1 N v0 v1 v2 v3 ((fun w0 w1 w2 w3 w4 => runC zq77.C (zq77.O N) N H979 979 (mkSt [(0, .one (.str w0)), (1, .one (.int .u8 w1)), (5, .one (.sl true 9 w2)), (6, .one (.int .i64 w3)), (7, .one (.int .i64 w4))] [] : St D0) ((fun up => (onN (fun s => zq77.C.tidy 122 s ((onN Kn122 up) .normal)) (onN Kn122 up))) (blockK 0 (onN (fun s => zq77.C.tidy 30 s (fun s' => runC zq77.C (zq77.O N) N zq77.c31 31 s' zq77.K0)) zq77.K0))))) ((fun w0 w1 w2 w3 => runC zq77.C (zq77.O N) N H979 979 (mkSt [(0, .one (.str w0)), (1, .one (.int .u8 w1)), (5, .one (.nl)), (6, .one (.int .i64 w2)), (7, .one (.int .i64 w3))] [] : St D0) ((fun up => (onN (fun s => zq77.C.tidy 122 s ((onN Kn122 up) .normal)) (onN Kn122 up))) (blockK 0 (onN (fun s => zq77.C.tidy 30 s (fun s' => runC zq77.C (zq77.O N) N zq77.c31 31 s' zq77.K0)) zq77.K0))))) := by kernel_rfl
def zq77.d1 (N : Nat) (v0 : ByteArray) (v1 : Int) (v2 : Int) (v3 : Int) (c1 : ByteArray → Int → Int → Int → Option zq77.R) (c4 : ByteArray → Int → (List ByteArray) → Int → Int → Option zq77.R) : Option zq77.R := zq77.o1 N v0 v1 v2 v3 ((fun w0 w1 w2 w3 w4 => zq77.d2 N w0 w1 w2 w3 w4 c4)) ((fun w0 w1 w2 w3 => zq77.d3 N w0 w1 w2 w3 c1))
theorem zq77.c244_1 : zq77.c244 = (.seq zq77.c488 (.seq zq77.c978 zq77.c979)) := by kernel_rfl
theorem zq77.d1.run (N : Nat) (Kn122 : St D0 → Option zq77.R) (v0 : ByteArray) (v1 : Int) (v2 : Int) (v3 : Int) : runC zq77.C (zq77.O N) N zq77.c244 244 (mkSt [(0, .one (.str v0)), (1, .one (.int .u8 v1)), (5, .one (.nl)), (6, .one (.int .i64 v2)), (7, .one (.int .i64 v3))] [] : St D0) (zq77.K244 N Kn122) = zq77.d1 N v0 v1 v2 v3 ((fun w0 w1 w2 w3 => Kn122 (mkSt [(0, .one (.str w0)), (1, .one (.int .u8 w1)), (5, .one (.nl)), (6, .one (.int .i64 w2)), (7, .one (.int .i64 w3))] [] : St D0))) ((fun w0 w1 w2 w3 w4 => Kn122 (mkSt [(0, .one (.str w0)), (1, .one (.int .u8 w1)), (5, .one (.sl true 9 w2)), (6, .one (.int .i64 w3)), (7, .one (.int .i64 w4))] [] : St D0))) := by
  rw [zq77.c244_1]; unfold zq77.d1; exact (zq77.o1.run N Kn122 zq77.c979 v0 v1 v2 v3).trans (congr (congr rfl (funext fun w0 => funext fun w1 => funext fun w2 => funext fun w3 => funext fun w4 => zq77.d2.run N Kn122 w0 w1 w2 w3 w4)) (funext fun w0 => funext fun w1 => funext fun w2 => funext fun w3 => zq77.d3.run N Kn122 w0 w1 w2 w3))
def zq77.o4 (N : Nat) (v0 : ByteArray) (v1 : Int) (v2 : List ByteArray) (v3 : Int) (v4 : Int) (c2 : ByteArray → Int → (List ByteArray) → Int → Int → Option zq77.R) : Option zq77.R :=
 bif (decide (v4 < (v0.size : Int))) then
  bif (decide (0 ≤ v4)) then
   bif (decide (v4 < (v0.size : Int))) then
    bif ((bt v0 v4) == v1) then
     bif (decide (0 ≤ v4)) then
      bif (decide (v4 ≤ (v0.size : Int))) then
       bif (decide (0 ≤ v3)) then
        bif (decide (v3 ≤ v4)) then
         bif (Nat.blt (v2.length + ([(v0.extract (v3 : Int).toNat (v4 : Int).toNat)] : List ByteArray).length) 8796093022208) then
          c2 v0 v1 (v2 ++ ([(v0.extract (v3 : Int).toNat (v4 : Int).toNat)] : List ByteArray)) (w64 (v4 + 1)) v4
         else
         none
        else
        none
       else
       none
      else
      none
     else
     none
    else
    c2 v0 v1 v2 v3 v4
   else
   none
  else
  none
 else
 bif (decide (0 ≤ (v0.size : Int))) then
  bif (decide ((v0.size : Int) ≤ (v0.size : Int))) then
   bif (decide (0 ≤ v3)) then
    bif (decide (v3 ≤ (v0.size : Int))) then
     bif (Nat.blt (v2.length + ([(v0.extract (v3 : Int).toNat ((v0.size : Int) : Int).toNat)] : List ByteArray).length) 8796093022208) then
      some ((v2 ++ ([(v0.extract (v3 : Int).toNat ((v0.size : Int) : Int).toNat)] : List ByteArray)))
     else
     none
    else
    none
   else
   none
  else
  none
 else
 none
theorem zq77.o4.run (N : Nat) (Kn122 : St D0 → Option zq77.R) (H979 : Code) (v0 : ByteArray) (v1 : Int) (v2 : List ByteArray) (v3 : Int) (v4 : Int) : runC zq77.C (zq77.O N) N (.seq zq77.c488 (.seq zq77.c978 H979)) 244 (mkSt [(0, .one (.str v0)), (1, .one (.int .u8 v1)), (5, .one (.sl true 9 v2)), (6, .one (.int .i64 v3)), (7, .one (.int .i64 v4))] [] : St D0) ((fun up => (onN (fun s => zq77.C.tidy 122 s ((onN Kn122 up) .normal)) (onN Kn122 up))) (blockK 0 (onN (fun s => zq77.C.tidy 30 s (fun s' => runC zq77.C (zq77.O N) N zq77.c31 31 s' zq77.K0)) zq77.K0))) = zq77.o4 N v0 v1 v2 v3 v4 ((fun w0 w1 w2 w3 w4 => runC zq77.C (zq77.O N) N H979 979 (mkSt [(0, .one (.str w0)), (1, .one (.int .u8 w1)), (5, .one (.sl true 9 w2)), (6, .one (.int .i64 w3)), (7, .one (.int .i64 w4))] [] : St D0) ((fun up => (onN (fun s => zq77.C.tidy 122 s ((onN Kn122 up) .normal)) (onN Kn122 up))) (blockK 0 (onN (fun s => zq77.C.tidy 30 s (fun s' => runC zq77.C (zq77.O N) N zq77.c31 31 s' zq77.K0)) zq77.K0))))) := by kernel_rfl
def zq77.d4 (N : Nat) (v0 : ByteArray) (v1 : Int) (v2 : List ByteArray) (v3 : Int) (v4 : Int) (c4 : ByteArray → Int → (List ByteArray) → Int → Int → Option zq77.R) : Option zq77.R := zq77.o4 N v0 v1 v2 v3 v4 ((fun w0 w1 w2 w3 w4 => zq77.d2 N w0 w1 w2 w3 w4 c4))
theorem zq77.c244_4 : zq77.c244 = (.seq zq77.c488 (.seq zq77.c978 zq77.c979)) := by kernel_rfl
theorem zq77.d4.run (N : Nat) (Kn122 : St D0 → Option zq77.R) (v0 : ByteArray) (v1 : Int) (v2 : List ByteArray) (v3 : Int) (v4 : Int) : runC zq77.C (zq77.O N) N zq77.c244 244 (mkSt [(0, .one (.str v0)), (1, .one (.int .u8 v1)), (5, .one (.sl true 9 v2)), (6, .one (.int .i64 v3)), (7, .one (.int .i64 v4))] [] : St D0) (zq77.K244 N Kn122) = zq77.d4 N v0 v1 v2 v3 v4 ((fun w0 w1 w2 w3 w4 => Kn122 (mkSt [(0, .one (.str w0)), (1, .one (.int .u8 w1)), (5, .one (.sl true 9 w2)), (6, .one (.int .i64 w3)), (7, .one (.int .i64 w4))] [] : St D0))) := by
  rw [zq77.c244_4]; unfold zq77.d4; exact (zq77.o4.run N Kn122 zq77.c979 v0 v1 v2 v3 v4).trans (congr rfl (funext fun w0 => funext fun w1 => funext fun w2 => funext fun w3 => funext fun w4 => zq77.d2.run N Kn122 w0 w1 w2 w3 w4))
def zq77.K122 (N : Nat) : Ex → St D0 → Option zq77.R := (blockK 0 (onN (fun s => zq77.C.tidy 30 s (fun s' => runC zq77.C (zq77.O N) N zq77.c31 31 s' zq77.K0)) zq77.K0))
mutual
def zq77.l1 (N : Nat) : Nat → ByteArray → Int → Int → Int → Option zq77.R
  | 0, _, _, _, _ => none
  | n + 1, v0, v1, v2, v3 => zq77.d1 N v0 v1 v2 v3 ((fun w0 w1 w2 w3 => zq77.l1 N n w0 w1 w2 w3)) ((fun w0 w1 w2 w3 w4 => zq77.l4 N n w0 w1 w2 w3 w4))
def zq77.l4 (N : Nat) : Nat → ByteArray → Int → (List ByteArray) → Int → Int → Option zq77.R
  | 0, _, _, _, _, _ => none
  | n + 1, v0, v1, v2, v3, v4 => zq77.d4 N v0 v1 v2 v3 v4 ((fun w0 w1 w2 w3 w4 => zq77.l4 N n w0 w1 w2 w3 w4))
end
theorem zq77.loop122 (N : Nat) : ∀ n, (∀ (v0 : ByteArray) (v1 : Int) (v2 : Int) (v3 : Int), iter (loopF zq77.C (zq77.O N) N zq77.c244 122) n (mkSt [(0, .one (.str v0)), (1, .one (.int .u8 v1)), (5, .one (.nl)), (6, .one (.int .i64 v2)), (7, .one (.int .i64 v3))] [] : St D0) (zq77.K122 N) = zq77.l1 N n v0 v1 v2 v3) ∧ (∀ (v0 : ByteArray) (v1 : Int) (v2 : List ByteArray) (v3 : Int) (v4 : Int), iter (loopF zq77.C (zq77.O N) N zq77.c244 122) n (mkSt [(0, .one (.str v0)), (1, .one (.int .u8 v1)), (5, .one (.sl true 9 v2)), (6, .one (.int .i64 v3)), (7, .one (.int .i64 v4))] [] : St D0) (zq77.K122 N) = zq77.l4 N n v0 v1 v2 v3 v4)
  | 0 => ⟨(fun v0 v1 v2 v3 => rfl), (fun v0 v1 v2 v3 v4 => rfl)⟩
  | n + 1 => ⟨(fun v0 v1 v2 v3 => (zq77.d1.run N (fun s => iter (loopF zq77.C (zq77.O N) N zq77.c244 122) n s (zq77.K122 N)) v0 v1 v2 v3).trans (show _ = zq77.d1 N v0 v1 v2 v3 ((fun w0 w1 w2 w3 => zq77.l1 N n w0 w1 w2 w3)) ((fun w0 w1 w2 w3 w4 => zq77.l4 N n w0 w1 w2 w3 w4)) from (congr (congr rfl (funext fun w0 => funext fun w1 => funext fun w2 => funext fun w3 => (zq77.loop122 N n).1 w0 w1 w2 w3)) (funext fun w0 => funext fun w1 => funext fun w2 => funext fun w3 => funext fun w4 => (zq77.loop122 N n).2 w0 w1 w2 w3 w4)))), (fun v0 v1 v2 v3 v4 => (zq77.d4.run N (fun s => iter (loopF zq77.C (zq77.O N) N zq77.c244 122) n s (zq77.K122 N)) v0 v1 v2 v3 v4).trans (show _ = zq77.d4 N v0 v1 v2 v3 v4 ((fun w0 w1 w2 w3 w4 => zq77.l4 N n w0 w1 w2 w3 w4)) from (congr rfl (funext fun w0 => funext fun w1 => funext fun w2 => funext fun w3 => funext fun w4 => (zq77.loop122 N n).2 w0 w1 w2 w3 w4))))⟩
def zq77.o0 (N : Nat) (a0 : ByteArray) (a1 : Int) (c1 : ByteArray → Int → Int → Int → Option zq77.R) : Option zq77.R :=
 c1 a0 a1 0 0
theorem zq77.o0.run (N : Nat) (H244 : Code) (a0 : ByteArray) (a1 : Int) : runC zq77.C (zq77.O N) N (.seq zq77.c2 (.seq zq77.c6 (.seq zq77.c14 (.seq (.seq zq77.c60 (.block 0 (.loop H244))) zq77.c31)))) 1 (st0 [.one (.str a0), .one (.int .u8 a1)] [] : St D0) zq77.K0 = zq77.o0 N a0 a1 ((fun w0 w1 w2 w3 => iter (loopF zq77.C (zq77.O N) N H244 122) N (mkSt [(0, .one (.str w0)), (1, .one (.int .u8 w1)), (5, .one (.nl)), (6, .one (.int .i64 w2)), (7, .one (.int .i64 w3))] [] : St D0) (blockK 0 (onN (fun s => zq77.C.tidy 30 s (fun s' => runC zq77.C (zq77.O N) N zq77.c31 31 s' zq77.K0)) zq77.K0)))) := by kernel_rfl
def zq77.g (N : Nat) (a0 : ByteArray) (a1 : Int) : Option zq77.R := zq77.o0 N a0 a1 ((fun w0 w1 w2 w3 => zq77.l1 N N w0 w1 w2 w3))
theorem zq77.c1_0 : zq77.c1 = (.seq zq77.c2 (.seq zq77.c6 (.seq zq77.c14 (.seq (.seq zq77.c60 (.block 0 (.loop zq77.c244))) zq77.c31)))) := by kernel_rfl
theorem zq77.g.run (N : Nat) (a0 : ByteArray) (a1 : Int) : runC zq77.C (zq77.O N) N zq77.c1 1 (st0 [.one (.str a0), .one (.int .u8 a1)] [] : St D0) zq77.K0 = zq77.g N a0 a1 := by
  rw [zq77.c1_0]; unfold zq77.g; exact (zq77.o0.run N zq77.c244 a0 a1).trans (congr rfl (funext fun w0 => funext fun w1 => funext fun w2 => funext fun w3 => (zq77.loop122 N N).1 w0 w1 w2 w3))
theorem zq77.good (N : Nat) (a0 : ByteArray) (a1 : Int) (r : zq77.R) (h : zq77.g N a0 a1 = some r) : Go.PM.Good Tryz.prog T0 84 [.one (.str a0), .one (.int .u8 a1)] [] (zq77.sig.ret r) (zq77.sig.bs r) :=
  good_fn tabOk0 mixed0 zq77.sig (zq77.E N) Tryz.func84 (by kernel_rfl) (by kernel_rfl) 264435 0 0 [(122, [0, 1, 5, 6, 7], []), (978, [0, 1, 5, 6, 7], [])] 1685246720 false [] [(false, [.own 9])] (by kernel_rfl) rfl rfl ((zq77.g.run N a0 a1).trans h)
def zq77.ent (N : Nat) : Ent Tryz.prog T0 := mkEnt 84 [(false, [.any]), (false, [.any])] zq77.sig (fun t => zq77.g N t.1 t.2) (fun t r h => zq77.good N t.1 t.2 r h)
end Go.Proofs.YtpeleommbipeaaaGreatDoor.M
namespace Go.Proofs.YtpeleommbipeaaaGreatDoor.M
open Go Go.PM Go.Proofs.YtpeleommbipeaaaGreatDoor.P
set_option linter.unusedVariables false
set_option maxRecDepth 100000
open Go.RowKit Go.Lib
/-! ### zq90 -/
abbrev zq90.R : Type := ByteArray
abbrev zq90.sig : Sig := ⟨[(false, 1)], [], [.int .i64], [(false, 1)], [], [.str]⟩
def zq90.g (N : Nat) (a0 : Int) : Option zq90.R := bif decide (0 ≤ a0) && decide (a0 < 100) then some ⟨(Lib.decDigits a0.toNat).toArray⟩ else none
theorem zq90.good (N : Nat) (a0 : Int) (r : zq90.R) (h : zq90.g N a0 = some r) : Go.PM.Good Tryz.prog T0 75 [.one (.int .i64 a0)] [] (zq90.sig.ret r) (zq90.sig.bs r) := by
  obtain ⟨hc, h⟩ := bif_some h
  simp only [Bool.and_eq_true, decide_eq_true_eq] at hc
  cases Option.some.inj h
  obtain ⟨n, rfl⟩ := Int.eq_ofNat_of_zero_le hc.1
  refine good_flat ⟨_, Tryz.func75, by kernel_rfl, rfl⟩ _ (.str _) ?_
  intro w C blk vargs hsz hrep hag
  have ev : vargs = #[.int .i64 n] := (args1 hsz).trans (by rw [rep_int (hrep 0)])
  rw [ev]
  refine (Tryz.strconv_Itoa_small n (by omega) w).mono ?_
  rintro e w' ⟨rfl, rfl⟩
  exact ⟨rfl, Below.refl _ _⟩
def zq90.ent (N : Nat) : Ent Tryz.prog T0 := mkEnt 75 [(false, [.any])] zq90.sig (fun t => zq90.g N t) (fun t r h => zq90.good N t r h)

/-! ### zq92 -/
abbrev zq92.R : Type := ByteArray
abbrev zq92.sig : Sig := ⟨[(false, 1), (false, 1)], [], [.sl false 9, .str], [(false, 1)], [], [.str]⟩
def zq92.g (N : Nat) (a0 : List ByteArray) (a1 : ByteArray) : Option zq92.R := bif decide ((Lib.join (a0.map (·.data.toList)) a1.data.toList).length ≤ 140737488355328 ∧ a0.length ≤ 140737488355328) then some ⟨(Lib.join (a0.map (·.data.toList)) a1.data.toList).toArray⟩ else none
theorem zq92.good (N : Nat) (a0 : List ByteArray) (a1 : ByteArray) (r : zq92.R) (h : zq92.g N a0 a1 = some r) : Go.PM.Good Tryz.prog T0 76 [.one (.sl false 9 a0), .one (.str a1)] [] (zq92.sig.ret r) (zq92.sig.bs r) := by
  unfold zq92.g at h
  obtain ⟨hc, h⟩ := bif_some h
  have hc := of_decide_eq_true hc
  cases Option.some.inj h
  refine good_flat ⟨_, Tryz.func76, by kernel_rfl, rfl⟩ _ (.str _) ?_
  intro w C blk vargs hsz hrep hag
  have e1 := rep_str (hrep 1)
  obtain ⟨A, cp, b, o, vals, e0, hcp, hA, hC, hR⟩ := inv_sl (T := T0) (e := 9) (xs := a0) (own := false) (hrep 0)
  have ev : vargs = #[.slice A a0.length cp, .string a1] := (args2 hsz).trans (by rw [e0, e1])
  rw [ev]
  cases a0 with
  | nil =>
    refine (Tryz.strings_Join_none A cp a1 w).mono ?_
    rintro e w' ⟨rfl, rfl⟩
    exact ⟨rfl, Below.refl _ _⟩
  | cons x xs =>
    have hA' := hA (by simp)
    subst hA'
    have hcell : ∀ (j : Nat) y, (x :: xs)[j]? = some y → w.cell? ⟨b, o + j, none⟩ = some (.string y) := by
      intro j y hj
      have h1 := hC j y 0 (.str y) hj rfl
      have h2 := hR j y 0 (.str y) hj rfl
      have h3 := hag _ _ _ h1
      rw [show vals j 0 = .string y from inv_str (C := C) (blk := blk) h2] at h3
      rw [← h3]
      show _ = w.cell? ⟨b, o + j * 1 + 0, none⟩
      rw [Nat.mul_one, Nat.add_zero]
    have hb : b < w.heap.size := World.block_lt_of_cell? w _ (hcell 0 x rfl)
    refine (Tryz.strings_Join b o cp (x :: xs) a1 w hcell hb hc.2 hcp hc.1).mono ?_
    rintro e w' ⟨rfl, hB⟩
    exact ⟨rfl, hB⟩
def zq92.ent (N : Nat) : Ent Tryz.prog T0 := mkEnt 76 [(false, [.ro 9]), (false, [.any])] zq92.sig (fun t => zq92.g N t.1 t.2) (fun t r h => zq92.good N t.1 t.2 r h)
end Go.Proofs.YtpeleommbipeaaaGreatDoor.M
end
