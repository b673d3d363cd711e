/- What the program's functions compute, walked by the machine (part 3). No conditions but those stated. -/
import Derived.Test.YtccjoegnkiaibaaGreatDoorFnFnHandsStand2
noncomputable section
namespace Go.Proofs.YtccjoegnkiaibaaGreatDoor.M
open Go Go.PM Go.Proofs.YtccjoegnkiaibaaGreatDoor.P
set_option linter.unusedVariables false
set_option maxRecDepth 100000
/-! ### zq32 -/
abbrev zq32.R : Type := Bool
abbrev zq32.sig : Sig := ⟨[(false, 1), (false, 1)], [], [.sl false 5, .sl false 5], [(false, 1)], [], [.bool]⟩
def zq32.C : Cfg D0 := ⟨Tryz.prog, T0, 628490996716060355466812939843083566587608011406553872077417028707003827188017703402115912280389141637367297204015332666845455697344824833073731506012147, 0, 520, 0, [(4194300, [1, 5, 6, 7, 8, 11, 15, 19, 23, 27, 31, 32, 35, 289], [6, 7, 11, 15, 27]), (4194302, [1, 5, 6, 31, 32], [6]), (8388606, [1], []), (134217704, [1, 5, 6, 31, 379], [6]), (268435372, [1, 5, 6, 19, 23, 27, 31, 32, 342], [6, 27]), (268435414, [1, 5, 6, 380, 381, 382], [6]), (2147483644, [48, 49, 50, 51, 52, 53, 56, 57, 58, 59, 457], [52, 58]), (2147483646, [56, 57, 58, 59], [58]), (68719466086, [1, 5, 6, 380, 381, 382, 398], [6]), (137438953390, [56, 57, 58, 59, 506], [58])], 645257359461101105041356441578823832060643151515200176783949113222210981242815497614289764041101715204897998999846749726697112919854600419081553257009512448, false, []⟩
def zq32.E (N : Nat) : List (Ent Tryz.prog T0) := [zq33.ent N, zq39.ent N, zq6.ent N, zq43.ent N, zq3.ent N, zq38.ent N, zq10.ent N, zq47.ent N, zq4.ent N, zq42.ent N, zq7.ent N, zq44.ent N, zq9.ent N, zq46.ent N, zq13.ent N, zq50.ent N, zq12.ent N, zq49.ent N, zq35.ent N, zq2.ent N, zq8.ent N, zq34.ent N, zq41.ent N, zq11.ent N, zq48.ent N, zq40.ent N, zq45.ent N]
def zq32.O (N : Nat) : Orc D0 zq32.R := orcOf (zq32.E N)
def zq32.K0 : Ex → St D0 → Option zq32.R := exitK zq32.C Tryz.f3.results.toList [(false, [.any])] (decOut zq32.sig)
def zq32.c1 : Code := codeAt (Tryz.f3.body.getD .skip) []
def zq32.c2 : Code := codeAt (Tryz.f3.body.getD .skip) [false]
def zq32.c6 : Code := codeAt (Tryz.f3.body.getD .skip) [true, false]
def zq32.c14 : Code := codeAt (Tryz.f3.body.getD .skip) [true, true, false]
def zq32.c30 : Code := codeAt (Tryz.f3.body.getD .skip) [true, true, true, false]
def zq32.c62 : Code := codeAt (Tryz.f3.body.getD .skip) [true, true, true, true, false]
def zq32.c126 : Code := codeAt (Tryz.f3.body.getD .skip) [true, true, true, true, true, false]
def zq32.c254 : Code := codeAt (Tryz.f3.body.getD .skip) [true, true, true, true, true, true, false]
def zq32.c510 : Code := codeAt (Tryz.f3.body.getD .skip) [true, true, true, true, true, true, true, false]
def zq32.c1022 : Code := codeAt (Tryz.f3.body.getD .skip) [true, true, true, true, true, true, true, true, false]
def zq32.c2046 : Code := codeAt (Tryz.f3.body.getD .skip) [true, true, true, true, true, true, true, true, true, false]
def zq32.c4094 : Code := codeAt (Tryz.f3.body.getD .skip) [true, true, true, true, true, true, true, true, true, true, false]
def zq32.c8190 : Code := codeAt (Tryz.f3.body.getD .skip) [true, true, true, true, true, true, true, true, true, true, true, false]
def zq32.c16382 : Code := codeAt (Tryz.f3.body.getD .skip) [true, true, true, true, true, true, true, true, true, true, true, true, false]
def zq32.c32766 : Code := codeAt (Tryz.f3.body.getD .skip) [true, true, true, true, true, true, true, true, true, true, true, true, true, false]
def zq32.c65534 : Code := codeAt (Tryz.f3.body.getD .skip) [true, true, true, true, true, true, true, true, true, true, true, true, true, true, false]
def zq32.c131070 : Code := codeAt (Tryz.f3.body.getD .skip) [true, true, true, true, true, true, true, true, true, true, true, true, true, true, true, false]
def zq32.c262142 : Code := codeAt (Tryz.f3.body.getD .skip) [true, true, true, true, true, true, true, true, true, true, true, true, true, true, true, true, false]
def zq32.c524286 : Code := codeAt (Tryz.f3.body.getD .skip) [true, true, true, true, true, true, true, true, true, true, true, true, true, true, true, true, true, false]
def zq32.c1048574 : Code := codeAt (Tryz.f3.body.getD .skip) [true, true, true, true, true, true, true, true, true, true, true, true, true, true, true, true, true, true, false]
def zq32.c2097151 : Code := codeAt (Tryz.f3.body.getD .skip) [true, true, true, true, true, true, true, true, true, true, true, true, true, true, true, true, true, true, true, true]
def zq32.c4194300 : Code := codeAt (Tryz.f3.body.getD .skip) [true, true, true, true, true, true, true, true, true, true, true, true, true, true, true, true, true, true, true, false, false]
def zq32.c4194301 : Code := codeAt (Tryz.f3.body.getD .skip) [true, true, true, true, true, true, true, true, true, true, true, true, true, true, true, true, true, true, true, false, true]
def zq32.c4194303 : Code := codeAt (Tryz.f3.body.getD .skip) [true, true, true, true, true, true, true, true, true, true, true, true, true, true, true, true, true, true, true, true, true]
def zq32.c8388604 : Code := codeAt (Tryz.f3.body.getD .skip) [true, true, true, true, true, true, true, true, true, true, true, true, true, true, true, true, true, true, true, true, false, false]
def zq32.c8388607 : Code := codeAt (Tryz.f3.body.getD .skip) [true, true, true, true, true, true, true, true, true, true, true, true, true, true, true, true, true, true, true, true, true, true]
def zq32.c16777211 : Code := codeAt (Tryz.f3.body.getD .skip) [true, true, true, true, true, true, true, true, true, true, true, true, true, true, true, true, true, true, true, true, false, true, true]
def zq32.c16777212 : Code := codeAt (Tryz.f3.body.getD .skip) [true, true, true, true, true, true, true, true, true, true, true, true, true, true, true, true, true, true, true, true, true, false, false]
def zq32.c16777214 : Code := codeAt (Tryz.f3.body.getD .skip) [true, true, true, true, true, true, true, true, true, true, true, true, true, true, true, true, true, true, true, true, true, true, false]
def zq32.c33554420 : Code := codeAt (Tryz.f3.body.getD .skip) [true, true, true, true, true, true, true, true, true, true, true, true, true, true, true, true, true, true, true, true, false, true, false, false]
def zq32.c33554427 : Code := codeAt (Tryz.f3.body.getD .skip) [true, true, true, true, true, true, true, true, true, true, true, true, true, true, true, true, true, true, true, true, true, false, true, true]
def zq32.c33554430 : Code := codeAt (Tryz.f3.body.getD .skip) [true, true, true, true, true, true, true, true, true, true, true, true, true, true, true, true, true, true, true, true, true, true, true, false]
def zq32.c67108842 : Code := codeAt (Tryz.f3.body.getD .skip) [true, true, true, true, true, true, true, true, true, true, true, true, true, true, true, true, true, true, true, true, false, true, false, true, false]
def zq32.c67108853 : Code := codeAt (Tryz.f3.body.getD .skip) [true, true, true, true, true, true, true, true, true, true, true, true, true, true, true, true, true, true, true, true, true, false, true, false, true]
def zq32.c67108862 : Code := codeAt (Tryz.f3.body.getD .skip) [true, true, true, true, true, true, true, true, true, true, true, true, true, true, true, true, true, true, true, true, true, true, true, true, false]
def zq32.c134217687 : Code := codeAt (Tryz.f3.body.getD .skip) [true, true, true, true, true, true, true, true, true, true, true, true, true, true, true, true, true, true, true, true, false, true, false, true, true, true]
def zq32.c134217704 : Code := codeAt (Tryz.f3.body.getD .skip) [true, true, true, true, true, true, true, true, true, true, true, true, true, true, true, true, true, true, true, true, true, false, true, false, false, false]
def zq32.c134217705 : Code := codeAt (Tryz.f3.body.getD .skip) [true, true, true, true, true, true, true, true, true, true, true, true, true, true, true, true, true, true, true, true, true, false, true, false, false, true]
def zq32.c134217706 : Code := codeAt (Tryz.f3.body.getD .skip) [true, true, true, true, true, true, true, true, true, true, true, true, true, true, true, true, true, true, true, true, true, false, true, false, true, false]
def zq32.c134217726 : Code := codeAt (Tryz.f3.body.getD .skip) [true, true, true, true, true, true, true, true, true, true, true, true, true, true, true, true, true, true, true, true, true, true, true, true, true, false]
def zq32.c268435372 : Code := codeAt (Tryz.f3.body.getD .skip) [true, true, true, true, true, true, true, true, true, true, true, true, true, true, true, true, true, true, true, true, false, true, false, true, true, false, false]
def zq32.c268435373 : Code := codeAt (Tryz.f3.body.getD .skip) [true, true, true, true, true, true, true, true, true, true, true, true, true, true, true, true, true, true, true, true, false, true, false, true, true, false, true]
def zq32.c268435454 : Code := codeAt (Tryz.f3.body.getD .skip) [true, true, true, true, true, true, true, true, true, true, true, true, true, true, true, true, true, true, true, true, true, true, true, true, true, true, false]
def zq32.c536870828 : Code := codeAt (Tryz.f3.body.getD .skip) [true, true, true, true, true, true, true, true, true, true, true, true, true, true, true, true, true, true, true, true, true, false, true, false, true, true, false, false]
def zq32.c536870910 : Code := codeAt (Tryz.f3.body.getD .skip) [true, true, true, true, true, true, true, true, true, true, true, true, true, true, true, true, true, true, true, true, true, true, true, true, true, true, true, false]
def zq32.c1073741656 : Code := codeAt (Tryz.f3.body.getD .skip) [true, true, true, true, true, true, true, true, true, true, true, true, true, true, true, true, true, true, true, true, true, false, true, false, true, true, false, false, false]
def zq32.c1073741823 : Code := codeAt (Tryz.f3.body.getD .skip) [true, true, true, true, true, true, true, true, true, true, true, true, true, true, true, true, true, true, true, true, true, true, true, true, true, true, true, true, true]
def zq32.c2147483314 : Code := codeAt (Tryz.f3.body.getD .skip) [true, true, true, true, true, true, true, true, true, true, true, true, true, true, true, true, true, true, true, true, true, false, true, false, true, true, false, false, true, false]
def zq32.c2147483644 : Code := codeAt (Tryz.f3.body.getD .skip) [true, true, true, true, true, true, true, true, true, true, true, true, true, true, true, true, true, true, true, true, true, true, true, true, true, true, true, true, false, false]
def zq32.c2147483645 : Code := codeAt (Tryz.f3.body.getD .skip) [true, true, true, true, true, true, true, true, true, true, true, true, true, true, true, true, true, true, true, true, true, true, true, true, true, true, true, true, false, true]
def zq32.c2147483647 : Code := codeAt (Tryz.f3.body.getD .skip) [true, true, true, true, true, true, true, true, true, true, true, true, true, true, true, true, true, true, true, true, true, true, true, true, true, true, true, true, true, true]
def zq32.c4294966631 : Code := codeAt (Tryz.f3.body.getD .skip) [true, true, true, true, true, true, true, true, true, true, true, true, true, true, true, true, true, true, true, true, true, false, true, false, true, true, false, false, true, true, true]
def zq32.c4294967292 : Code := codeAt (Tryz.f3.body.getD .skip) [true, true, true, true, true, true, true, true, true, true, true, true, true, true, true, true, true, true, true, true, true, true, true, true, true, true, true, true, true, false, false]
def zq32.c8589934587 : Code := codeAt (Tryz.f3.body.getD .skip) [true, true, true, true, true, true, true, true, true, true, true, true, true, true, true, true, true, true, true, true, true, true, true, true, true, true, true, true, true, false, true, true]
def zq32.c17179866520 : Code := codeAt (Tryz.f3.body.getD .skip) [true, true, true, true, true, true, true, true, true, true, true, true, true, true, true, true, true, true, true, true, true, false, true, false, true, true, false, false, true, true, false, false, false]
def zq32.c17179869172 : Code := codeAt (Tryz.f3.body.getD .skip) [true, true, true, true, true, true, true, true, true, true, true, true, true, true, true, true, true, true, true, true, true, true, true, true, true, true, true, true, true, false, true, false, false]
def zq32.c34359733042 : Code := codeAt (Tryz.f3.body.getD .skip) [true, true, true, true, true, true, true, true, true, true, true, true, true, true, true, true, true, true, true, true, true, false, true, false, true, true, false, false, true, true, false, false, true, false]
def zq32.c34359738346 : Code := codeAt (Tryz.f3.body.getD .skip) [true, true, true, true, true, true, true, true, true, true, true, true, true, true, true, true, true, true, true, true, true, true, true, true, true, true, true, true, true, false, true, false, true, false]
def zq32.c68719466086 : Code := codeAt (Tryz.f3.body.getD .skip) [true, true, true, true, true, true, true, true, true, true, true, true, true, true, true, true, true, true, true, true, true, false, true, false, true, true, false, false, true, true, false, false, true, true, false]
def zq32.c68719466087 : Code := codeAt (Tryz.f3.body.getD .skip) [true, true, true, true, true, true, true, true, true, true, true, true, true, true, true, true, true, true, true, true, true, false, true, false, true, true, false, false, true, true, false, false, true, true, true]
def zq32.c68719476694 : Code := codeAt (Tryz.f3.body.getD .skip) [true, true, true, true, true, true, true, true, true, true, true, true, true, true, true, true, true, true, true, true, true, true, true, true, true, true, true, true, true, false, true, false, true, true, false]
def zq32.c137438953390 : Code := codeAt (Tryz.f3.body.getD .skip) [true, true, true, true, true, true, true, true, true, true, true, true, true, true, true, true, true, true, true, true, true, true, true, true, true, true, true, true, true, false, true, false, true, true, true, false]
def zq32.c137438953391 : Code := codeAt (Tryz.f3.body.getD .skip) [true, true, true, true, true, true, true, true, true, true, true, true, true, true, true, true, true, true, true, true, true, true, true, true, true, true, true, true, true, false, true, false, true, true, true, true]
def zq32.K8388607 (N : Nat) : Ex → St D0 → Option zq32.R := zq32.K0
def zq32.B4194303 (N : Nat) : St D0 → Option zq32.R := fun s' => runC zq32.C (zq32.O N) N zq32.c8388607 8388607 s' (zq32.K8388607 N)
def zq32.K68719466087 (N : Nat) (Kn268435414 : St D0 → Option zq32.R) : Ex → St D0 → Option zq32.R := (blockK 1 ((fun up => (onN (fun s => zq32.C.tidy 4294966630 s (fun s' => runC zq32.C (zq32.O N) N zq32.c4294966631 4294966631 s' up)) up)) ((fun up => (onN (fun s => zq32.C.tidy 268435414 s ((onN Kn268435414 up) .normal)) (onN Kn268435414 up))) (blockK 0 (onN (fun s => zq32.C.tidy 8388606 s (zq32.B4194303 N)) zq32.K0)))))
def zq32.o8 (N : Nat) (v0 : List Int) (v1 : Int) (v2 : List S25) (v3 : Int) (v4 : Int) (v5 : Bool) (v6 : Int) (v7 : Int) (c6 : (List Int) → Int → (List S25) → Int → Int → Int → Int → Option zq32.R) : Option zq32.R :=
 bif v5 then
  some (false)
 else
 c6 v0 v1 v2 v3 (w64 (v4 + 1)) v6 v7
theorem zq32.o8.run (N : Nat) (Kb4194303 : St D0 → Option zq32.R) (Kn268435414 : St D0 → Option zq32.R) (v0 : List Int) (v1 : Int) (v2 : List S25) (v3 : Int) (v4 : Int) (v5 : Bool) (v6 : Int) (v7 : Int) : runC zq32.C (zq32.O N) N zq32.c68719466087 68719466087 (mkSt [(1, .one (.sl false 5 v0)), (5, .one (.int .i64 v1)), (6, .one (.ptr 6 0)), (380, .one (.sl false 25 v2)), (381, .one (.int .i64 v3)), (382, .one (.int .i64 v4)), (398, .one (.bool v5))] [(6, some (25, [.int .i64 v6, .int .i64 v7]))] : St D0) (blockK 1 ((fun up => (onN (fun s => zq32.C.tidy 4294966630 s (fun s' => runC zq32.C (zq32.O N) N zq32.c4294966631 4294966631 s' up)) up)) ((fun up => (onN (fun s => zq32.C.tidy 268435414 s ((onN Kn268435414 up) .normal)) (onN Kn268435414 up))) (blockK 0 (onN (fun s => zq32.C.tidy 8388606 s Kb4194303) zq32.K0))))) = zq32.o8 N v0 v1 v2 v3 v4 v5 v6 v7 ((fun w0 w1 w2 w3 w4 w5 w6 => Kn268435414 (mkSt [(1, .one (.sl false 5 w0)), (5, .one (.int .i64 w1)), (6, .one (.ptr 6 0)), (380, .one (.sl false 25 w2)), (381, .one (.int .i64 w3)), (382, .one (.int .i64 w4))] [(6, some (25, [.int .i64 w5, .int .i64 w6]))] : St D0))) := by kernel_rfl
def zq32.d8 (N : Nat) (v0 : List Int) (v1 : Int) (v2 : List S25) (v3 : Int) (v4 : Int) (v5 : Bool) (v6 : Int) (v7 : Int) (c6 : (List Int) → Int → (List S25) → Int → Int → Int → Int → Option zq32.R) : Option zq32.R := zq32.o8 N v0 v1 v2 v3 v4 v5 v6 v7 c6
theorem zq32.d8.run (N : Nat) (Kn268435414 : St D0 → Option zq32.R) (v0 : List Int) (v1 : Int) (v2 : List S25) (v3 : Int) (v4 : Int) (v5 : Bool) (v6 : Int) (v7 : Int) : runC zq32.C (zq32.O N) N zq32.c68719466087 68719466087 (mkSt [(1, .one (.sl false 5 v0)), (5, .one (.int .i64 v1)), (6, .one (.ptr 6 0)), (380, .one (.sl false 25 v2)), (381, .one (.int .i64 v3)), (382, .one (.int .i64 v4)), (398, .one (.bool v5))] [(6, some (25, [.int .i64 v6, .int .i64 v7]))] : St D0) (zq32.K68719466087 N Kn268435414) = zq32.d8 N v0 v1 v2 v3 v4 v5 v6 v7 ((fun w0 w1 w2 w3 w4 w5 w6 => Kn268435414 (mkSt [(1, .one (.sl false 5 w0)), (5, .one (.int .i64 w1)), (6, .one (.ptr 6 0)), (380, .one (.sl false 25 w2)), (381, .one (.int .i64 w3)), (382, .one (.int .i64 w4))] [(6, some (25, [.int .i64 w5, .int .i64 w6]))] : St D0))) := by
  exact (zq32.o8.run N (zq32.B4194303 N) Kn268435414 v0 v1 v2 v3 v4 v5 v6 v7).trans rfl
def zq32.K2147483647 (N : Nat) : Ex → St D0 → Option zq32.R := zq32.K0
def zq32.o10 (N : Nat) (v0 : Int) (v1 : ByteArray) (v2 : Bool) (v3 : Int) (v4 : Int) : Option zq32.R :=
 bif v2 then
  (zq12.g N v0 v3 v4).bind fun r1 =>
  bif r1.2 then
   some ((r1.1.toList == v1.toList))
  else
  some (false)
 else
 some (true)
theorem zq32.o10.run (N : Nat) (v0 : Int) (v1 : ByteArray) (v2 : Bool) (v3 : Int) (v4 : Int) : runC zq32.C (zq32.O N) N zq32.c2147483647 2147483647 (mkSt [(56, .one (.int .i64 v0)), (57, .one (.str v1)), (58, .one (.ptr 58 0)), (59, .one (.bool v2))] [(58, some (25, [.int .i64 v3, .int .i64 v4]))] : St D0) zq32.K0 = zq32.o10 N v0 v1 v2 v3 v4 := by kernel_rfl
def zq32.d10 (N : Nat) (v0 : Int) (v1 : ByteArray) (v2 : Bool) (v3 : Int) (v4 : Int) : Option zq32.R := zq32.o10 N v0 v1 v2 v3 v4
theorem zq32.d10.run (N : Nat) (v0 : Int) (v1 : ByteArray) (v2 : Bool) (v3 : Int) (v4 : Int) : runC zq32.C (zq32.O N) N zq32.c2147483647 2147483647 (mkSt [(56, .one (.int .i64 v0)), (57, .one (.str v1)), (58, .one (.ptr 58 0)), (59, .one (.bool v2))] [(58, some (25, [.int .i64 v3, .int .i64 v4]))] : St D0) (zq32.K2147483647 N) = zq32.d10 N v0 v1 v2 v3 v4 := by
  exact (zq32.o10.run N v0 v1 v2 v3 v4).trans rfl
def zq32.B1073741823 (N : Nat) : St D0 → Option zq32.R := fun s' => runC zq32.C (zq32.O N) N zq32.c2147483647 2147483647 s' (zq32.K2147483647 N)
def zq32.K137438953391 (N : Nat) : Ex → St D0 → Option zq32.R := (onN (fun s => zq32.C.tidy 2147483646 s (zq32.B1073741823 N)) zq32.K0)
def zq32.o9 (N : Nat) (v0 : Int) (v1 : ByteArray) (v2 : Bool) (v3 : Bool) (v4 : Int) (v5 : Int) (c10 : Int → ByteArray → Bool → Int → Int → Option zq32.R) : Option zq32.R :=
 bif v3 then
  some (false)
 else
 c10 v0 v1 v2 v4 v5
theorem zq32.o9.run (N : Nat) (Kb1073741823 : St D0 → Option zq32.R) (v0 : Int) (v1 : ByteArray) (v2 : Bool) (v3 : Bool) (v4 : Int) (v5 : Int) : runC zq32.C (zq32.O N) N zq32.c137438953391 137438953391 (mkSt [(56, .one (.int .i64 v0)), (57, .one (.str v1)), (58, .one (.ptr 58 0)), (59, .one (.bool v2)), (506, .one (.bool v3))] [(58, some (25, [.int .i64 v4, .int .i64 v5]))] : St D0) (onN (fun s => zq32.C.tidy 2147483646 s Kb1073741823) zq32.K0) = zq32.o9 N v0 v1 v2 v3 v4 v5 ((fun w0 w1 w2 w3 w4 => Kb1073741823 (mkSt [(56, .one (.int .i64 w0)), (57, .one (.str w1)), (58, .one (.ptr 58 0)), (59, .one (.bool w2))] [(58, some (25, [.int .i64 w3, .int .i64 w4]))] : St D0))) := by kernel_rfl
def zq32.d9 (N : Nat) (v0 : Int) (v1 : ByteArray) (v2 : Bool) (v3 : Bool) (v4 : Int) (v5 : Int) : Option zq32.R := zq32.o9 N v0 v1 v2 v3 v4 v5 ((fun w0 w1 w2 w3 w4 => zq32.d10 N w0 w1 w2 w3 w4))
theorem zq32.d9.run (N : Nat) (v0 : Int) (v1 : ByteArray) (v2 : Bool) (v3 : Bool) (v4 : Int) (v5 : Int) : runC zq32.C (zq32.O N) N zq32.c137438953391 137438953391 (mkSt [(56, .one (.int .i64 v0)), (57, .one (.str v1)), (58, .one (.ptr 58 0)), (59, .one (.bool v2)), (506, .one (.bool v3))] [(58, some (25, [.int .i64 v4, .int .i64 v5]))] : St D0) (zq32.K137438953391 N) = zq32.d9 N v0 v1 v2 v3 v4 v5 := by
  unfold zq32.d9; exact (zq32.o9.run N (zq32.B1073741823 N) v0 v1 v2 v3 v4 v5).trans (congr rfl (funext fun w0 => funext fun w1 => funext fun w2 => funext fun w3 => funext fun w4 => zq32.d10.run N w0 w1 w2 w3 w4))
def zq32.K2147483645 (N : Nat) : Ex → St D0 → Option zq32.R := (onN (fun s => zq32.C.tidy 1073741822 s (fun s' => runC zq32.C (zq32.O N) N zq32.c1073741823 1073741823 s' zq32.K0)) zq32.K0)
def zq32.o7 (N : Nat) (v0 : Int) (v1 : Int) (v2 : Int) (v3 : Int) (v4 : Bool) (v5 : Int) (v6 : ByteArray) (v7 : Bool) (v8 : Bool) (v9 : Int) (v10 : Int) (v11 : Int) (v12 : Int) (c9 : Int → ByteArray → Bool → Bool → Int → Int → Option zq32.R) (c10 : Int → ByteArray → Bool → Int → Int → Option zq32.R) : Option zq32.R :=
 bif v8 then
  some (false)
 else
 bif v4 then
  (zq4.g N v0 v9 v10).bind fun r1 =>
  (zq7.g N v0 v9 v10).bind fun r2 =>
  (zq9.g N v0 v9 v10).bind fun r3 =>
  bif (!r1.2) then
   c9 v5 v6 v7 true v11 v12
  else
  bif (r1.1 != v1) then
   c9 v5 v6 v7 true v11 v12
  else
  bif (!r2.2) then
   c9 v5 v6 v7 true v11 v12
  else
  bif (r2.1 != v2) then
   c9 v5 v6 v7 true v11 v12
  else
  bif (!r3.2.2) then
   c9 v5 v6 v7 true v11 v12
  else
  c9 v5 v6 v7 ((w64 (r3.1 * 60)) != (w64 (v3 * r3.2.1))) v11 v12
 else
 c10 v5 v6 v7 v11 v12
theorem zq32.o7.run (N : Nat) (H2147483647 : Code) (H137438953391 : Code) (v0 : Int) (v1 : Int) (v2 : Int) (v3 : Int) (v4 : Bool) (v5 : Int) (v6 : ByteArray) (v7 : Bool) (v8 : Bool) (v9 : Int) (v10 : Int) (v11 : Int) (v12 : Int) : runC zq32.C (zq32.O N) N zq32.c2147483645 2147483645 (mkSt [(48, .one (.int .i64 v0)), (49, .one (.int .i64 v1)), (50, .one (.int .i64 v2)), (51, .one (.int .i64 v3)), (52, .one (.ptr 52 0)), (53, .one (.bool v4)), (56, .one (.int .i64 v5)), (57, .one (.str v6)), (58, .one (.ptr 58 0)), (59, .one (.bool v7)), (457, .one (.bool v8))] [(52, some (25, [.int .i64 v9, .int .i64 v10])), (58, some (25, [.int .i64 v11, .int .i64 v12]))] : St D0) (onN (fun s => zq32.C.tidy 1073741822 s (fun s' => runC zq32.C (zq32.O N) N (.seq (.seq zq32.c4294967292 (.cond (.tmp 458) (.seq zq32.c17179869172 (.seq zq32.c34359738346 (.seq zq32.c68719476694 (.seq zq32.c137438953390 H137438953391)))) zq32.c8589934587)) H2147483647) 1073741823 s' zq32.K0)) zq32.K0) = zq32.o7 N v0 v1 v2 v3 v4 v5 v6 v7 v8 v9 v10 v11 v12 ((fun w0 w1 w2 w3 w4 w5 => runC zq32.C (zq32.O N) N H137438953391 137438953391 (mkSt [(56, .one (.int .i64 w0)), (57, .one (.str w1)), (58, .one (.ptr 58 0)), (59, .one (.bool w2)), (506, .one (.bool w3))] [(58, some (25, [.int .i64 w4, .int .i64 w5]))] : St D0) (onN (fun s => zq32.C.tidy 2147483646 s (fun s' => runC zq32.C (zq32.O N) N H2147483647 2147483647 s' zq32.K0)) zq32.K0))) ((fun w0 w1 w2 w3 w4 => runC zq32.C (zq32.O N) N H2147483647 2147483647 (mkSt [(56, .one (.int .i64 w0)), (57, .one (.str w1)), (58, .one (.ptr 58 0)), (59, .one (.bool w2))] [(58, some (25, [.int .i64 w3, .int .i64 w4]))] : St D0) zq32.K0)) := by kernel_rfl
def zq32.d7 (N : Nat) (v0 : Int) (v1 : Int) (v2 : Int) (v3 : Int) (v4 : Bool) (v5 : Int) (v6 : ByteArray) (v7 : Bool) (v8 : Bool) (v9 : Int) (v10 : Int) (v11 : Int) (v12 : Int) : Option zq32.R := zq32.o7 N v0 v1 v2 v3 v4 v5 v6 v7 v8 v9 v10 v11 v12 ((fun w0 w1 w2 w3 w4 w5 => zq32.d9 N w0 w1 w2 w3 w4 w5)) ((fun w0 w1 w2 w3 w4 => zq32.d10 N w0 w1 w2 w3 w4))
theorem zq32.d7.run (N : Nat) (v0 : Int) (v1 : Int) (v2 : Int) (v3 : Int) (v4 : Bool) (v5 : Int) (v6 : ByteArray) (v7 : Bool) (v8 : Bool) (v9 : Int) (v10 : Int) (v11 : Int) (v12 : Int) : runC zq32.C (zq32.O N) N zq32.c2147483645 2147483645 (mkSt [(48, .one (.int .i64 v0)), (49, .one (.int .i64 v1)), (50, .one (.int .i64 v2)), (51, .one (.int .i64 v3)), (52, .one (.ptr 52 0)), (53, .one (.bool v4)), (56, .one (.int .i64 v5)), (57, .one (.str v6)), (58, .one (.ptr 58 0)), (59, .one (.bool v7)), (457, .one (.bool v8))] [(52, some (25, [.int .i64 v9, .int .i64 v10])), (58, some (25, [.int .i64 v11, .int .i64 v12]))] : St D0) (zq32.K2147483645 N) = zq32.d7 N v0 v1 v2 v3 v4 v5 v6 v7 v8 v9 v10 v11 v12 := by
  unfold zq32.d7; exact (zq32.o7.run N zq32.c2147483647 zq32.c137438953391 v0 v1 v2 v3 v4 v5 v6 v7 v8 v9 v10 v11 v12).trans (congr (congr rfl (funext fun w0 => funext fun w1 => funext fun w2 => funext fun w3 => funext fun w4 => funext fun w5 => zq32.d9.run N w0 w1 w2 w3 w4 w5)) (funext fun w0 => funext fun w1 => funext fun w2 => funext fun w3 => funext fun w4 => zq32.d10.run N w0 w1 w2 w3 w4))
def zq32.o5 (N : Nat) (v0 : List Int) (c7 : Int → Int → Int → Int → Bool → Int → ByteArray → Bool → Bool → Int → Int → Int → Int → Option zq32.R) : Option zq32.R :=
 (zq41.g N v0).bind fun r1 =>
 (zq11.g N r1.1 r1.2.1 r1.2.2.1 r1.2.2.2).bind fun r2 =>
 (zq48.g N r1.1 r1.2.1 r1.2.2.1 r1.2.2.2).bind fun r3 =>
 (zq40.g N v0).bind fun r4 =>
 (zq8.g N r4.1 r4.2).bind fun r5 =>
 (zq45.g N r4.1 r4.2).bind fun r6 =>
 bif (!(r2.2.2 == r3.2.2)) then
  c7 r1.1 r1.2.1 r1.2.2.1 r1.2.2.2 r2.2.2 r4.1 r4.2 r5.2.2 true r2.1 r2.2.1 r5.1 r5.2.1
 else
 bif (!((r2.1 == r3.1) && ((r2.2.1 == r3.2.1) && true))) then
  c7 r1.1 r1.2.1 r1.2.2.1 r1.2.2.2 r2.2.2 r4.1 r4.2 r5.2.2 true r2.1 r2.2.1 r5.1 r5.2.1
 else
 bif (!(r5.2.2 == r6.2.2)) then
  c7 r1.1 r1.2.1 r1.2.2.1 r1.2.2.2 r2.2.2 r4.1 r4.2 r5.2.2 true r2.1 r2.2.1 r5.1 r5.2.1
 else
 c7 r1.1 r1.2.1 r1.2.2.1 r1.2.2.2 r2.2.2 r4.1 r4.2 r5.2.2 (!((r5.1 == r6.1) && ((r5.2.1 == r6.2.1) && true))) r2.1 r2.2.1 r5.1 r5.2.1
theorem zq32.o5.run (N : Nat) (H2147483645 : Code) (v0 : List Int) : runC zq32.C (zq32.O N) N (.seq zq32.c16777214 (.seq zq32.c33554430 (.seq zq32.c67108862 (.seq zq32.c134217726 (.seq zq32.c268435454 (.seq zq32.c536870910 (.seq (.seq zq32.c2147483644 H2147483645) zq32.c1073741823))))))) 8388607 (mkSt [(1, .one (.sl false 5 v0))] [] : St D0) zq32.K0 = zq32.o5 N v0 ((fun w0 w1 w2 w3 w4 w5 w6 w7 w8 w9 w10 w11 w12 => runC zq32.C (zq32.O N) N H2147483645 2147483645 (mkSt [(48, .one (.int .i64 w0)), (49, .one (.int .i64 w1)), (50, .one (.int .i64 w2)), (51, .one (.int .i64 w3)), (52, .one (.ptr 52 0)), (53, .one (.bool w4)), (56, .one (.int .i64 w5)), (57, .one (.str w6)), (58, .one (.ptr 58 0)), (59, .one (.bool w7)), (457, .one (.bool w8))] [(52, some (25, [.int .i64 w9, .int .i64 w10])), (58, some (25, [.int .i64 w11, .int .i64 w12]))] : St D0) (onN (fun s => zq32.C.tidy 1073741822 s (fun s' => runC zq32.C (zq32.O N) N zq32.c1073741823 1073741823 s' zq32.K0)) zq32.K0))) := by kernel_rfl
def zq32.d5 (N : Nat) (v0 : List Int) : Option zq32.R := zq32.o5 N v0 ((fun w0 w1 w2 w3 w4 w5 w6 w7 w8 w9 w10 w11 w12 => zq32.d7 N w0 w1 w2 w3 w4 w5 w6 w7 w8 w9 w10 w11 w12))
theorem zq32.c8388607_5 : zq32.c8388607 = (.seq zq32.c16777214 (.seq zq32.c33554430 (.seq zq32.c67108862 (.seq zq32.c134217726 (.seq zq32.c268435454 (.seq zq32.c536870910 (.seq (.seq zq32.c2147483644 zq32.c2147483645) zq32.c1073741823))))))) := by kernel_rfl
theorem zq32.d5.run (N : Nat) (v0 : List Int) : runC zq32.C (zq32.O N) N zq32.c8388607 8388607 (mkSt [(1, .one (.sl false 5 v0))] [] : St D0) (zq32.K8388607 N) = zq32.d5 N v0 := by
  rw [zq32.c8388607_5]; unfold zq32.d5; exact (zq32.o5.run N zq32.c2147483645 v0).trans (congr rfl (funext fun w0 => funext fun w1 => funext fun w2 => funext fun w3 => funext fun w4 => funext fun w5 => funext fun w6 => funext fun w7 => funext fun w8 => funext fun w9 => funext fun w10 => funext fun w11 => funext fun w12 => zq32.d7.run N w0 w1 w2 w3 w4 w5 w6 w7 w8 w9 w10 w11 w12))
def zq32.K536870828 (N : Nat) (Kn268435414 : St D0 → Option zq32.R) : Ex → St D0 → Option zq32.R := ((fun up => (onN (fun s => zq32.C.tidy 268435414 s ((onN Kn268435414 up) .normal)) (onN Kn268435414 up))) (blockK 0 (onN (fun s => zq32.C.tidy 8388606 s (zq32.B4194303 N)) zq32.K0)))
def zq32.o6 (N : Nat) (v0 : List Int) (v1 : Int) (v2 : List S25) (v3 : Int) (v4 : Int) (v5 : Int) (v6 : Int) (c8 : (List Int) → Int → (List S25) → Int → Int → Bool → Int → Int → Option zq32.R) (c5 : (List Int) → Option zq32.R) : Option zq32.R :=
 bif (decide (v4 < v3)) then
  bif (decide (0 ≤ v4)) then
   bif (decide (v4 < (v2.length : Int))) then
    (v2[(v4 : Int).toNat]?).bind fun x1 =>
    (zq6.g N v1 x1.f0 x1.f1).bind fun r2 =>
    bif (!r2.2.2) then
     c8 v0 v1 v2 v3 v4 true v5 v6
    else
    c8 v0 v1 v2 v3 v4 (!((r2.1 == v5) && ((r2.2.1 == v6) && true))) v5 v6
   else
   none
  else
  none
 else
 c5 v0
theorem zq32.o6.run (N : Nat) (Kb4194303 : St D0 → Option zq32.R) (Kn268435414 : St D0 → Option zq32.R) (H68719466087 : Code) (v0 : List Int) (v1 : Int) (v2 : List S25) (v3 : Int) (v4 : Int) (v5 : Int) (v6 : Int) : runC zq32.C (zq32.O N) N (.seq zq32.c1073741656 (.seq zq32.c2147483314 (.seq (.block 1 (.seq zq32.c17179866520 (.seq zq32.c34359733042 (.seq zq32.c68719466086 H68719466087)))) zq32.c4294966631))) 536870828 (mkSt [(1, .one (.sl false 5 v0)), (5, .one (.int .i64 v1)), (6, .one (.ptr 6 0)), (380, .one (.sl false 25 v2)), (381, .one (.int .i64 v3)), (382, .one (.int .i64 v4))] [(6, some (25, [.int .i64 v5, .int .i64 v6]))] : St D0) ((fun up => (onN (fun s => zq32.C.tidy 268435414 s ((onN Kn268435414 up) .normal)) (onN Kn268435414 up))) (blockK 0 (onN (fun s => zq32.C.tidy 8388606 s Kb4194303) zq32.K0))) = zq32.o6 N v0 v1 v2 v3 v4 v5 v6 ((fun w0 w1 w2 w3 w4 w5 w6 w7 => runC zq32.C (zq32.O N) N H68719466087 68719466087 (mkSt [(1, .one (.sl false 5 w0)), (5, .one (.int .i64 w1)), (6, .one (.ptr 6 0)), (380, .one (.sl false 25 w2)), (381, .one (.int .i64 w3)), (382, .one (.int .i64 w4)), (398, .one (.bool w5))] [(6, some (25, [.int .i64 w6, .int .i64 w7]))] : St D0) (blockK 1 ((fun up => (onN (fun s => zq32.C.tidy 4294966630 s (fun s' => runC zq32.C (zq32.O N) N zq32.c4294966631 4294966631 s' up)) up)) ((fun up => (onN (fun s => zq32.C.tidy 268435414 s ((onN Kn268435414 up) .normal)) (onN Kn268435414 up))) (blockK 0 (onN (fun s => zq32.C.tidy 8388606 s Kb4194303) zq32.K0))))))) ((fun w0 => Kb4194303 (mkSt [(1, .one (.sl false 5 w0))] [] : St D0))) := by kernel_rfl
def zq32.d6 (N : Nat) (v0 : List Int) (v1 : Int) (v2 : List S25) (v3 : Int) (v4 : Int) (v5 : Int) (v6 : Int) (c6 : (List Int) → Int → (List S25) → Int → Int → Int → Int → Option zq32.R) : Option zq32.R := zq32.o6 N v0 v1 v2 v3 v4 v5 v6 ((fun w0 w1 w2 w3 w4 w5 w6 w7 => zq32.d8 N w0 w1 w2 w3 w4 w5 w6 w7 c6)) ((fun w0 => zq32.d5 N w0))
theorem zq32.c536870828_6 : zq32.c536870828 = (.seq zq32.c1073741656 (.seq zq32.c2147483314 (.seq (.block 1 (.seq zq32.c17179866520 (.seq zq32.c34359733042 (.seq zq32.c68719466086 zq32.c68719466087)))) zq32.c4294966631))) := by kernel_rfl
theorem zq32.d6.run (N : Nat) (Kn268435414 : St D0 → Option zq32.R) (v0 : List Int) (v1 : Int) (v2 : List S25) (v3 : Int) (v4 : Int) (v5 : Int) (v6 : Int) : runC zq32.C (zq32.O N) N zq32.c536870828 536870828 (mkSt [(1, .one (.sl false 5 v0)), (5, .one (.int .i64 v1)), (6, .one (.ptr 6 0)), (380, .one (.sl false 25 v2)), (381, .one (.int .i64 v3)), (382, .one (.int .i64 v4))] [(6, some (25, [.int .i64 v5, .int .i64 v6]))] : St D0) (zq32.K536870828 N Kn268435414) = zq32.d6 N v0 v1 v2 v3 v4 v5 v6 ((fun w0 w1 w2 w3 w4 w5 w6 => Kn268435414 (mkSt [(1, .one (.sl false 5 w0)), (5, .one (.int .i64 w1)), (6, .one (.ptr 6 0)), (380, .one (.sl false 25 w2)), (381, .one (.int .i64 w3)), (382, .one (.int .i64 w4))] [(6, some (25, [.int .i64 w5, .int .i64 w6]))] : St D0))) := by
  rw [zq32.c536870828_6]; unfold zq32.d6; exact (zq32.o6.run N (zq32.B4194303 N) Kn268435414 zq32.c68719466087 v0 v1 v2 v3 v4 v5 v6).trans (congr (congr rfl (funext fun w0 => funext fun w1 => funext fun w2 => funext fun w3 => funext fun w4 => funext fun w5 => funext fun w6 => funext fun w7 => zq32.d8.run N Kn268435414 w0 w1 w2 w3 w4 w5 w6 w7)) (funext fun w0 => zq32.d5.run N w0))
def zq32.K268435414 (N : Nat) : Ex → St D0 → Option zq32.R := (blockK 0 (onN (fun s => zq32.C.tidy 8388606 s (zq32.B4194303 N)) zq32.K0))
def zq32.l6 (N : Nat) : Nat → (List Int) → Int → (List S25) → Int → Int → Int → Int → Option zq32.R
  | 0, _, _, _, _, _, _, _ => none
  | n + 1, v0, v1, v2, v3, v4, v5, v6 => zq32.d6 N v0 v1 v2 v3 v4 v5 v6 ((fun w0 w1 w2 w3 w4 w5 w6 => zq32.l6 N n w0 w1 w2 w3 w4 w5 w6))
theorem zq32.loop268435414 (N : Nat) : ∀ n, (∀ (v0 : List Int) (v1 : Int) (v2 : List S25) (v3 : Int) (v4 : Int) (v5 : Int) (v6 : Int), iter (loopF zq32.C (zq32.O N) N zq32.c536870828 268435414) n (mkSt [(1, .one (.sl false 5 v0)), (5, .one (.int .i64 v1)), (6, .one (.ptr 6 0)), (380, .one (.sl false 25 v2)), (381, .one (.int .i64 v3)), (382, .one (.int .i64 v4))] [(6, some (25, [.int .i64 v5, .int .i64 v6]))] : St D0) (zq32.K268435414 N) = zq32.l6 N n v0 v1 v2 v3 v4 v5 v6)
  | 0 => (fun v0 v1 v2 v3 v4 v5 v6 => rfl)
  | n + 1 => (fun v0 v1 v2 v3 v4 v5 v6 => (zq32.d6.run N (fun s => iter (loopF zq32.C (zq32.O N) N zq32.c536870828 268435414) n s (zq32.K268435414 N)) v0 v1 v2 v3 v4 v5 v6).trans (show _ = zq32.d6 N v0 v1 v2 v3 v4 v5 v6 ((fun w0 w1 w2 w3 w4 w5 w6 => zq32.l6 N n w0 w1 w2 w3 w4 w5 w6)) from (congr rfl (funext fun w0 => funext fun w1 => funext fun w2 => funext fun w3 => funext fun w4 => funext fun w5 => funext fun w6 => (zq32.loop268435414 N n) w0 w1 w2 w3 w4 w5 w6))))
def zq32.K134217705 (N : Nat) : Ex → St D0 → Option zq32.R := ((fun up => (onN (fun s => zq32.C.tidy 67108852 s (fun s' => runC zq32.C (zq32.O N) N zq32.c67108853 67108853 s' up)) up)) (onN (fun s => zq32.C.tidy 8388606 s (zq32.B4194303 N)) zq32.K0))
def zq32.o4 (N : Nat) (v0 : List Int) (v1 : Int) (v2 : List S25) (v3 : Bool) (v4 : Int) (v5 : Int) (c6 : (List Int) → Int → (List S25) → Int → Int → Int → Int → Option zq32.R) : Option zq32.R :=
 bif v3 then
  some (false)
 else
 c6 v0 v1 v2 (v2.length : Int) 0 v4 v5
theorem zq32.o4.run (N : Nat) (Kb4194303 : St D0 → Option zq32.R) (H536870828 : Code) (v0 : List Int) (v1 : Int) (v2 : List S25) (v3 : Bool) (v4 : Int) (v5 : Int) : runC zq32.C (zq32.O N) N zq32.c134217705 134217705 (mkSt [(1, .one (.sl false 5 v0)), (5, .one (.int .i64 v1)), (6, .one (.ptr 6 0)), (31, .one (.sl false 25 v2)), (379, .one (.bool v3))] [(6, some (25, [.int .i64 v4, .int .i64 v5]))] : St D0) ((fun up => (onN (fun s => zq32.C.tidy 67108852 s (fun s' => runC zq32.C (zq32.O N) N (.seq zq32.c134217706 (.block 0 (.loop H536870828))) 67108853 s' up)) up)) (onN (fun s => zq32.C.tidy 8388606 s Kb4194303) zq32.K0)) = zq32.o4 N v0 v1 v2 v3 v4 v5 ((fun w0 w1 w2 w3 w4 w5 w6 => iter (loopF zq32.C (zq32.O N) N H536870828 268435414) N (mkSt [(1, .one (.sl false 5 w0)), (5, .one (.int .i64 w1)), (6, .one (.ptr 6 0)), (380, .one (.sl false 25 w2)), (381, .one (.int .i64 w3)), (382, .one (.int .i64 w4))] [(6, some (25, [.int .i64 w5, .int .i64 w6]))] : St D0) (blockK 0 (onN (fun s => zq32.C.tidy 8388606 s Kb4194303) zq32.K0)))) := by kernel_rfl
def zq32.d4 (N : Nat) (v0 : List Int) (v1 : Int) (v2 : List S25) (v3 : Bool) (v4 : Int) (v5 : Int) : Option zq32.R := zq32.o4 N v0 v1 v2 v3 v4 v5 ((fun w0 w1 w2 w3 w4 w5 w6 => zq32.l6 N N w0 w1 w2 w3 w4 w5 w6))
theorem zq32.d4.run (N : Nat) (v0 : List Int) (v1 : Int) (v2 : List S25) (v3 : Bool) (v4 : Int) (v5 : Int) : runC zq32.C (zq32.O N) N zq32.c134217705 134217705 (mkSt [(1, .one (.sl false 5 v0)), (5, .one (.int .i64 v1)), (6, .one (.ptr 6 0)), (31, .one (.sl false 25 v2)), (379, .one (.bool v3))] [(6, some (25, [.int .i64 v4, .int .i64 v5]))] : St D0) (zq32.K134217705 N) = zq32.d4 N v0 v1 v2 v3 v4 v5 := by
  unfold zq32.d4; exact (zq32.o4.run N (zq32.B4194303 N) zq32.c536870828 v0 v1 v2 v3 v4 v5).trans (congr rfl (funext fun w0 => funext fun w1 => funext fun w2 => funext fun w3 => funext fun w4 => funext fun w5 => funext fun w6 => (zq32.loop268435414 N N) w0 w1 w2 w3 w4 w5 w6))
def zq32.K4194303 (N : Nat) : Ex → St D0 → Option zq32.R := zq32.K0
def zq32.o3 (N : Nat) (v0 : List Int) (v1 : Int) (v2 : List S25) (v3 : Bool) (v4 : Int) (v5 : Int) (c4 : (List Int) → Int → (List S25) → Bool → Int → Int → Option zq32.R) (c5 : (List Int) → Option zq32.R) : Option zq32.R :=
 bif v3 then
  bif ((v2.length : Int) != v1) then
   c4 v0 v1 v2 true v4 v5
  else
  (zq34.g N v2).bind fun r1 =>
  c4 v0 v1 v2 (!r1) v4 v5
 else
 c5 v0
theorem zq32.o3.run (N : Nat) (H8388607 : Code) (H134217705 : Code) (v0 : List Int) (v1 : Int) (v2 : List S25) (v3 : Bool) (v4 : Int) (v5 : Int) : runC zq32.C (zq32.O N) N (.seq (.seq zq32.c16777212 (.cond (.tmp 370) (.seq (.seq zq32.c134217704 H134217705) zq32.c67108853) zq32.c33554427)) H8388607) 4194303 (mkSt [(1, .one (.sl false 5 v0)), (5, .one (.int .i64 v1)), (6, .one (.ptr 6 0)), (31, .one (.sl false 25 v2)), (32, .one (.bool v3))] [(6, some (25, [.int .i64 v4, .int .i64 v5]))] : St D0) zq32.K0 = zq32.o3 N v0 v1 v2 v3 v4 v5 ((fun w0 w1 w2 w3 w4 w5 => runC zq32.C (zq32.O N) N H134217705 134217705 (mkSt [(1, .one (.sl false 5 w0)), (5, .one (.int .i64 w1)), (6, .one (.ptr 6 0)), (31, .one (.sl false 25 w2)), (379, .one (.bool w3))] [(6, some (25, [.int .i64 w4, .int .i64 w5]))] : St D0) ((fun up => (onN (fun s => zq32.C.tidy 67108852 s (fun s' => runC zq32.C (zq32.O N) N zq32.c67108853 67108853 s' up)) up)) (onN (fun s => zq32.C.tidy 8388606 s (fun s' => runC zq32.C (zq32.O N) N H8388607 8388607 s' zq32.K0)) zq32.K0)))) ((fun w0 => runC zq32.C (zq32.O N) N H8388607 8388607 (mkSt [(1, .one (.sl false 5 w0))] [] : St D0) zq32.K0)) := by kernel_rfl
def zq32.d3 (N : Nat) (v0 : List Int) (v1 : Int) (v2 : List S25) (v3 : Bool) (v4 : Int) (v5 : Int) : Option zq32.R := zq32.o3 N v0 v1 v2 v3 v4 v5 ((fun w0 w1 w2 w3 w4 w5 => zq32.d4 N w0 w1 w2 w3 w4 w5)) ((fun w0 => zq32.d5 N w0))
theorem zq32.c4194303_3 : zq32.c4194303 = (.seq (.seq zq32.c16777212 (.cond (.tmp 370) (.seq (.seq zq32.c134217704 zq32.c134217705) zq32.c67108853) zq32.c33554427)) zq32.c8388607) := by kernel_rfl
theorem zq32.d3.run (N : Nat) (v0 : List Int) (v1 : Int) (v2 : List S25) (v3 : Bool) (v4 : Int) (v5 : Int) : runC zq32.C (zq32.O N) N zq32.c4194303 4194303 (mkSt [(1, .one (.sl false 5 v0)), (5, .one (.int .i64 v1)), (6, .one (.ptr 6 0)), (31, .one (.sl false 25 v2)), (32, .one (.bool v3))] [(6, some (25, [.int .i64 v4, .int .i64 v5]))] : St D0) (zq32.K4194303 N) = zq32.d3 N v0 v1 v2 v3 v4 v5 := by
  rw [zq32.c4194303_3]; unfold zq32.d3; exact (zq32.o3.run N zq32.c8388607 zq32.c134217705 v0 v1 v2 v3 v4 v5).trans (congr (congr rfl (funext fun w0 => funext fun w1 => funext fun w2 => funext fun w3 => funext fun w4 => funext fun w5 => zq32.d4.run N w0 w1 w2 w3 w4 w5)) (funext fun w0 => zq32.d5.run N w0))
def zq32.B2097151 (N : Nat) : St D0 → Option zq32.R := fun s' => runC zq32.C (zq32.O N) N zq32.c4194303 4194303 s' (zq32.K4194303 N)
def zq32.K268435373 (N : Nat) : Ex → St D0 → Option zq32.R := ((fun up => (onN (fun s => zq32.C.tidy 134217686 s (fun s' => runC zq32.C (zq32.O N) N zq32.c134217687 134217687 s' up)) up)) (onN (fun s => zq32.C.tidy 4194302 s (zq32.B2097151 N)) zq32.K0))
def zq32.o2 (N : Nat) (v0 : List Int) (v1 : Int) (v2 : Int) (v3 : Int) (v4 : List S25) (v5 : Bool) (v6 : Bool) (v7 : Int) (v8 : Int) (v9 : Int) (v10 : Int) (c3 : (List Int) → Int → (List S25) → Bool → Int → Int → Option zq32.R) : Option zq32.R :=
 bif v6 then
  some (false)
 else
 bif ((w64 ((w64 ((w64 ((w64 ((w64 ((w64 (v2 * 60)) + v3)) * v10)) * v8)) + (w64 (v9 * v8)))) * 1)) != (w64 ((w64 ((w64 (v7 * v1)) * 60)) * v10))) then
  some (false)
 else
 c3 v0 v1 v4 v5 v7 v8
theorem zq32.o2.run (N : Nat) (Kb2097151 : St D0 → Option zq32.R) (v0 : List Int) (v1 : Int) (v2 : Int) (v3 : Int) (v4 : List S25) (v5 : Bool) (v6 : Bool) (v7 : Int) (v8 : Int) (v9 : Int) (v10 : Int) : runC zq32.C (zq32.O N) N zq32.c268435373 268435373 (mkSt [(1, .one (.sl false 5 v0)), (5, .one (.int .i64 v1)), (6, .one (.ptr 6 0)), (19, .one (.int .i64 v2)), (23, .one (.int .i64 v3)), (27, .one (.ptr 27 0)), (31, .one (.sl false 25 v4)), (32, .one (.bool v5)), (342, .one (.bool v6))] [(6, some (25, [.int .i64 v7, .int .i64 v8])), (27, some (25, [.int .i64 v9, .int .i64 v10]))] : St D0) ((fun up => (onN (fun s => zq32.C.tidy 134217686 s (fun s' => runC zq32.C (zq32.O N) N zq32.c134217687 134217687 s' up)) up)) (onN (fun s => zq32.C.tidy 4194302 s Kb2097151) zq32.K0)) = zq32.o2 N v0 v1 v2 v3 v4 v5 v6 v7 v8 v9 v10 ((fun w0 w1 w2 w3 w4 w5 => Kb2097151 (mkSt [(1, .one (.sl false 5 w0)), (5, .one (.int .i64 w1)), (6, .one (.ptr 6 0)), (31, .one (.sl false 25 w2)), (32, .one (.bool w3))] [(6, some (25, [.int .i64 w4, .int .i64 w5]))] : St D0))) := by kernel_rfl
def zq32.d2 (N : Nat) (v0 : List Int) (v1 : Int) (v2 : Int) (v3 : Int) (v4 : List S25) (v5 : Bool) (v6 : Bool) (v7 : Int) (v8 : Int) (v9 : Int) (v10 : Int) : Option zq32.R := zq32.o2 N v0 v1 v2 v3 v4 v5 v6 v7 v8 v9 v10 ((fun w0 w1 w2 w3 w4 w5 => zq32.d3 N w0 w1 w2 w3 w4 w5))
theorem zq32.d2.run (N : Nat) (v0 : List Int) (v1 : Int) (v2 : Int) (v3 : Int) (v4 : List S25) (v5 : Bool) (v6 : Bool) (v7 : Int) (v8 : Int) (v9 : Int) (v10 : Int) : runC zq32.C (zq32.O N) N zq32.c268435373 268435373 (mkSt [(1, .one (.sl false 5 v0)), (5, .one (.int .i64 v1)), (6, .one (.ptr 6 0)), (19, .one (.int .i64 v2)), (23, .one (.int .i64 v3)), (27, .one (.ptr 27 0)), (31, .one (.sl false 25 v4)), (32, .one (.bool v5)), (342, .one (.bool v6))] [(6, some (25, [.int .i64 v7, .int .i64 v8])), (27, some (25, [.int .i64 v9, .int .i64 v10]))] : St D0) (zq32.K268435373 N) = zq32.d2 N v0 v1 v2 v3 v4 v5 v6 v7 v8 v9 v10 := by
  unfold zq32.d2; exact (zq32.o2.run N (zq32.B2097151 N) v0 v1 v2 v3 v4 v5 v6 v7 v8 v9 v10).trans (congr rfl (funext fun w0 => funext fun w1 => funext fun w2 => funext fun w3 => funext fun w4 => funext fun w5 => zq32.d3.run N w0 w1 w2 w3 w4 w5))
def zq32.K4194301 (N : Nat) : Ex → St D0 → Option zq32.R := (onN (fun s => zq32.C.tidy 2097150 s (fun s' => runC zq32.C (zq32.O N) N zq32.c2097151 2097151 s' zq32.K0)) zq32.K0)
def zq32.o1 (N : Nat) (v0 : List Int) (v1 : Int) (v2 : Bool) (v3 : Int) (v4 : Int) (v5 : List S25) (v6 : Bool) (v7 : ByteArray) (v8 : Bool) (v9 : Int) (v10 : Int) (v11 : Int) (v12 : Int) (v13 : Int) (v14 : Int) (v15 : Int) (v16 : Int) (v17 : Int) (v18 : Int) (c2 : (List Int) → Int → Int → Int → (List S25) → Bool → Bool → Int → Int → Int → Int → Option zq32.R) (c3 : (List Int) → Int → (List S25) → Bool → Int → Int → Option zq32.R) : Option zq32.R :=
 bif v8 then
  some (false)
 else
 bif v2 then
  (zq2.g N v9 v10 v13 v14).bind fun r1 =>
  (zq8.g N v1 v7).bind fun r2 =>
  bif r1.2.2 then
   bif (!((r1.1 == v11) && ((r1.2.1 == v12) && true))) then
    c2 v0 v1 v3 v4 v5 v6 true v9 v10 v17 v18
   else
   bif (decide ((w64 (2 * v15)) > v16)) then
    c2 v0 v1 v3 v4 v5 v6 true v9 v10 v17 v18
   else
   bif (decide (v3 < 0)) then
    c2 v0 v1 v3 v4 v5 v6 true v9 v10 v17 v18
   else
   bif (decide (v3 ≥ v1)) then
    c2 v0 v1 v3 v4 v5 v6 true v9 v10 v17 v18
   else
   bif (decide (v4 < 0)) then
    c2 v0 v1 v3 v4 v5 v6 true v9 v10 v17 v18
   else
   bif (decide (v4 > 59)) then
    c2 v0 v1 v3 v4 v5 v6 true v9 v10 v17 v18
   else
   bif (!r2.2.2) then
    c2 v0 v1 v3 v4 v5 v6 true v9 v10 v17 v18
   else
   c2 v0 v1 v3 v4 v5 v6 (!((r2.1 == v9) && ((r2.2.1 == v10) && true))) v9 v10 v17 v18
  else
  bif (decide ((w64 (2 * v15)) > v16)) then
   c2 v0 v1 v3 v4 v5 v6 true v9 v10 v17 v18
  else
  bif (decide (v3 < 0)) then
   c2 v0 v1 v3 v4 v5 v6 true v9 v10 v17 v18
  else
  bif (decide (v3 ≥ v1)) then
   c2 v0 v1 v3 v4 v5 v6 true v9 v10 v17 v18
  else
  bif (decide (v4 < 0)) then
   c2 v0 v1 v3 v4 v5 v6 true v9 v10 v17 v18
  else
  bif (decide (v4 > 59)) then
   c2 v0 v1 v3 v4 v5 v6 true v9 v10 v17 v18
  else
  bif (!r2.2.2) then
   c2 v0 v1 v3 v4 v5 v6 true v9 v10 v17 v18
  else
  c2 v0 v1 v3 v4 v5 v6 (!((r2.1 == v9) && ((r2.2.1 == v10) && true))) v9 v10 v17 v18
 else
 c3 v0 v1 v5 v6 v9 v10
theorem zq32.o1.run (N : Nat) (H4194303 : Code) (H268435373 : Code) (v0 : List Int) (v1 : Int) (v2 : Bool) (v3 : Int) (v4 : Int) (v5 : List S25) (v6 : Bool) (v7 : ByteArray) (v8 : Bool) (v9 : Int) (v10 : Int) (v11 : Int) (v12 : Int) (v13 : Int) (v14 : Int) (v15 : Int) (v16 : Int) (v17 : Int) (v18 : Int) : runC zq32.C (zq32.O N) N zq32.c4194301 4194301 (mkSt [(1, .one (.sl false 5 v0)), (5, .one (.int .i64 v1)), (6, .one (.ptr 6 0)), (7, .one (.ptr 7 0)), (8, .one (.bool v2)), (11, .one (.ptr 11 0)), (15, .one (.ptr 15 0)), (19, .one (.int .i64 v3)), (23, .one (.int .i64 v4)), (27, .one (.ptr 27 0)), (31, .one (.sl false 25 v5)), (32, .one (.bool v6)), (35, .one (.str v7)), (289, .one (.bool v8))] [(6, some (25, [.int .i64 v9, .int .i64 v10])), (7, some (25, [.int .i64 v11, .int .i64 v12])), (11, some (25, [.int .i64 v13, .int .i64 v14])), (15, some (25, [.int .i64 v15, .int .i64 v16])), (27, some (25, [.int .i64 v17, .int .i64 v18]))] : St D0) (onN (fun s => zq32.C.tidy 2097150 s (fun s' => runC zq32.C (zq32.O N) N (.seq (.seq zq32.c8388604 (.cond (.tmp 290) (.seq zq32.c33554420 (.seq zq32.c67108842 (.seq (.seq zq32.c268435372 H268435373) zq32.c134217687))) zq32.c16777211)) H4194303) 2097151 s' zq32.K0)) zq32.K0) = zq32.o1 N v0 v1 v2 v3 v4 v5 v6 v7 v8 v9 v10 v11 v12 v13 v14 v15 v16 v17 v18 ((fun w0 w1 w2 w3 w4 w5 w6 w7 w8 w9 w10 => runC zq32.C (zq32.O N) N H268435373 268435373 (mkSt [(1, .one (.sl false 5 w0)), (5, .one (.int .i64 w1)), (6, .one (.ptr 6 0)), (19, .one (.int .i64 w2)), (23, .one (.int .i64 w3)), (27, .one (.ptr 27 0)), (31, .one (.sl false 25 w4)), (32, .one (.bool w5)), (342, .one (.bool w6))] [(6, some (25, [.int .i64 w7, .int .i64 w8])), (27, some (25, [.int .i64 w9, .int .i64 w10]))] : St D0) ((fun up => (onN (fun s => zq32.C.tidy 134217686 s (fun s' => runC zq32.C (zq32.O N) N zq32.c134217687 134217687 s' up)) up)) (onN (fun s => zq32.C.tidy 4194302 s (fun s' => runC zq32.C (zq32.O N) N H4194303 4194303 s' zq32.K0)) zq32.K0)))) ((fun w0 w1 w2 w3 w4 w5 => runC zq32.C (zq32.O N) N H4194303 4194303 (mkSt [(1, .one (.sl false 5 w0)), (5, .one (.int .i64 w1)), (6, .one (.ptr 6 0)), (31, .one (.sl false 25 w2)), (32, .one (.bool w3))] [(6, some (25, [.int .i64 w4, .int .i64 w5]))] : St D0) zq32.K0)) := by kernel_rfl
def zq32.d1 (N : Nat) (v0 : List Int) (v1 : Int) (v2 : Bool) (v3 : Int) (v4 : Int) (v5 : List S25) (v6 : Bool) (v7 : ByteArray) (v8 : Bool) (v9 : Int) (v10 : Int) (v11 : Int) (v12 : Int) (v13 : Int) (v14 : Int) (v15 : Int) (v16 : Int) (v17 : Int) (v18 : Int) : Option zq32.R := zq32.o1 N v0 v1 v2 v3 v4 v5 v6 v7 v8 v9 v10 v11 v12 v13 v14 v15 v16 v17 v18 ((fun w0 w1 w2 w3 w4 w5 w6 w7 w8 w9 w10 => zq32.d2 N w0 w1 w2 w3 w4 w5 w6 w7 w8 w9 w10)) ((fun w0 w1 w2 w3 w4 w5 => zq32.d3 N w0 w1 w2 w3 w4 w5))
theorem zq32.d1.run (N : Nat) (v0 : List Int) (v1 : Int) (v2 : Bool) (v3 : Int) (v4 : Int) (v5 : List S25) (v6 : Bool) (v7 : ByteArray) (v8 : Bool) (v9 : Int) (v10 : Int) (v11 : Int) (v12 : Int) (v13 : Int) (v14 : Int) (v15 : Int) (v16 : Int) (v17 : Int) (v18 : Int) : runC zq32.C (zq32.O N) N zq32.c4194301 4194301 (mkSt [(1, .one (.sl false 5 v0)), (5, .one (.int .i64 v1)), (6, .one (.ptr 6 0)), (7, .one (.ptr 7 0)), (8, .one (.bool v2)), (11, .one (.ptr 11 0)), (15, .one (.ptr 15 0)), (19, .one (.int .i64 v3)), (23, .one (.int .i64 v4)), (27, .one (.ptr 27 0)), (31, .one (.sl false 25 v5)), (32, .one (.bool v6)), (35, .one (.str v7)), (289, .one (.bool v8))] [(6, some (25, [.int .i64 v9, .int .i64 v10])), (7, some (25, [.int .i64 v11, .int .i64 v12])), (11, some (25, [.int .i64 v13, .int .i64 v14])), (15, some (25, [.int .i64 v15, .int .i64 v16])), (27, some (25, [.int .i64 v17, .int .i64 v18]))] : St D0) (zq32.K4194301 N) = zq32.d1 N v0 v1 v2 v3 v4 v5 v6 v7 v8 v9 v10 v11 v12 v13 v14 v15 v16 v17 v18 := by
  unfold zq32.d1; exact (zq32.o1.run N zq32.c4194303 zq32.c268435373 v0 v1 v2 v3 v4 v5 v6 v7 v8 v9 v10 v11 v12 v13 v14 v15 v16 v17 v18).trans (congr (congr rfl (funext fun w0 => funext fun w1 => funext fun w2 => funext fun w3 => funext fun w4 => funext fun w5 => funext fun w6 => funext fun w7 => funext fun w8 => funext fun w9 => funext fun w10 => zq32.d2.run N w0 w1 w2 w3 w4 w5 w6 w7 w8 w9 w10)) (funext fun w0 => funext fun w1 => funext fun w2 => funext fun w3 => funext fun w4 => funext fun w5 => zq32.d3.run N w0 w1 w2 w3 w4 w5))
def zq32.o0 (N : Nat) (a0 : List Int) (a1 : List Int) (c1 : (List Int) → Int → Bool → Int → Int → (List S25) → Bool → ByteArray → Bool → Int → Int → Int → Int → Int → Int → Int → Int → Int → Int → Option zq32.R) : Option zq32.R :=
 (zq33.g N a0 a1).bind fun r1 =>
 bif r1 then
  some (true)
 else
 (zq39.g N a0).bind fun r2 =>
 (zq6.g N r2.1 r2.2.1 r2.2.2).bind fun r3 =>
 (zq43.g N r2.1 r2.2.1 r2.2.2).bind fun r4 =>
 (zq3.g N r2.1 r2.2.1 r2.2.2).bind fun r5 =>
 (zq38.g N r2.1 r2.2.1 r2.2.2).bind fun r6 =>
 (zq10.g N r2.1 r2.2.1 r2.2.2).bind fun r7 =>
 (zq47.g N r2.1 r2.2.1 r2.2.2).bind fun r8 =>
 (zq4.g N r2.1 r2.2.1 r2.2.2).bind fun r9 =>
 (zq42.g N r2.1 r2.2.1 r2.2.2).bind fun r10 =>
 (zq7.g N r2.1 r2.2.1 r2.2.2).bind fun r11 =>
 (zq44.g N r2.1 r2.2.1 r2.2.2).bind fun r12 =>
 (zq9.g N r2.1 r2.2.1 r2.2.2).bind fun r13 =>
 (zq46.g N r2.1 r2.2.1 r2.2.2).bind fun r14 =>
 (zq13.g N r2.1 r2.2.1 r2.2.2).bind fun r15 =>
 (zq50.g N r2.1 r2.2.1 r2.2.2).bind fun r16 =>
 (zq12.g N r2.1 r2.2.1 r2.2.2).bind fun r17 =>
 (zq49.g N r2.1 r2.2.1 r2.2.2).bind fun r18 =>
 bif (!(r3.2.2 == r4.2.2)) then
  c1 a1 r2.1 r3.2.2 r9.1 r11.1 r15.1 r15.2 r17.1 true r2.2.1 r2.2.2 r3.1 r3.2.1 r5.1 r5.2.1 r7.1 r7.2.1 r13.1 r13.2.1
 else
 bif (!((r3.1 == r4.1) && ((r3.2.1 == r4.2.1) && true))) then
  c1 a1 r2.1 r3.2.2 r9.1 r11.1 r15.1 r15.2 r17.1 true r2.2.1 r2.2.2 r3.1 r3.2.1 r5.1 r5.2.1 r7.1 r7.2.1 r13.1 r13.2.1
 else
 bif (!(r5.2.2 == r6.2.2)) then
  c1 a1 r2.1 r3.2.2 r9.1 r11.1 r15.1 r15.2 r17.1 true r2.2.1 r2.2.2 r3.1 r3.2.1 r5.1 r5.2.1 r7.1 r7.2.1 r13.1 r13.2.1
 else
 bif (!((r5.1 == r6.1) && ((r5.2.1 == r6.2.1) && true))) then
  c1 a1 r2.1 r3.2.2 r9.1 r11.1 r15.1 r15.2 r17.1 true r2.2.1 r2.2.2 r3.1 r3.2.1 r5.1 r5.2.1 r7.1 r7.2.1 r13.1 r13.2.1
 else
 bif (!(r7.2.2 == r8.2.2)) then
  c1 a1 r2.1 r3.2.2 r9.1 r11.1 r15.1 r15.2 r17.1 true r2.2.1 r2.2.2 r3.1 r3.2.1 r5.1 r5.2.1 r7.1 r7.2.1 r13.1 r13.2.1
 else
 bif (!((r7.1 == r8.1) && ((r7.2.1 == r8.2.1) && true))) then
  c1 a1 r2.1 r3.2.2 r9.1 r11.1 r15.1 r15.2 r17.1 true r2.2.1 r2.2.2 r3.1 r3.2.1 r5.1 r5.2.1 r7.1 r7.2.1 r13.1 r13.2.1
 else
 bif (!(r9.2 == r10.2)) then
  c1 a1 r2.1 r3.2.2 r9.1 r11.1 r15.1 r15.2 r17.1 true r2.2.1 r2.2.2 r3.1 r3.2.1 r5.1 r5.2.1 r7.1 r7.2.1 r13.1 r13.2.1
 else
 bif (r9.1 != r10.1) then
  c1 a1 r2.1 r3.2.2 r9.1 r11.1 r15.1 r15.2 r17.1 true r2.2.1 r2.2.2 r3.1 r3.2.1 r5.1 r5.2.1 r7.1 r7.2.1 r13.1 r13.2.1
 else
 bif (!(r11.2 == r12.2)) then
  c1 a1 r2.1 r3.2.2 r9.1 r11.1 r15.1 r15.2 r17.1 true r2.2.1 r2.2.2 r3.1 r3.2.1 r5.1 r5.2.1 r7.1 r7.2.1 r13.1 r13.2.1
 else
 bif (r11.1 != r12.1) then
  c1 a1 r2.1 r3.2.2 r9.1 r11.1 r15.1 r15.2 r17.1 true r2.2.1 r2.2.2 r3.1 r3.2.1 r5.1 r5.2.1 r7.1 r7.2.1 r13.1 r13.2.1
 else
 bif (!(r13.2.2 == r14.2.2)) then
  c1 a1 r2.1 r3.2.2 r9.1 r11.1 r15.1 r15.2 r17.1 true r2.2.1 r2.2.2 r3.1 r3.2.1 r5.1 r5.2.1 r7.1 r7.2.1 r13.1 r13.2.1
 else
 bif (!((r13.1 == r14.1) && ((r13.2.1 == r14.2.1) && true))) then
  c1 a1 r2.1 r3.2.2 r9.1 r11.1 r15.1 r15.2 r17.1 true r2.2.1 r2.2.2 r3.1 r3.2.1 r5.1 r5.2.1 r7.1 r7.2.1 r13.1 r13.2.1
 else
 bif (!(r15.2 == r16.2)) then
  c1 a1 r2.1 r3.2.2 r9.1 r11.1 r15.1 r15.2 r17.1 true r2.2.1 r2.2.2 r3.1 r3.2.1 r5.1 r5.2.1 r7.1 r7.2.1 r13.1 r13.2.1
 else
 (zq35.g N r15.1 r16.1).bind fun r19 =>
 bif (!r19) then
  c1 a1 r2.1 r3.2.2 r9.1 r11.1 r15.1 r15.2 r17.1 true r2.2.1 r2.2.2 r3.1 r3.2.1 r5.1 r5.2.1 r7.1 r7.2.1 r13.1 r13.2.1
 else
 bif (!(r17.2 == r18.2)) then
  c1 a1 r2.1 r3.2.2 r9.1 r11.1 r15.1 r15.2 r17.1 true r2.2.1 r2.2.2 r3.1 r3.2.1 r5.1 r5.2.1 r7.1 r7.2.1 r13.1 r13.2.1
 else
 bif (!(r17.1.toList == r18.1.toList)) then
  c1 a1 r2.1 r3.2.2 r9.1 r11.1 r15.1 r15.2 r17.1 true r2.2.1 r2.2.2 r3.1 r3.2.1 r5.1 r5.2.1 r7.1 r7.2.1 r13.1 r13.2.1
 else
 bif (!(r5.2.2 == r3.2.2)) then
  c1 a1 r2.1 r3.2.2 r9.1 r11.1 r15.1 r15.2 r17.1 true r2.2.1 r2.2.2 r3.1 r3.2.1 r5.1 r5.2.1 r7.1 r7.2.1 r13.1 r13.2.1
 else
 bif (!(r7.2.2 == r3.2.2)) then
  c1 a1 r2.1 r3.2.2 r9.1 r11.1 r15.1 r15.2 r17.1 true r2.2.1 r2.2.2 r3.1 r3.2.1 r5.1 r5.2.1 r7.1 r7.2.1 r13.1 r13.2.1
 else
 bif (!(r9.2 == r3.2.2)) then
  c1 a1 r2.1 r3.2.2 r9.1 r11.1 r15.1 r15.2 r17.1 true r2.2.1 r2.2.2 r3.1 r3.2.1 r5.1 r5.2.1 r7.1 r7.2.1 r13.1 r13.2.1
 else
 bif (!(r11.2 == r3.2.2)) then
  c1 a1 r2.1 r3.2.2 r9.1 r11.1 r15.1 r15.2 r17.1 true r2.2.1 r2.2.2 r3.1 r3.2.1 r5.1 r5.2.1 r7.1 r7.2.1 r13.1 r13.2.1
 else
 bif (!(r13.2.2 == r3.2.2)) then
  c1 a1 r2.1 r3.2.2 r9.1 r11.1 r15.1 r15.2 r17.1 true r2.2.1 r2.2.2 r3.1 r3.2.1 r5.1 r5.2.1 r7.1 r7.2.1 r13.1 r13.2.1
 else
 bif (!(r17.2 == r3.2.2)) then
  c1 a1 r2.1 r3.2.2 r9.1 r11.1 r15.1 r15.2 r17.1 true r2.2.1 r2.2.2 r3.1 r3.2.1 r5.1 r5.2.1 r7.1 r7.2.1 r13.1 r13.2.1
 else
 bif r15.2 then
  c1 a1 r2.1 r3.2.2 r9.1 r11.1 r15.1 r15.2 r17.1 (!r3.2.2) r2.2.1 r2.2.2 r3.1 r3.2.1 r5.1 r5.2.1 r7.1 r7.2.1 r13.1 r13.2.1
 else
 c1 a1 r2.1 r3.2.2 r9.1 r11.1 r15.1 r15.2 r17.1 false r2.2.1 r2.2.2 r3.1 r3.2.1 r5.1 r5.2.1 r7.1 r7.2.1 r13.1 r13.2.1
theorem zq32.o0.run (N : Nat) (H4194301 : Code) (a0 : List Int) (a1 : List Int) : runC zq32.C (zq32.O N) N (.seq zq32.c2 (.seq zq32.c6 (.seq zq32.c14 (.seq zq32.c30 (.seq zq32.c62 (.seq zq32.c126 (.seq zq32.c254 (.seq zq32.c510 (.seq zq32.c1022 (.seq zq32.c2046 (.seq zq32.c4094 (.seq zq32.c8190 (.seq zq32.c16382 (.seq zq32.c32766 (.seq zq32.c65534 (.seq zq32.c131070 (.seq zq32.c262142 (.seq zq32.c524286 (.seq zq32.c1048574 (.seq (.seq zq32.c4194300 H4194301) zq32.c2097151)))))))))))))))))))) 1 (st0 [.one (.sl false 5 a0), .one (.sl false 5 a1)] [] : St D0) zq32.K0 = zq32.o0 N a0 a1 ((fun w0 w1 w2 w3 w4 w5 w6 w7 w8 w9 w10 w11 w12 w13 w14 w15 w16 w17 w18 => runC zq32.C (zq32.O N) N H4194301 4194301 (mkSt [(1, .one (.sl false 5 w0)), (5, .one (.int .i64 w1)), (6, .one (.ptr 6 0)), (7, .one (.ptr 7 0)), (8, .one (.bool w2)), (11, .one (.ptr 11 0)), (15, .one (.ptr 15 0)), (19, .one (.int .i64 w3)), (23, .one (.int .i64 w4)), (27, .one (.ptr 27 0)), (31, .one (.sl false 25 w5)), (32, .one (.bool w6)), (35, .one (.str w7)), (289, .one (.bool w8))] [(6, some (25, [.int .i64 w9, .int .i64 w10])), (7, some (25, [.int .i64 w11, .int .i64 w12])), (11, some (25, [.int .i64 w13, .int .i64 w14])), (15, some (25, [.int .i64 w15, .int .i64 w16])), (27, some (25, [.int .i64 w17, .int .i64 w18]))] : St D0) (onN (fun s => zq32.C.tidy 2097150 s (fun s' => runC zq32.C (zq32.O N) N zq32.c2097151 2097151 s' zq32.K0)) zq32.K0))) := by kernel_rfl
def zq32.g (N : Nat) (a0 : List Int) (a1 : List Int) : Option zq32.R := zq32.o0 N a0 a1 ((fun w0 w1 w2 w3 w4 w5 w6 w7 w8 w9 w10 w11 w12 w13 w14 w15 w16 w17 w18 => zq32.d1 N w0 w1 w2 w3 w4 w5 w6 w7 w8 w9 w10 w11 w12 w13 w14 w15 w16 w17 w18))
theorem zq32.c1_0 : zq32.c1 = (.seq zq32.c2 (.seq zq32.c6 (.seq zq32.c14 (.seq zq32.c30 (.seq zq32.c62 (.seq zq32.c126 (.seq zq32.c254 (.seq zq32.c510 (.seq zq32.c1022 (.seq zq32.c2046 (.seq zq32.c4094 (.seq zq32.c8190 (.seq zq32.c16382 (.seq zq32.c32766 (.seq zq32.c65534 (.seq zq32.c131070 (.seq zq32.c262142 (.seq zq32.c524286 (.seq zq32.c1048574 (.seq (.seq zq32.c4194300 zq32.c4194301) zq32.c2097151)))))))))))))))))))) := by kernel_rfl
theorem zq32.g.run (N : Nat) (a0 : List Int) (a1 : List Int) : runC zq32.C (zq32.O N) N zq32.c1 1 (st0 [.one (.sl false 5 a0), .one (.sl false 5 a1)] [] : St D0) zq32.K0 = zq32.g N a0 a1 := by
  rw [zq32.c1_0]; unfold zq32.g; exact (zq32.o0.run N zq32.c4194301 a0 a1).trans (congr rfl (funext fun w0 => funext fun w1 => funext fun w2 => funext fun w3 => funext fun w4 => funext fun w5 => funext fun w6 => funext fun w7 => funext fun w8 => funext fun w9 => funext fun w10 => funext fun w11 => funext fun w12 => funext fun w13 => funext fun w14 => funext fun w15 => funext fun w16 => funext fun w17 => funext fun w18 => zq32.d1.run N w0 w1 w2 w3 w4 w5 w6 w7 w8 w9 w10 w11 w12 w13 w14 w15 w16 w17 w18))
theorem zq32.good (N : Nat) (a0 : List Int) (a1 : List Int) (r : zq32.R) (h : zq32.g N a0 a1 = some r) : Go.PM.Good Tryz.prog T0 3 [.one (.sl false 5 a0), .one (.sl false 5 a1)] [] (zq32.sig.ret r) (zq32.sig.bs r) :=
  good_fn tabOk0 mixed0 zq32.sig (zq32.E N) Tryz.func3 (by kernel_rfl) (by kernel_rfl) 628490996716060355466812939843083566587608011406553872077417028707003827188017703402115912280389141637367297204015332666845455697344824833073731506012147 0 0 [(4194300, [1, 5, 6, 7, 8, 11, 15, 19, 23, 27, 31, 32, 35, 289], [6, 7, 11, 15, 27]), (4194302, [1, 5, 6, 31, 32], [6]), (8388606, [1], []), (134217704, [1, 5, 6, 31, 379], [6]), (268435372, [1, 5, 6, 19, 23, 27, 31, 32, 342], [6, 27]), (268435414, [1, 5, 6, 380, 381, 382], [6]), (2147483644, [48, 49, 50, 51, 52, 53, 56, 57, 58, 59, 457], [52, 58]), (2147483646, [56, 57, 58, 59], [58]), (68719466086, [1, 5, 6, 380, 381, 382, 398], [6]), (137438953390, [56, 57, 58, 59, 506], [58])] 645257359461101105041356441578823832060643151515200176783949113222210981242815497614289764041101715204897998999846749726697112919854600419081553257009512448 false [] [(false, [.any])] (by kernel_rfl) rfl rfl ((zq32.g.run N a0 a1).trans h)
def zq32.ent (N : Nat) : Ent Tryz.prog T0 := mkEnt 3 [(false, [.ro 5]), (false, [.ro 5])] zq32.sig (fun t => zq32.g N t.1 t.2) (fun t r h => zq32.good N t.1 t.2 r h)
def FnHandsStand.Pure : Prop := ∀ (y0 : List Int) (y1 : List Int), (y0.length ≤ maxLen ∧ y0.length * 1 ≤ 140737488351232 ∧ ∀ x ∈ y0, (Lit.int .u8 x).wf = true) → (y1.length ≤ maxLen ∧ y1.length * 1 ≤ 140737488351232 ∧ ∀ x ∈ y1, (Lit.int .u8 x).wf = true) → ∃ N, zq32.g N y0 y1 = some true
end Go.Proofs.YtccjoegnkiaibaaGreatDoor.M
end
