/- What the program's functions compute, walked by the machine (part 2). No conditions but those stated. -/
import Derived.Test.YtccjoegnkiaibaaGreatDoorFnFnHandsStand1
import Derived.Test.YtccjoegnkiaibaaGreatDoorShelf
import Derived.Lib.IndexBytes
import Derived.Lib.IndexLaws
import Derived.OwnWalk
noncomputable section
namespace Go.Proofs.YtccjoegnkiaibaaGreatDoor.M
open Go Go.PM Go.Proofs.YtccjoegnkiaibaaGreatDoor.P
set_option linter.unusedVariables false
set_option maxRecDepth 100000
/-! ### zq58 -/
abbrev zq58.R : Type := Int × Int × Bool
abbrev zq58.sig : Sig := ⟨[(false, 1), (false, 1)], [], [.int .i64, .str], [(true, 2), (false, 1)], [], [.int .i64, .int .i64, .bool]⟩
def zq58.C : Cfg D0 := ⟨Tryz.prog, T0, 85070596803467639362531009403438761971, 0, 152, 0, [(12, [0, 1, 4, 18], [4]), (122, [0, 1, 4, 6, 7], [4]), (124, [0, 1, 4, 6, 87], [4]), (254, [0, 4, 6, 8, 9], [4]), (978, [0, 1, 4, 6, 7], [4]), (8148, [0, 4, 6, 10, 102], [4]), (31302, [0, 1, 4, 6, 7, 46], [4]), (32606, [0, 4, 6, 8, 9, 126], [4])], 237125443187377898191567724995513788308424704, true, [(250431, false, 6, [0, 1, 4, 7], [4]), (250431, true, 6, [0, 1, 4, 7], [4])]⟩
def zq58.E (N : Nat) : List (Ent Tryz.prog T0) := [zq76.ent N, zq74.ent N, zq71.ent N, zq52.ent N, zq56.ent N]
def zq58.O (N : Nat) : Orc D0 zq58.R := orcOf (zq58.E N)
def zq58.K0 : Ex → St D0 → Option zq58.R := exitK zq58.C Tryz.f89.results.toList [(true, [.any, .any]), (false, [.any])] (decOut zq58.sig)
def zq58.c1 : Code := codeAt (Tryz.f89.body.getD .skip) []
def zq58.c2 : Code := codeAt (Tryz.f89.body.getD .skip) [false]
def zq58.c7 : Code := codeAt (Tryz.f89.body.getD .skip) [true, true]
def zq58.c12 : Code := codeAt (Tryz.f89.body.getD .skip) [true, false, false]
def zq58.c13 : Code := codeAt (Tryz.f89.body.getD .skip) [true, false, true]
def zq58.c14 : Code := codeAt (Tryz.f89.body.getD .skip) [true, true, false]
def zq58.c31 : Code := codeAt (Tryz.f89.body.getD .skip) [true, true, true, true]
def zq58.c60 : Code := codeAt (Tryz.f89.body.getD .skip) [true, true, true, false, false]
def zq58.c63 : Code := codeAt (Tryz.f89.body.getD .skip) [true, true, true, true, true]
def zq58.c124 : Code := codeAt (Tryz.f89.body.getD .skip) [true, true, true, true, false, false]
def zq58.c125 : Code := codeAt (Tryz.f89.body.getD .skip) [true, true, true, true, false, true]
def zq58.c126 : Code := codeAt (Tryz.f89.body.getD .skip) [true, true, true, true, true, false]
def zq58.c244 : Code := codeAt (Tryz.f89.body.getD .skip) [true, true, true, false, true, false, false]
def zq58.c255 : Code := codeAt (Tryz.f89.body.getD .skip) [true, true, true, true, true, true, true]
def zq58.c488 : Code := codeAt (Tryz.f89.body.getD .skip) [true, true, true, false, true, false, false, false]
def zq58.c508 : Code := codeAt (Tryz.f89.body.getD .skip) [true, true, true, true, true, true, false, false]
def zq58.c979 : Code := codeAt (Tryz.f89.body.getD .skip) [true, true, true, false, true, false, false, true, true]
def zq58.c1019 : Code := codeAt (Tryz.f89.body.getD .skip) [true, true, true, true, true, true, false, true, true]
def zq58.c2036 : Code := codeAt (Tryz.f89.body.getD .skip) [true, true, true, true, true, true, false, true, false, false]
def zq58.c4075 : Code := codeAt (Tryz.f89.body.getD .skip) [true, true, true, true, true, true, false, true, false, true, true]
def zq58.c7824 : Code := codeAt (Tryz.f89.body.getD .skip) [true, true, true, false, true, false, false, true, false, false, false, false]
def zq58.c8148 : Code := codeAt (Tryz.f89.body.getD .skip) [true, true, true, true, true, true, false, true, false, true, false, false]
def zq58.c8149 : Code := codeAt (Tryz.f89.body.getD .skip) [true, true, true, true, true, true, false, true, false, true, false, true]
def zq58.c8150 : Code := codeAt (Tryz.f89.body.getD .skip) [true, true, true, true, true, true, false, true, false, true, true, false]
def zq58.c15650 : Code := codeAt (Tryz.f89.body.getD .skip) [true, true, true, false, true, false, false, true, false, false, false, true, false]
def zq58.c16302 : Code := codeAt (Tryz.f89.body.getD .skip) [true, true, true, true, true, true, false, true, false, true, true, true, false]
def zq58.c31302 : Code := codeAt (Tryz.f89.body.getD .skip) [true, true, true, false, true, false, false, true, false, false, false, true, true, false]
def zq58.c31303 : Code := codeAt (Tryz.f89.body.getD .skip) [true, true, true, false, true, false, false, true, false, false, false, true, true, true]
def zq58.c32606 : Code := codeAt (Tryz.f89.body.getD .skip) [true, true, true, true, true, true, false, true, false, true, true, true, true, false]
def zq58.c32607 : Code := codeAt (Tryz.f89.body.getD .skip) [true, true, true, true, true, true, false, true, false, true, true, true, true, true]
def zq58.K979 (N : Nat) (Kn122 : St D0 → Option zq58.R) : Ex → St D0 → Option zq58.R := ((fun up => (onN (fun s => zq58.C.tidy 122 s ((onN Kn122 up) .normal)) (onN Kn122 up))) (blockK 0 (onN (fun s => zq58.C.tidy 30 s (fun s' => runC zq58.C (zq58.O N) N zq58.c31 31 s' zq58.K0)) zq58.K0)))
def zq58.o3 (N : Nat) (v0 : Int) (v1 : ByteArray) (v2 : Int) (v3 : Int) (v4 : Int) (c2 : Int → ByteArray → Int → Int → Int → Option zq58.R) : Option zq58.R :=
 c2 v0 v1 (w64 (v2 + 1)) v3 v4
theorem zq58.o3.run (N : Nat) (Kn122 : St D0 → Option zq58.R) (v0 : Int) (v1 : ByteArray) (v2 : Int) (v3 : Int) (v4 : Int) : runC zq58.C (zq58.O N) N zq58.c979 979 (mkSt [(0, .one (.int .i64 v0)), (1, .one (.str v1)), (4, .one (.ptr 4 0)), (6, .one (.nl)), (7, .one (.int .i64 v2))] [(4, some (25, [.int .i64 v3, .int .i64 v4]))] : St D0) ((fun up => (onN (fun s => zq58.C.tidy 122 s ((onN Kn122 up) .normal)) (onN Kn122 up))) (blockK 0 (onN (fun s => zq58.C.tidy 30 s (fun s' => runC zq58.C (zq58.O N) N zq58.c31 31 s' zq58.K0)) zq58.K0))) = zq58.o3 N v0 v1 v2 v3 v4 ((fun w0 w1 w2 w3 w4 => Kn122 (mkSt [(0, .one (.int .i64 w0)), (1, .one (.str w1)), (4, .one (.ptr 4 0)), (6, .one (.nl)), (7, .one (.int .i64 w2))] [(4, some (25, [.int .i64 w3, .int .i64 w4]))] : St D0))) := by kernel_rfl
def zq58.d3 (N : Nat) (v0 : Int) (v1 : ByteArray) (v2 : Int) (v3 : Int) (v4 : Int) (c2 : Int → ByteArray → Int → Int → Int → Option zq58.R) : Option zq58.R := zq58.o3 N v0 v1 v2 v3 v4 c2
theorem zq58.d3.run (N : Nat) (Kn122 : St D0 → Option zq58.R) (v0 : Int) (v1 : ByteArray) (v2 : Int) (v3 : Int) (v4 : Int) : runC zq58.C (zq58.O N) N zq58.c979 979 (mkSt [(0, .one (.int .i64 v0)), (1, .one (.str v1)), (4, .one (.ptr 4 0)), (6, .one (.nl)), (7, .one (.int .i64 v2))] [(4, some (25, [.int .i64 v3, .int .i64 v4]))] : St D0) (zq58.K979 N Kn122) = zq58.d3 N v0 v1 v2 v3 v4 ((fun w0 w1 w2 w3 w4 => Kn122 (mkSt [(0, .one (.int .i64 w0)), (1, .one (.str w1)), (4, .one (.ptr 4 0)), (6, .one (.nl)), (7, .one (.int .i64 w2))] [(4, some (25, [.int .i64 w3, .int .i64 w4]))] : St D0))) := by
  exact (zq58.o3.run N Kn122 v0 v1 v2 v3 v4).trans rfl
def zq58.o5 (N : Nat) (v0 : Int) (v1 : ByteArray) (v2 : List Int) (v3 : Int) (v4 : Int) (v5 : Int) (c6 : Int → ByteArray → (List Int) → Int → Int → Int → Option zq58.R) : Option zq58.R :=
 c6 v0 v1 v2 (w64 (v3 + 1)) v4 v5
theorem zq58.o5.run (N : Nat) (Kn122 : St D0 → Option zq58.R) (v0 : Int) (v1 : ByteArray) (v2 : List Int) (v3 : Int) (v4 : Int) (v5 : Int) : runC zq58.C (zq58.O N) N zq58.c979 979 (mkSt [(0, .one (.int .i64 v0)), (1, .one (.str v1)), (4, .one (.ptr 4 0)), (6, .one (.sl true 3 v2)), (7, .one (.int .i64 v3))] [(4, some (25, [.int .i64 v4, .int .i64 v5]))] : St D0) ((fun up => (onN (fun s => zq58.C.tidy 122 s ((onN Kn122 up) .normal)) (onN Kn122 up))) (blockK 0 (onN (fun s => zq58.C.tidy 30 s (fun s' => runC zq58.C (zq58.O N) N zq58.c31 31 s' zq58.K0)) zq58.K0))) = zq58.o5 N v0 v1 v2 v3 v4 v5 ((fun w0 w1 w2 w3 w4 w5 => Kn122 (mkSt [(0, .one (.int .i64 w0)), (1, .one (.str w1)), (4, .one (.ptr 4 0)), (6, .one (.sl true 3 w2)), (7, .one (.int .i64 w3))] [(4, some (25, [.int .i64 w4, .int .i64 w5]))] : St D0))) := by kernel_rfl
def zq58.d5 (N : Nat) (v0 : Int) (v1 : ByteArray) (v2 : List Int) (v3 : Int) (v4 : Int) (v5 : Int) (c6 : Int → ByteArray → (List Int) → Int → Int → Int → Option zq58.R) : Option zq58.R := zq58.o5 N v0 v1 v2 v3 v4 v5 c6
theorem zq58.d5.run (N : Nat) (Kn122 : St D0 → Option zq58.R) (v0 : Int) (v1 : ByteArray) (v2 : List Int) (v3 : Int) (v4 : Int) (v5 : Int) : runC zq58.C (zq58.O N) N zq58.c979 979 (mkSt [(0, .one (.int .i64 v0)), (1, .one (.str v1)), (4, .one (.ptr 4 0)), (6, .one (.sl true 3 v2)), (7, .one (.int .i64 v3))] [(4, some (25, [.int .i64 v4, .int .i64 v5]))] : St D0) (zq58.K979 N Kn122) = zq58.d5 N v0 v1 v2 v3 v4 v5 ((fun w0 w1 w2 w3 w4 w5 => Kn122 (mkSt [(0, .one (.int .i64 w0)), (1, .one (.str w1)), (4, .one (.ptr 4 0)), (6, .one (.sl true 3 w2)), (7, .one (.int .i64 w3))] [(4, some (25, [.int .i64 w4, .int .i64 w5]))] : St D0))) := by
  exact (zq58.o5.run N Kn122 v0 v1 v2 v3 v4 v5).trans rfl
def zq58.B489 (N : Nat) (Kn122 : St D0 → Option zq58.R) : St D0 → Option zq58.R := fun s' => runC zq58.C (zq58.O N) N zq58.c979 979 s' (zq58.K979 N Kn122)
def zq58.K31303 (N : Nat) (Kn122 : St D0 → Option zq58.R) : Ex → St D0 → Option zq58.R := (blockK 2 (blockK 1 ((fun up => (onN (fun s => zq58.C.tidy 978 s (zq58.B489 N Kn122)) up)) ((fun up => (onN (fun s => zq58.C.tidy 122 s ((onN Kn122 up) .normal)) (onN Kn122 up))) (blockK 0 (onN (fun s => zq58.C.tidy 30 s (fun s' => runC zq58.C (zq58.O N) N zq58.c31 31 s' zq58.K0)) zq58.K0))))))
def zq58.o4 (N : Nat) (v0 : Int) (v1 : ByteArray) (v2 : Int) (v3 : Bool) (v4 : Int) (v5 : Int) (c5 : Int → ByteArray → (List Int) → Int → Int → Int → Option zq58.R) : Option zq58.R :=
 bif v3 then
  some (0, 0, false)
 else
 bif ((Int.tmod v2 3) == 0) then
  bif (decide (0 ≤ v2)) then
   bif (decide (v2 < (v1.size : Int))) then
    bif (Nat.blt (([] : List Int).length + ([(w64 (10 * (w64 ((IntKind.wrap .u8) ((bt v1 v2) - 48)))))] : List Int).length) 17592186044416) then
     c5 v0 v1 (([] : List Int) ++ ([(w64 (10 * (w64 ((IntKind.wrap .u8) ((bt v1 v2) - 48)))))] : List Int)) v2 v4 v5
    else
    none
   else
   none
  else
  none
 else
 none
theorem zq58.o4.run (N : Nat) (Kb489 : St D0 → Option zq58.R) (Kn122 : St D0 → Option zq58.R) (v0 : Int) (v1 : ByteArray) (v2 : Int) (v3 : Bool) (v4 : Int) (v5 : Int) : runC zq58.C (zq58.O N) N zq58.c31303 31303 (mkSt [(0, .one (.int .i64 v0)), (1, .one (.str v1)), (4, .one (.ptr 4 0)), (6, .one (.nl)), (7, .one (.int .i64 v2)), (46, .one (.bool v3))] [(4, some (25, [.int .i64 v4, .int .i64 v5]))] : St D0) (blockK 2 (blockK 1 ((fun up => (onN (fun s => zq58.C.tidy 978 s Kb489) up)) ((fun up => (onN (fun s => zq58.C.tidy 122 s ((onN Kn122 up) .normal)) (onN Kn122 up))) (blockK 0 (onN (fun s => zq58.C.tidy 30 s (fun s' => runC zq58.C (zq58.O N) N zq58.c31 31 s' zq58.K0)) zq58.K0)))))) = zq58.o4 N v0 v1 v2 v3 v4 v5 ((fun w0 w1 w2 w3 w4 w5 => Kb489 (mkSt [(0, .one (.int .i64 w0)), (1, .one (.str w1)), (4, .one (.ptr 4 0)), (6, .one (.sl true 3 w2)), (7, .one (.int .i64 w3))] [(4, some (25, [.int .i64 w4, .int .i64 w5]))] : St D0))) := by kernel_rfl
def zq58.d4 (N : Nat) (v0 : Int) (v1 : ByteArray) (v2 : Int) (v3 : Bool) (v4 : Int) (v5 : Int) (c6 : Int → ByteArray → (List Int) → Int → Int → Int → Option zq58.R) : Option zq58.R := zq58.o4 N v0 v1 v2 v3 v4 v5 ((fun w0 w1 w2 w3 w4 w5 => zq58.d5 N w0 w1 w2 w3 w4 w5 c6))
theorem zq58.d4.run (N : Nat) (Kn122 : St D0 → Option zq58.R) (v0 : Int) (v1 : ByteArray) (v2 : Int) (v3 : Bool) (v4 : Int) (v5 : Int) : runC zq58.C (zq58.O N) N zq58.c31303 31303 (mkSt [(0, .one (.int .i64 v0)), (1, .one (.str v1)), (4, .one (.ptr 4 0)), (6, .one (.nl)), (7, .one (.int .i64 v2)), (46, .one (.bool v3))] [(4, some (25, [.int .i64 v4, .int .i64 v5]))] : St D0) (zq58.K31303 N Kn122) = zq58.d4 N v0 v1 v2 v3 v4 v5 ((fun w0 w1 w2 w3 w4 w5 => Kn122 (mkSt [(0, .one (.int .i64 w0)), (1, .one (.str w1)), (4, .one (.ptr 4 0)), (6, .one (.sl true 3 w2)), (7, .one (.int .i64 w3))] [(4, some (25, [.int .i64 w4, .int .i64 w5]))] : St D0))) := by
  unfold zq58.d4; exact (zq58.o4.run N (zq58.B489 N Kn122) Kn122 v0 v1 v2 v3 v4 v5).trans (congr rfl (funext fun w0 => funext fun w1 => funext fun w2 => funext fun w3 => funext fun w4 => funext fun w5 => zq58.d5.run N Kn122 w0 w1 w2 w3 w4 w5))
def zq58.K244 (N : Nat) (Kn122 : St D0 → Option zq58.R) : Ex → St D0 → Option zq58.R := ((fun up => (onN (fun s => zq58.C.tidy 122 s ((onN Kn122 up) .normal)) (onN Kn122 up))) (blockK 0 (onN (fun s => zq58.C.tidy 30 s (fun s' => runC zq58.C (zq58.O N) N zq58.c31 31 s' zq58.K0)) zq58.K0)))
def zq58.o2 (N : Nat) (v0 : Int) (v1 : ByteArray) (v2 : Int) (v3 : Int) (v4 : Int) (c3 : Int → ByteArray → Int → Int → Int → Option zq58.R) (c4 : Int → ByteArray → Int → Bool → Int → Int → Option zq58.R) : Option zq58.R :=
 bif (decide (v2 < 8)) then
  bif ((Int.tmod v2 3) == 2) then
   bif (decide (0 ≤ v2)) then
    bif (decide (v2 < (v1.size : Int))) then
     bif ((bt v1 v2) != 58) then
      some (0, 0, false)
     else
     c3 v0 v1 v2 v3 v4
    else
    none
   else
   none
  else
  bif (decide (0 ≤ v2)) then
   bif (decide (v2 < (v1.size : Int))) then
    bif (decide ((bt v1 v2) < 48)) then
     c4 v0 v1 v2 true v3 v4
    else
    bif (decide (0 ≤ v2)) then
     bif (decide (v2 < (v1.size : Int))) then
      c4 v0 v1 v2 (decide ((bt v1 v2) > 57)) v3 v4
     else
     none
    else
    none
   else
   none
  else
  none
 else
 none
theorem zq58.o2.run (N : Nat) (Kn122 : St D0 → Option zq58.R) (H979 : Code) (H31303 : Code) (v0 : Int) (v1 : ByteArray) (v2 : Int) (v3 : Int) (v4 : Int) : runC zq58.C (zq58.O N) N (.seq zq58.c488 (.seq (.block 1 (.block 2 (.seq zq58.c7824 (.cond (.tmp 37) zq58.c15650 (.seq zq58.c31302 H31303))))) H979)) 244 (mkSt [(0, .one (.int .i64 v0)), (1, .one (.str v1)), (4, .one (.ptr 4 0)), (6, .one (.nl)), (7, .one (.int .i64 v2))] [(4, some (25, [.int .i64 v3, .int .i64 v4]))] : St D0) ((fun up => (onN (fun s => zq58.C.tidy 122 s ((onN Kn122 up) .normal)) (onN Kn122 up))) (blockK 0 (onN (fun s => zq58.C.tidy 30 s (fun s' => runC zq58.C (zq58.O N) N zq58.c31 31 s' zq58.K0)) zq58.K0))) = zq58.o2 N v0 v1 v2 v3 v4 ((fun w0 w1 w2 w3 w4 => runC zq58.C (zq58.O N) N H979 979 (mkSt [(0, .one (.int .i64 w0)), (1, .one (.str w1)), (4, .one (.ptr 4 0)), (6, .one (.nl)), (7, .one (.int .i64 w2))] [(4, some (25, [.int .i64 w3, .int .i64 w4]))] : St D0) ((fun up => (onN (fun s => zq58.C.tidy 122 s ((onN Kn122 up) .normal)) (onN Kn122 up))) (blockK 0 (onN (fun s => zq58.C.tidy 30 s (fun s' => runC zq58.C (zq58.O N) N zq58.c31 31 s' zq58.K0)) zq58.K0))))) ((fun w0 w1 w2 w3 w4 w5 => runC zq58.C (zq58.O N) N H31303 31303 (mkSt [(0, .one (.int .i64 w0)), (1, .one (.str w1)), (4, .one (.ptr 4 0)), (6, .one (.nl)), (7, .one (.int .i64 w2)), (46, .one (.bool w3))] [(4, some (25, [.int .i64 w4, .int .i64 w5]))] : St D0) (blockK 2 (blockK 1 ((fun up => (onN (fun s => zq58.C.tidy 978 s (fun s' => runC zq58.C (zq58.O N) N H979 979 s' up)) up)) ((fun up => (onN (fun s => zq58.C.tidy 122 s ((onN Kn122 up) .normal)) (onN Kn122 up))) (blockK 0 (onN (fun s => zq58.C.tidy 30 s (fun s' => runC zq58.C (zq58.O N) N zq58.c31 31 s' zq58.K0)) zq58.K0)))))))) := by kernel_rfl
def zq58.d2 (N : Nat) (v0 : Int) (v1 : ByteArray) (v2 : Int) (v3 : Int) (v4 : Int) (c2 : Int → ByteArray → Int → Int → Int → Option zq58.R) (c6 : Int → ByteArray → (List Int) → Int → Int → Int → Option zq58.R) : Option zq58.R := zq58.o2 N v0 v1 v2 v3 v4 ((fun w0 w1 w2 w3 w4 => zq58.d3 N w0 w1 w2 w3 w4 c2)) ((fun w0 w1 w2 w3 w4 w5 => zq58.d4 N w0 w1 w2 w3 w4 w5 c6))
theorem zq58.c244_2 : zq58.c244 = (.seq zq58.c488 (.seq (.block 1 (.block 2 (.seq zq58.c7824 (.cond (.tmp 37) zq58.c15650 (.seq zq58.c31302 zq58.c31303))))) zq58.c979)) := by kernel_rfl
theorem zq58.d2.run (N : Nat) (Kn122 : St D0 → Option zq58.R) (v0 : Int) (v1 : ByteArray) (v2 : Int) (v3 : Int) (v4 : Int) : runC zq58.C (zq58.O N) N zq58.c244 244 (mkSt [(0, .one (.int .i64 v0)), (1, .one (.str v1)), (4, .one (.ptr 4 0)), (6, .one (.nl)), (7, .one (.int .i64 v2))] [(4, some (25, [.int .i64 v3, .int .i64 v4]))] : St D0) (zq58.K244 N Kn122) = zq58.d2 N v0 v1 v2 v3 v4 ((fun w0 w1 w2 w3 w4 => Kn122 (mkSt [(0, .one (.int .i64 w0)), (1, .one (.str w1)), (4, .one (.ptr 4 0)), (6, .one (.nl)), (7, .one (.int .i64 w2))] [(4, some (25, [.int .i64 w3, .int .i64 w4]))] : St D0))) ((fun w0 w1 w2 w3 w4 w5 => Kn122 (mkSt [(0, .one (.int .i64 w0)), (1, .one (.str w1)), (4, .one (.ptr 4 0)), (6, .one (.sl true 3 w2)), (7, .one (.int .i64 w3))] [(4, some (25, [.int .i64 w4, .int .i64 w5]))] : St D0))) := by
  rw [zq58.c244_2]; unfold zq58.d2; exact (zq58.o2.run N Kn122 zq58.c979 zq58.c31303 v0 v1 v2 v3 v4).trans (congr (congr rfl (funext fun w0 => funext fun w1 => funext fun w2 => funext fun w3 => funext fun w4 => zq58.d3.run N Kn122 w0 w1 w2 w3 w4)) (funext fun w0 => funext fun w1 => funext fun w2 => funext fun w3 => funext fun w4 => funext fun w5 => zq58.d4.run N Kn122 w0 w1 w2 w3 w4 w5))
def zq58.o7 (N : Nat) (v0 : Int) (v1 : ByteArray) (v2 : List Int) (v3 : Int) (v4 : Bool) (v5 : Int) (v6 : Int) (c5 : Int → ByteArray → (List Int) → Int → Int → Int → Option zq58.R) : Option zq58.R :=
 bif v4 then
  some (0, 0, false)
 else
 bif ((Int.tmod v3 3) == 0) then
  bif (decide (0 ≤ v3)) then
   bif (decide (v3 < (v1.size : Int))) then
    bif (Nat.blt (v2.length + ([(w64 (10 * (w64 ((IntKind.wrap .u8) ((bt v1 v3) - 48)))))] : List Int).length) 17592186044416) then
     c5 v0 v1 (v2 ++ ([(w64 (10 * (w64 ((IntKind.wrap .u8) ((bt v1 v3) - 48)))))] : List Int)) v3 v5 v6
    else
    none
   else
   none
  else
  none
 else
 bif (Nat.blt 0 v2.length) then
  bif (decide (0 ≤ (w64 (((v2.length : Nat) : Int) - 1)))) then
   bif (decide ((w64 (((v2.length : Nat) : Int) - 1)) < ((v2.length : Nat) : Int))) then
    (v2[((w64 (((v2.length : Nat) : Int) - 1)) : Int).toNat]?).bind fun x1 =>
    bif (decide (0 ≤ v3)) then
     bif (decide (v3 < (v1.size : Int))) then
      bif (decide (0 ≤ (w64 (((v2.length : Nat) : Int) - 1)))) then
       bif (decide ((w64 (((v2.length : Nat) : Int) - 1)) < ((v2.length : Nat) : Int))) then
        (v2[((w64 (((v2.length : Nat) : Int) - 1)) : Int).toNat]?).bind fun x2 =>
        bif (Nat.ble v2.length (v2.set ((w64 (((v2.length : Nat) : Int) - 1)) : Int).toNat (w64 (x1 + (w64 ((IntKind.wrap .u8) ((bt v1 v3) - 48)))))).length) then
         c5 v0 v1 ((v2.set ((w64 (((v2.length : Nat) : Int) - 1)) : Int).toNat (w64 (x1 + (w64 ((IntKind.wrap .u8) ((bt v1 v3) - 48)))))).take v2.length) v3 v5 v6
        else
        none
       else
       none
      else
      none
     else
     none
    else
    none
   else
   none
  else
  none
 else
 bif (decide (0 ≤ (w64 ((v2.length : Int) - 1)))) then
  bif (decide ((w64 ((v2.length : Int) - 1)) < (v2.length : Int))) then
   (v2[((w64 ((v2.length : Int) - 1)) : Int).toNat]?).bind fun x3 =>
   bif (decide (0 ≤ v3)) then
    bif (decide (v3 < (v1.size : Int))) then
     bif (decide (0 ≤ (w64 ((v2.length : Int) - 1)))) then
      bif (decide ((w64 ((v2.length : Int) - 1)) < (v2.length : Int))) then
       none
      else
      none
     else
     none
    else
    none
   else
   none
  else
  none
 else
 none
theorem zq58.o7.run (N : Nat) (Kb489 : St D0 → Option zq58.R) (Kn122 : St D0 → Option zq58.R) (v0 : Int) (v1 : ByteArray) (v2 : List Int) (v3 : Int) (v4 : Bool) (v5 : Int) (v6 : Int) : runC zq58.C (zq58.O N) N zq58.c31303 31303 (mkSt [(0, .one (.int .i64 v0)), (1, .one (.str v1)), (4, .one (.ptr 4 0)), (6, .one (.sl true 3 v2)), (7, .one (.int .i64 v3)), (46, .one (.bool v4))] [(4, some (25, [.int .i64 v5, .int .i64 v6]))] : St D0) (blockK 2 (blockK 1 ((fun up => (onN (fun s => zq58.C.tidy 978 s Kb489) up)) ((fun up => (onN (fun s => zq58.C.tidy 122 s ((onN Kn122 up) .normal)) (onN Kn122 up))) (blockK 0 (onN (fun s => zq58.C.tidy 30 s (fun s' => runC zq58.C (zq58.O N) N zq58.c31 31 s' zq58.K0)) zq58.K0)))))) = zq58.o7 N v0 v1 v2 v3 v4 v5 v6 ((fun w0 w1 w2 w3 w4 w5 => Kb489 (mkSt [(0, .one (.int .i64 w0)), (1, .one (.str w1)), (4, .one (.ptr 4 0)), (6, .one (.sl true 3 w2)), (7, .one (.int .i64 w3))] [(4, some (25, [.int .i64 w4, .int .i64 w5]))] : St D0))) := by kernel_rfl
def zq58.d7 (N : Nat) (v0 : Int) (v1 : ByteArray) (v2 : List Int) (v3 : Int) (v4 : Bool) (v5 : Int) (v6 : Int) (c6 : Int → ByteArray → (List Int) → Int → Int → Int → Option zq58.R) : Option zq58.R := zq58.o7 N v0 v1 v2 v3 v4 v5 v6 ((fun w0 w1 w2 w3 w4 w5 => zq58.d5 N w0 w1 w2 w3 w4 w5 c6))
theorem zq58.d7.run (N : Nat) (Kn122 : St D0 → Option zq58.R) (v0 : Int) (v1 : ByteArray) (v2 : List Int) (v3 : Int) (v4 : Bool) (v5 : Int) (v6 : Int) : runC zq58.C (zq58.O N) N zq58.c31303 31303 (mkSt [(0, .one (.int .i64 v0)), (1, .one (.str v1)), (4, .one (.ptr 4 0)), (6, .one (.sl true 3 v2)), (7, .one (.int .i64 v3)), (46, .one (.bool v4))] [(4, some (25, [.int .i64 v5, .int .i64 v6]))] : St D0) (zq58.K31303 N Kn122) = zq58.d7 N v0 v1 v2 v3 v4 v5 v6 ((fun w0 w1 w2 w3 w4 w5 => Kn122 (mkSt [(0, .one (.int .i64 w0)), (1, .one (.str w1)), (4, .one (.ptr 4 0)), (6, .one (.sl true 3 w2)), (7, .one (.int .i64 w3))] [(4, some (25, [.int .i64 w4, .int .i64 w5]))] : St D0))) := by
  unfold zq58.d7; exact (zq58.o7.run N (zq58.B489 N Kn122) Kn122 v0 v1 v2 v3 v4 v5 v6).trans (congr rfl (funext fun w0 => funext fun w1 => funext fun w2 => funext fun w3 => funext fun w4 => funext fun w5 => zq58.d5.run N Kn122 w0 w1 w2 w3 w4 w5))
def zq58.K255 (N : Nat) : Ex → St D0 → Option zq58.R := zq58.K0
def zq58.o10 (N : Nat) (v0 : Int) (v1 : List Int) (v2 : Int) (v3 : Int) (v4 : Int) (v5 : Int) : Option zq58.R :=
 bif (decide (0 < (v1.length : Int))) then
  (v1[(0 : Int).toNat]?).bind fun x1 =>
  bif (decide (1 < (v1.length : Int))) then
   (v1[(1 : Int).toNat]?).bind fun x2 =>
   bif (decide (2 < (v1.length : Int))) then
    (v1[(2 : Int).toNat]?).bind fun x3 =>
    (zq56.g N (w64 ((w64 ((w64 ((w64 ((w64 ((w64 (x1 * 60)) + x2)) * 60)) + x3)) * v3)) + v2)) (w64 ((w64 (v0 * 3600)) * v3))).bind fun r4 =>
    some (r4.1, r4.2.1, r4.2.2)
   else
   none
  else
  none
 else
 none
theorem zq58.o10.run (N : Nat) (v0 : Int) (v1 : List Int) (v2 : Int) (v3 : Int) (v4 : Int) (v5 : Int) : runC zq58.C (zq58.O N) N zq58.c255 255 (mkSt [(0, .one (.int .i64 v0)), (4, .one (.ptr 4 0)), (6, .one (.sl true 3 v1)), (8, .one (.int .i64 v2)), (9, .one (.int .i64 v3))] [(4, some (25, [.int .i64 v4, .int .i64 v5]))] : St D0) zq58.K0 = zq58.o10 N v0 v1 v2 v3 v4 v5 := by kernel_rfl
def zq58.d10 (N : Nat) (v0 : Int) (v1 : List Int) (v2 : Int) (v3 : Int) (v4 : Int) (v5 : Int) : Option zq58.R := zq58.o10 N v0 v1 v2 v3 v4 v5
theorem zq58.d10.run (N : Nat) (v0 : Int) (v1 : List Int) (v2 : Int) (v3 : Int) (v4 : Int) (v5 : Int) : runC zq58.C (zq58.O N) N zq58.c255 255 (mkSt [(0, .one (.int .i64 v0)), (4, .one (.ptr 4 0)), (6, .one (.sl true 3 v1)), (8, .one (.int .i64 v2)), (9, .one (.int .i64 v3))] [(4, some (25, [.int .i64 v4, .int .i64 v5]))] : St D0) (zq58.K255 N) = zq58.d10 N v0 v1 v2 v3 v4 v5 := by
  exact (zq58.o10.run N v0 v1 v2 v3 v4 v5).trans rfl
def zq58.B127 (N : Nat) : St D0 → Option zq58.R := fun s' => runC zq58.C (zq58.O N) N zq58.c255 255 s' (zq58.K255 N)
def zq58.K32607 (N : Nat) : Ex → St D0 → Option zq58.R := (onN (fun s => zq58.C.tidy 254 s (zq58.B127 N)) zq58.K0)
def zq58.o11 (N : Nat) (v0 : Int) (v1 : List Int) (v2 : Int) (v3 : Int) (v4 : Bool) (v5 : Int) (v6 : Int) (c10 : Int → (List Int) → Int → Int → Int → Int → Option zq58.R) : Option zq58.R :=
 bif v4 then
  some (0, 0, false)
 else
 c10 v0 v1 v2 v3 v5 v6
theorem zq58.o11.run (N : Nat) (Kb127 : St D0 → Option zq58.R) (v0 : Int) (v1 : List Int) (v2 : Int) (v3 : Int) (v4 : Bool) (v5 : Int) (v6 : Int) : runC zq58.C (zq58.O N) N zq58.c32607 32607 (mkSt [(0, .one (.int .i64 v0)), (4, .one (.ptr 4 0)), (6, .one (.sl true 3 v1)), (8, .one (.int .i64 v2)), (9, .one (.int .i64 v3)), (126, .one (.bool v4))] [(4, some (25, [.int .i64 v5, .int .i64 v6]))] : St D0) (onN (fun s => zq58.C.tidy 254 s Kb127) zq58.K0) = zq58.o11 N v0 v1 v2 v3 v4 v5 v6 ((fun w0 w1 w2 w3 w4 w5 => Kb127 (mkSt [(0, .one (.int .i64 w0)), (4, .one (.ptr 4 0)), (6, .one (.sl true 3 w1)), (8, .one (.int .i64 w2)), (9, .one (.int .i64 w3))] [(4, some (25, [.int .i64 w4, .int .i64 w5]))] : St D0))) := by kernel_rfl
def zq58.d11 (N : Nat) (v0 : Int) (v1 : List Int) (v2 : Int) (v3 : Int) (v4 : Bool) (v5 : Int) (v6 : Int) : Option zq58.R := zq58.o11 N v0 v1 v2 v3 v4 v5 v6 ((fun w0 w1 w2 w3 w4 w5 => zq58.d10 N w0 w1 w2 w3 w4 w5))
theorem zq58.d11.run (N : Nat) (v0 : Int) (v1 : List Int) (v2 : Int) (v3 : Int) (v4 : Bool) (v5 : Int) (v6 : Int) : runC zq58.C (zq58.O N) N zq58.c32607 32607 (mkSt [(0, .one (.int .i64 v0)), (4, .one (.ptr 4 0)), (6, .one (.sl true 3 v1)), (8, .one (.int .i64 v2)), (9, .one (.int .i64 v3)), (126, .one (.bool v4))] [(4, some (25, [.int .i64 v5, .int .i64 v6]))] : St D0) (zq58.K32607 N) = zq58.d11 N v0 v1 v2 v3 v4 v5 v6 := by
  unfold zq58.d11; exact (zq58.o11.run N (zq58.B127 N) v0 v1 v2 v3 v4 v5 v6).trans (congr rfl (funext fun w0 => funext fun w1 => funext fun w2 => funext fun w3 => funext fun w4 => funext fun w5 => zq58.d10.run N w0 w1 w2 w3 w4 w5))
def zq58.K8149 (N : Nat) : Ex → St D0 → Option zq58.R := (onN (fun s => zq58.C.tidy 4074 s (fun s' => runC zq58.C (zq58.O N) N zq58.c4075 4075 s' (onN (fun s => zq58.C.tidy 254 s (zq58.B127 N)) zq58.K0))) (onN (fun s => zq58.C.tidy 254 s (zq58.B127 N)) zq58.K0))
def zq58.o9 (N : Nat) (v0 : Int) (v1 : List Int) (v2 : List ByteArray) (v3 : Bool) (v4 : Int) (v5 : Int) (c11 : Int → (List Int) → Int → Int → Bool → Int → Int → Option zq58.R) : Option zq58.R :=
 bif v3 then
  some (0, 0, false)
 else
 bif (decide (0 < (v2.length : Int))) then
  (v2[(0 : Int).toNat]?).bind fun x1 =>
  (zq74.g N x1).bind fun r2 =>
  bif (decide (1 < (v2.length : Int))) then
   (v2[(1 : Int).toNat]?).bind fun x3 =>
   (zq74.g N x3).bind fun r4 =>
   bif (decide (r4 < 2)) then
    c11 v0 v1 r2 r4 true v4 v5
   else
   (zq71.g N r2 1 (w64 (r4 - 1))).bind fun r5 =>
   bif (!r5) then
    c11 v0 v1 r2 r4 true v4 v5
   else
   (zq52.g N r2 r4).bind fun r6 =>
   c11 v0 v1 r2 r4 (r6 != 1) v4 v5
  else
  none
 else
 none
theorem zq58.o9.run (N : Nat) (Kb127 : St D0 → Option zq58.R) (H32607 : Code) (v0 : Int) (v1 : List Int) (v2 : List ByteArray) (v3 : Bool) (v4 : Int) (v5 : Int) : runC zq58.C (zq58.O N) N zq58.c8149 8149 (mkSt [(0, .one (.int .i64 v0)), (4, .one (.ptr 4 0)), (6, .one (.sl true 3 v1)), (10, .one (.sl true 9 v2)), (102, .one (.bool v3))] [(4, some (25, [.int .i64 v4, .int .i64 v5]))] : St D0) (onN (fun s => zq58.C.tidy 4074 s (fun s' => runC zq58.C (zq58.O N) N (.seq zq58.c8150 (.seq zq58.c16302 (.seq zq58.c32606 H32607))) 4075 s' (onN (fun s => zq58.C.tidy 254 s Kb127) zq58.K0))) (onN (fun s => zq58.C.tidy 254 s Kb127) zq58.K0)) = zq58.o9 N v0 v1 v2 v3 v4 v5 ((fun w0 w1 w2 w3 w4 w5 w6 => runC zq58.C (zq58.O N) N H32607 32607 (mkSt [(0, .one (.int .i64 w0)), (4, .one (.ptr 4 0)), (6, .one (.sl true 3 w1)), (8, .one (.int .i64 w2)), (9, .one (.int .i64 w3)), (126, .one (.bool w4))] [(4, some (25, [.int .i64 w5, .int .i64 w6]))] : St D0) (onN (fun s => zq58.C.tidy 254 s Kb127) zq58.K0))) := by kernel_rfl
def zq58.d9 (N : Nat) (v0 : Int) (v1 : List Int) (v2 : List ByteArray) (v3 : Bool) (v4 : Int) (v5 : Int) : Option zq58.R := zq58.o9 N v0 v1 v2 v3 v4 v5 ((fun w0 w1 w2 w3 w4 w5 w6 => zq58.d11 N w0 w1 w2 w3 w4 w5 w6))
theorem zq58.d9.run (N : Nat) (v0 : Int) (v1 : List Int) (v2 : List ByteArray) (v3 : Bool) (v4 : Int) (v5 : Int) : runC zq58.C (zq58.O N) N zq58.c8149 8149 (mkSt [(0, .one (.int .i64 v0)), (4, .one (.ptr 4 0)), (6, .one (.sl true 3 v1)), (10, .one (.sl true 9 v2)), (102, .one (.bool v3))] [(4, some (25, [.int .i64 v4, .int .i64 v5]))] : St D0) (zq58.K8149 N) = zq58.d9 N v0 v1 v2 v3 v4 v5 := by
  unfold zq58.d9; exact (zq58.o9.run N (zq58.B127 N) zq58.c32607 v0 v1 v2 v3 v4 v5).trans (congr rfl (funext fun w0 => funext fun w1 => funext fun w2 => funext fun w3 => funext fun w4 => funext fun w5 => funext fun w6 => zq58.d11.run N w0 w1 w2 w3 w4 w5 w6))
def zq58.K125 (N : Nat) : Ex → St D0 → Option zq58.R := (onN (fun s => zq58.C.tidy 62 s (fun s' => runC zq58.C (zq58.O N) N zq58.c63 63 s' zq58.K0)) zq58.K0)
def zq58.o8 (N : Nat) (v0 : Int) (v1 : ByteArray) (v2 : List Int) (v3 : Bool) (v4 : Int) (v5 : Int) (c9 : Int → (List Int) → (List ByteArray) → Bool → Int → Int → Option zq58.R) (c10 : Int → (List Int) → Int → Int → Int → Int → Option zq58.R) : Option zq58.R :=
 bif v3 then
  some (0, 0, false)
 else
 bif (decide ((v1.size : Int) > 8)) then
  bif (decide (0 ≤ (v1.size : Int))) then
   bif (decide ((v1.size : Int) ≤ (v1.size : Int))) then
    bif (decide (9 ≤ (v1.size : Int))) then
     (zq76.g N (v1.extract (9 : Int).toNat ((v1.size : Int) : Int).toNat) 47).bind fun r1 =>
     bif (decide (8 < (v1.size : Int))) then
      bif ((bt v1 8) != 43) then
       c9 v0 v2 r1 true v4 v5
      else
      c9 v0 v2 r1 ((r1.length : Int) != 2) v4 v5
     else
     none
    else
    none
   else
   none
  else
  none
 else
 c10 v0 v2 0 1 v4 v5
theorem zq58.o8.run (N : Nat) (H255 : Code) (H8149 : Code) (v0 : Int) (v1 : ByteArray) (v2 : List Int) (v3 : Bool) (v4 : Int) (v5 : Int) : runC zq58.C (zq58.O N) N zq58.c125 125 (mkSt [(0, .one (.int .i64 v0)), (1, .one (.str v1)), (4, .one (.ptr 4 0)), (6, .one (.sl true 3 v2)), (87, .one (.bool v3))] [(4, some (25, [.int .i64 v4, .int .i64 v5]))] : St D0) (onN (fun s => zq58.C.tidy 62 s (fun s' => runC zq58.C (zq58.O N) N (.seq zq58.c126 (.seq (.seq zq58.c508 (.cond (.tmp 91) (.seq zq58.c2036 (.seq (.seq zq58.c8148 H8149) zq58.c4075)) zq58.c1019)) H255)) 63 s' zq58.K0)) zq58.K0) = zq58.o8 N v0 v1 v2 v3 v4 v5 ((fun w0 w1 w2 w3 w4 w5 => runC zq58.C (zq58.O N) N H8149 8149 (mkSt [(0, .one (.int .i64 w0)), (4, .one (.ptr 4 0)), (6, .one (.sl true 3 w1)), (10, .one (.sl true 9 w2)), (102, .one (.bool w3))] [(4, some (25, [.int .i64 w4, .int .i64 w5]))] : St D0) ((fun up => (onN (fun s => zq58.C.tidy 4074 s (fun s' => runC zq58.C (zq58.O N) N zq58.c4075 4075 s' up)) up)) (onN (fun s => zq58.C.tidy 254 s (fun s' => runC zq58.C (zq58.O N) N H255 255 s' zq58.K0)) zq58.K0)))) ((fun w0 w1 w2 w3 w4 w5 => runC zq58.C (zq58.O N) N H255 255 (mkSt [(0, .one (.int .i64 w0)), (4, .one (.ptr 4 0)), (6, .one (.sl true 3 w1)), (8, .one (.int .i64 w2)), (9, .one (.int .i64 w3))] [(4, some (25, [.int .i64 w4, .int .i64 w5]))] : St D0) zq58.K0)) := by kernel_rfl
def zq58.d8 (N : Nat) (v0 : Int) (v1 : ByteArray) (v2 : List Int) (v3 : Bool) (v4 : Int) (v5 : Int) : Option zq58.R := zq58.o8 N v0 v1 v2 v3 v4 v5 ((fun w0 w1 w2 w3 w4 w5 => zq58.d9 N w0 w1 w2 w3 w4 w5)) ((fun w0 w1 w2 w3 w4 w5 => zq58.d10 N w0 w1 w2 w3 w4 w5))
theorem zq58.d8.run (N : Nat) (v0 : Int) (v1 : ByteArray) (v2 : List Int) (v3 : Bool) (v4 : Int) (v5 : Int) : runC zq58.C (zq58.O N) N zq58.c125 125 (mkSt [(0, .one (.int .i64 v0)), (1, .one (.str v1)), (4, .one (.ptr 4 0)), (6, .one (.sl true 3 v2)), (87, .one (.bool v3))] [(4, some (25, [.int .i64 v4, .int .i64 v5]))] : St D0) (zq58.K125 N) = zq58.d8 N v0 v1 v2 v3 v4 v5 := by
  unfold zq58.d8; exact (zq58.o8.run N zq58.c255 zq58.c8149 v0 v1 v2 v3 v4 v5).trans (congr (congr rfl (funext fun w0 => funext fun w1 => funext fun w2 => funext fun w3 => funext fun w4 => funext fun w5 => zq58.d9.run N w0 w1 w2 w3 w4 w5)) (funext fun w0 => funext fun w1 => funext fun w2 => funext fun w3 => funext fun w4 => funext fun w5 => zq58.d10.run N w0 w1 w2 w3 w4 w5))
def zq58.o6 (N : Nat) (v0 : Int) (v1 : ByteArray) (v2 : List Int) (v3 : Int) (v4 : Int) (v5 : Int) (c5 : Int → ByteArray → (List Int) → Int → Int → Int → Option zq58.R) (c7 : Int → ByteArray → (List Int) → Int → Bool → Int → Int → Option zq58.R) (c8 : Int → ByteArray → (List Int) → Bool → Int → Int → Option zq58.R) : Option zq58.R :=
 bif (decide (v3 < 8)) then
  bif ((Int.tmod v3 3) == 2) then
   bif (decide (0 ≤ v3)) then
    bif (decide (v3 < (v1.size : Int))) then
     bif ((bt v1 v3) != 58) then
      some (0, 0, false)
     else
     c5 v0 v1 v2 v3 v4 v5
    else
    none
   else
   none
  else
  bif (decide (0 ≤ v3)) then
   bif (decide (v3 < (v1.size : Int))) then
    bif (decide ((bt v1 v3) < 48)) then
     c7 v0 v1 v2 v3 true v4 v5
    else
    bif (decide (0 ≤ v3)) then
     bif (decide (v3 < (v1.size : Int))) then
      c7 v0 v1 v2 v3 (decide ((bt v1 v3) > 57)) v4 v5
     else
     none
    else
    none
   else
   none
  else
  none
 else
 bif (decide (0 < (v2.length : Int))) then
  (v2[(0 : Int).toNat]?).bind fun x1 =>
  bif (decide (x1 ≥ v0)) then
   c8 v0 v1 v2 true v4 v5
  else
  bif (decide (1 < (v2.length : Int))) then
   (v2[(1 : Int).toNat]?).bind fun x2 =>
   bif (decide (x2 > 59)) then
    c8 v0 v1 v2 true v4 v5
   else
   bif (decide (2 < (v2.length : Int))) then
    (v2[(2 : Int).toNat]?).bind fun x3 =>
    c8 v0 v1 v2 (decide (x3 > 59)) v4 v5
   else
   none
  else
  none
 else
 none
theorem zq58.o6.run (N : Nat) (Kn122 : St D0 → Option zq58.R) (H125 : Code) (H979 : Code) (H31303 : Code) (v0 : Int) (v1 : ByteArray) (v2 : List Int) (v3 : Int) (v4 : Int) (v5 : Int) : runC zq58.C (zq58.O N) N (.seq zq58.c488 (.seq (.block 1 (.block 2 (.seq zq58.c7824 (.cond (.tmp 37) zq58.c15650 (.seq zq58.c31302 H31303))))) H979)) 244 (mkSt [(0, .one (.int .i64 v0)), (1, .one (.str v1)), (4, .one (.ptr 4 0)), (6, .one (.sl true 3 v2)), (7, .one (.int .i64 v3))] [(4, some (25, [.int .i64 v4, .int .i64 v5]))] : St D0) ((fun up => (onN (fun s => zq58.C.tidy 122 s ((onN Kn122 up) .normal)) (onN Kn122 up))) (blockK 0 (onN (fun s => zq58.C.tidy 30 s (fun s' => runC zq58.C (zq58.O N) N (.seq (.seq zq58.c124 H125) zq58.c63) 31 s' zq58.K0)) zq58.K0))) = zq58.o6 N v0 v1 v2 v3 v4 v5 ((fun w0 w1 w2 w3 w4 w5 => runC zq58.C (zq58.O N) N H979 979 (mkSt [(0, .one (.int .i64 w0)), (1, .one (.str w1)), (4, .one (.ptr 4 0)), (6, .one (.sl true 3 w2)), (7, .one (.int .i64 w3))] [(4, some (25, [.int .i64 w4, .int .i64 w5]))] : St D0) ((fun up => (onN (fun s => zq58.C.tidy 122 s ((onN Kn122 up) .normal)) (onN Kn122 up))) (blockK 0 (onN (fun s => zq58.C.tidy 30 s (fun s' => runC zq58.C (zq58.O N) N (.seq (.seq zq58.c124 H125) zq58.c63) 31 s' zq58.K0)) zq58.K0))))) ((fun w0 w1 w2 w3 w4 w5 w6 => runC zq58.C (zq58.O N) N H31303 31303 (mkSt [(0, .one (.int .i64 w0)), (1, .one (.str w1)), (4, .one (.ptr 4 0)), (6, .one (.sl true 3 w2)), (7, .one (.int .i64 w3)), (46, .one (.bool w4))] [(4, some (25, [.int .i64 w5, .int .i64 w6]))] : St D0) (blockK 2 (blockK 1 ((fun up => (onN (fun s => zq58.C.tidy 978 s (fun s' => runC zq58.C (zq58.O N) N H979 979 s' up)) up)) ((fun up => (onN (fun s => zq58.C.tidy 122 s ((onN Kn122 up) .normal)) (onN Kn122 up))) (blockK 0 (onN (fun s => zq58.C.tidy 30 s (fun s' => runC zq58.C (zq58.O N) N (.seq (.seq zq58.c124 H125) zq58.c63) 31 s' zq58.K0)) zq58.K0)))))))) ((fun w0 w1 w2 w3 w4 w5 => runC zq58.C (zq58.O N) N H125 125 (mkSt [(0, .one (.int .i64 w0)), (1, .one (.str w1)), (4, .one (.ptr 4 0)), (6, .one (.sl true 3 w2)), (87, .one (.bool w3))] [(4, some (25, [.int .i64 w4, .int .i64 w5]))] : St D0) (onN (fun s => zq58.C.tidy 62 s (fun s' => runC zq58.C (zq58.O N) N zq58.c63 63 s' zq58.K0)) zq58.K0))) := by kernel_rfl
def zq58.d6 (N : Nat) (v0 : Int) (v1 : ByteArray) (v2 : List Int) (v3 : Int) (v4 : Int) (v5 : Int) (c6 : Int → ByteArray → (List Int) → Int → Int → Int → Option zq58.R) : Option zq58.R := zq58.o6 N v0 v1 v2 v3 v4 v5 ((fun w0 w1 w2 w3 w4 w5 => zq58.d5 N w0 w1 w2 w3 w4 w5 c6)) ((fun w0 w1 w2 w3 w4 w5 w6 => zq58.d7 N w0 w1 w2 w3 w4 w5 w6 c6)) ((fun w0 w1 w2 w3 w4 w5 => zq58.d8 N w0 w1 w2 w3 w4 w5))
theorem zq58.c244_6 : zq58.c244 = (.seq zq58.c488 (.seq (.block 1 (.block 2 (.seq zq58.c7824 (.cond (.tmp 37) zq58.c15650 (.seq zq58.c31302 zq58.c31303))))) zq58.c979)) := by kernel_rfl
theorem zq58.d6.run (N : Nat) (Kn122 : St D0 → Option zq58.R) (v0 : Int) (v1 : ByteArray) (v2 : List Int) (v3 : Int) (v4 : Int) (v5 : Int) : runC zq58.C (zq58.O N) N zq58.c244 244 (mkSt [(0, .one (.int .i64 v0)), (1, .one (.str v1)), (4, .one (.ptr 4 0)), (6, .one (.sl true 3 v2)), (7, .one (.int .i64 v3))] [(4, some (25, [.int .i64 v4, .int .i64 v5]))] : St D0) (zq58.K244 N Kn122) = zq58.d6 N v0 v1 v2 v3 v4 v5 ((fun w0 w1 w2 w3 w4 w5 => Kn122 (mkSt [(0, .one (.int .i64 w0)), (1, .one (.str w1)), (4, .one (.ptr 4 0)), (6, .one (.sl true 3 w2)), (7, .one (.int .i64 w3))] [(4, some (25, [.int .i64 w4, .int .i64 w5]))] : St D0))) := by
  rw [zq58.c244_6]; unfold zq58.d6; exact (zq58.o6.run N Kn122 zq58.c125 zq58.c979 zq58.c31303 v0 v1 v2 v3 v4 v5).trans (congr (congr (congr rfl (funext fun w0 => funext fun w1 => funext fun w2 => funext fun w3 => funext fun w4 => funext fun w5 => zq58.d5.run N Kn122 w0 w1 w2 w3 w4 w5)) (funext fun w0 => funext fun w1 => funext fun w2 => funext fun w3 => funext fun w4 => funext fun w5 => funext fun w6 => zq58.d7.run N Kn122 w0 w1 w2 w3 w4 w5 w6)) (funext fun w0 => funext fun w1 => funext fun w2 => funext fun w3 => funext fun w4 => funext fun w5 => zq58.d8.run N w0 w1 w2 w3 w4 w5))
def zq58.K122 (N : Nat) : Ex → St D0 → Option zq58.R := (blockK 0 (onN (fun s => zq58.C.tidy 30 s (fun s' => runC zq58.C (zq58.O N) N zq58.c31 31 s' zq58.K0)) zq58.K0))
mutual
def zq58.l2 (N : Nat) : Nat → Int → ByteArray → Int → Int → Int → Option zq58.R
  | 0, _, _, _, _, _ => none
  | n + 1, v0, v1, v2, v3, v4 => zq58.d2 N v0 v1 v2 v3 v4 ((fun w0 w1 w2 w3 w4 => zq58.l2 N n w0 w1 w2 w3 w4)) ((fun w0 w1 w2 w3 w4 w5 => zq58.l6 N n w0 w1 w2 w3 w4 w5))
def zq58.l6 (N : Nat) : Nat → Int → ByteArray → (List Int) → Int → Int → Int → Option zq58.R
  | 0, _, _, _, _, _, _ => none
  | n + 1, v0, v1, v2, v3, v4, v5 => zq58.d6 N v0 v1 v2 v3 v4 v5 ((fun w0 w1 w2 w3 w4 w5 => zq58.l6 N n w0 w1 w2 w3 w4 w5))
end
theorem zq58.loop122 (N : Nat) : ∀ n, (∀ (v0 : Int) (v1 : ByteArray) (v2 : Int) (v3 : Int) (v4 : Int), iter (loopF zq58.C (zq58.O N) N zq58.c244 122) n (mkSt [(0, .one (.int .i64 v0)), (1, .one (.str v1)), (4, .one (.ptr 4 0)), (6, .one (.nl)), (7, .one (.int .i64 v2))] [(4, some (25, [.int .i64 v3, .int .i64 v4]))] : St D0) (zq58.K122 N) = zq58.l2 N n v0 v1 v2 v3 v4) ∧ (∀ (v0 : Int) (v1 : ByteArray) (v2 : List Int) (v3 : Int) (v4 : Int) (v5 : Int), iter (loopF zq58.C (zq58.O N) N zq58.c244 122) n (mkSt [(0, .one (.int .i64 v0)), (1, .one (.str v1)), (4, .one (.ptr 4 0)), (6, .one (.sl true 3 v2)), (7, .one (.int .i64 v3))] [(4, some (25, [.int .i64 v4, .int .i64 v5]))] : St D0) (zq58.K122 N) = zq58.l6 N n v0 v1 v2 v3 v4 v5)
  | 0 => ⟨(fun v0 v1 v2 v3 v4 => rfl), (fun v0 v1 v2 v3 v4 v5 => rfl)⟩
  | n + 1 => ⟨(fun v0 v1 v2 v3 v4 => (zq58.d2.run N (fun s => iter (loopF zq58.C (zq58.O N) N zq58.c244 122) n s (zq58.K122 N)) v0 v1 v2 v3 v4).trans (show _ = zq58.d2 N v0 v1 v2 v3 v4 ((fun w0 w1 w2 w3 w4 => zq58.l2 N n w0 w1 w2 w3 w4)) ((fun w0 w1 w2 w3 w4 w5 => zq58.l6 N n w0 w1 w2 w3 w4 w5)) from (congr (congr rfl (funext fun w0 => funext fun w1 => funext fun w2 => funext fun w3 => funext fun w4 => (zq58.loop122 N n).1 w0 w1 w2 w3 w4)) (funext fun w0 => funext fun w1 => funext fun w2 => funext fun w3 => funext fun w4 => funext fun w5 => (zq58.loop122 N n).2 w0 w1 w2 w3 w4 w5)))), (fun v0 v1 v2 v3 v4 v5 => (zq58.d6.run N (fun s => iter (loopF zq58.C (zq58.O N) N zq58.c244 122) n s (zq58.K122 N)) v0 v1 v2 v3 v4 v5).trans (show _ = zq58.d6 N v0 v1 v2 v3 v4 v5 ((fun w0 w1 w2 w3 w4 w5 => zq58.l6 N n w0 w1 w2 w3 w4 w5)) from (congr rfl (funext fun w0 => funext fun w1 => funext fun w2 => funext fun w3 => funext fun w4 => funext fun w5 => (zq58.loop122 N n).2 w0 w1 w2 w3 w4 w5))))⟩
def zq58.K13 (N : Nat) : Ex → St D0 → Option zq58.R := (onN (fun s => zq58.C.tidy 6 s (fun s' => runC zq58.C (zq58.O N) N zq58.c7 7 s' zq58.K0)) zq58.K0)
def zq58.o1 (N : Nat) (v0 : Int) (v1 : ByteArray) (v2 : Bool) (v3 : Int) (v4 : Int) (c2 : Int → ByteArray → Int → Int → Int → Option zq58.R) : Option zq58.R :=
 bif v2 then
  some (0, 0, false)
 else
 c2 v0 v1 0 v3 v4
theorem zq58.o1.run (N : Nat) (H244 : Code) (v0 : Int) (v1 : ByteArray) (v2 : Bool) (v3 : Int) (v4 : Int) : runC zq58.C (zq58.O N) N zq58.c13 13 (mkSt [(0, .one (.int .i64 v0)), (1, .one (.str v1)), (4, .one (.ptr 4 0)), (18, .one (.bool v2))] [(4, some (25, [.int .i64 v3, .int .i64 v4]))] : St D0) (onN (fun s => zq58.C.tidy 6 s (fun s' => runC zq58.C (zq58.O N) N (.seq zq58.c14 (.seq (.seq zq58.c60 (.block 0 (.loop H244))) zq58.c31)) 7 s' zq58.K0)) zq58.K0) = zq58.o1 N v0 v1 v2 v3 v4 ((fun w0 w1 w2 w3 w4 => iter (loopF zq58.C (zq58.O N) N H244 122) N (mkSt [(0, .one (.int .i64 w0)), (1, .one (.str w1)), (4, .one (.ptr 4 0)), (6, .one (.nl)), (7, .one (.int .i64 w2))] [(4, some (25, [.int .i64 w3, .int .i64 w4]))] : St D0) (blockK 0 (onN (fun s => zq58.C.tidy 30 s (fun s' => runC zq58.C (zq58.O N) N zq58.c31 31 s' zq58.K0)) zq58.K0)))) := by kernel_rfl
def zq58.d1 (N : Nat) (v0 : Int) (v1 : ByteArray) (v2 : Bool) (v3 : Int) (v4 : Int) : Option zq58.R := zq58.o1 N v0 v1 v2 v3 v4 ((fun w0 w1 w2 w3 w4 => zq58.l2 N N w0 w1 w2 w3 w4))
theorem zq58.d1.run (N : Nat) (v0 : Int) (v1 : ByteArray) (v2 : Bool) (v3 : Int) (v4 : Int) : runC zq58.C (zq58.O N) N zq58.c13 13 (mkSt [(0, .one (.int .i64 v0)), (1, .one (.str v1)), (4, .one (.ptr 4 0)), (18, .one (.bool v2))] [(4, some (25, [.int .i64 v3, .int .i64 v4]))] : St D0) (zq58.K13 N) = zq58.d1 N v0 v1 v2 v3 v4 := by
  unfold zq58.d1; exact (zq58.o1.run N zq58.c244 v0 v1 v2 v3 v4).trans (congr rfl (funext fun w0 => funext fun w1 => funext fun w2 => funext fun w3 => funext fun w4 => (zq58.loop122 N N).1 w0 w1 w2 w3 w4))
def zq58.o0 (N : Nat) (a0 : Int) (a1 : ByteArray) (c1 : Int → ByteArray → Bool → Int → Int → Option zq58.R) : Option zq58.R :=
 bif (decide ((a1.size : Int) < 8)) then
  c1 a0 a1 true 0 0
 else
 c1 a0 a1 (decide ((a1.size : Int) > 22)) 0 0
theorem zq58.o0.run (N : Nat) (H13 : Code) (a0 : Int) (a1 : ByteArray) : runC zq58.C (zq58.O N) N (.seq zq58.c2 (.seq (.seq zq58.c12 H13) zq58.c7)) 1 (st0 [.one (.int .i64 a0), .one (.str a1)] [] : St D0) zq58.K0 = zq58.o0 N a0 a1 ((fun w0 w1 w2 w3 w4 => runC zq58.C (zq58.O N) N H13 13 (mkSt [(0, .one (.int .i64 w0)), (1, .one (.str w1)), (4, .one (.ptr 4 0)), (18, .one (.bool w2))] [(4, some (25, [.int .i64 w3, .int .i64 w4]))] : St D0) (onN (fun s => zq58.C.tidy 6 s (fun s' => runC zq58.C (zq58.O N) N zq58.c7 7 s' zq58.K0)) zq58.K0))) := by kernel_rfl
def zq58.g (N : Nat) (a0 : Int) (a1 : ByteArray) : Option zq58.R := zq58.o0 N a0 a1 ((fun w0 w1 w2 w3 w4 => zq58.d1 N w0 w1 w2 w3 w4))
theorem zq58.c1_0 : zq58.c1 = (.seq zq58.c2 (.seq (.seq zq58.c12 zq58.c13) zq58.c7)) := by kernel_rfl
theorem zq58.g.run (N : Nat) (a0 : Int) (a1 : ByteArray) : runC zq58.C (zq58.O N) N zq58.c1 1 (st0 [.one (.int .i64 a0), .one (.str a1)] [] : St D0) zq58.K0 = zq58.g N a0 a1 := by
  rw [zq58.c1_0]; unfold zq58.g; exact (zq58.o0.run N zq58.c13 a0 a1).trans (congr rfl (funext fun w0 => funext fun w1 => funext fun w2 => funext fun w3 => funext fun w4 => zq58.d1.run N w0 w1 w2 w3 w4))
theorem zq58.good (N : Nat) (a0 : Int) (a1 : ByteArray) (r : zq58.R) (h : zq58.g N a0 a1 = some r) : Go.PM.Good Tryz.prog T0 89 [.one (.int .i64 a0), .one (.str a1)] [] (zq58.sig.ret r) (zq58.sig.bs r) :=
  good_fn tabOk0 mixed0 zq58.sig (zq58.E N) Tryz.func89 (by kernel_rfl) (by kernel_rfl) 85070596803467639362531009403438761971 0 0 [(12, [0, 1, 4, 18], [4]), (122, [0, 1, 4, 6, 7], [4]), (124, [0, 1, 4, 6, 87], [4]), (254, [0, 4, 6, 8, 9], [4]), (978, [0, 1, 4, 6, 7], [4]), (8148, [0, 4, 6, 10, 102], [4]), (31302, [0, 1, 4, 6, 7, 46], [4]), (32606, [0, 4, 6, 8, 9, 126], [4])] 237125443187377898191567724995513788308424704 true [(250431, false, 6, [0, 1, 4, 7], [4]), (250431, true, 6, [0, 1, 4, 7], [4])] [(true, [.any, .any]), (false, [.any])] (by kernel_rfl) rfl rfl ((zq58.g.run N a0 a1).trans h)
def zq58.ent (N : Nat) : Ent Tryz.prog T0 := mkEnt 89 [(false, [.any]), (false, [.any])] zq58.sig (fun t => zq58.g N t.1 t.2) (fun t r h => zq58.good N t.1 t.2 r h)
/-! ### zq45 -/
abbrev zq45.R : Type := Int × Int × Bool
abbrev zq45.sig : Sig := ⟨[(false, 1), (false, 1)], [], [.int .i64, .str], [(true, 2), (false, 1)], [], [.int .i64, .int .i64, .bool]⟩
def zq45.C : Cfg D0 := ⟨Tryz.prog, T0, 307, 0, 15, 0, [], 3136, false, []⟩
def zq45.E (N : Nat) : List (Ent Tryz.prog T0) := [zq55.ent N, zq58.ent N]
def zq45.O (N : Nat) : Orc D0 zq45.R := orcOf (zq45.E N)
def zq45.K0 : Ex → St D0 → Option zq45.R := exitK zq45.C Tryz.f31.results.toList [(true, [.any, .any]), (false, [.any])] (decOut zq45.sig)
def zq45.c1 : Code := codeAt (Tryz.f31.body.getD .skip) []
def zq45.o0 (N : Nat) (a0 : Int) (a1 : ByteArray) : Option zq45.R :=
 (zq55.g N a0).bind fun r1 =>
 bif (!r1) then
  some (0, 0, false)
 else
 (zq58.g N a0 a1).bind fun r2 =>
 some (r2.1, r2.2.1, r2.2.2)
theorem zq45.o0.run (N : Nat) (a0 : Int) (a1 : ByteArray) : runC zq45.C (zq45.O N) N zq45.c1 1 (st0 [.one (.int .i64 a0), .one (.str a1)] [] : St D0) zq45.K0 = zq45.o0 N a0 a1 := by kernel_rfl
def zq45.g (N : Nat) (a0 : Int) (a1 : ByteArray) : Option zq45.R := zq45.o0 N a0 a1
theorem zq45.g.run (N : Nat) (a0 : Int) (a1 : ByteArray) : runC zq45.C (zq45.O N) N zq45.c1 1 (st0 [.one (.int .i64 a0), .one (.str a1)] [] : St D0) zq45.K0 = zq45.g N a0 a1 := by
  exact (zq45.o0.run N a0 a1).trans rfl
theorem zq45.good (N : Nat) (a0 : Int) (a1 : ByteArray) (r : zq45.R) (h : zq45.g N a0 a1 = some r) : Go.PM.Good Tryz.prog T0 31 [.one (.int .i64 a0), .one (.str a1)] [] (zq45.sig.ret r) (zq45.sig.bs r) :=
  good_fn tabOk0 mixed0 zq45.sig (zq45.E N) Tryz.func31 (by kernel_rfl) (by kernel_rfl) 307 0 0 [] 3136 false [] [(true, [.any, .any]), (false, [.any])] (by kernel_rfl) rfl rfl ((zq45.g.run N a0 a1).trans h)
def zq45.ent (N : Nat) : Ent Tryz.prog T0 := mkEnt 31 [(false, [.any]), (false, [.any])] zq45.sig (fun t => zq45.g N t.1 t.2) (fun t r h => zq45.good N t.1 t.2 r h)
end Go.Proofs.YtccjoegnkiaibaaGreatDoor.M
namespace Go.Proofs.YtccjoegnkiaibaaGreatDoor.M
open Go Go.PM Go.Proofs.YtccjoegnkiaibaaGreatDoor.P
set_option linter.unusedVariables false
set_option maxRecDepth 100000
open Go.RowKit Go.Lib
/-! ### zq79 -/
abbrev zq79.R : Type := ByteArray × ByteArray × Bool
abbrev zq79.sig : Sig := ⟨[(false, 1), (false, 1)], [], [.str, .str], [(false, 1), (false, 1), (false, 1)], [], [.str, .str, .bool]⟩
theorem zq79.asd {p : Prop} (h : p) : Aside p := h
def zq79.g (N : Nat) (a0 : ByteArray) (a1 : ByteArray) : Option zq79.R := match a1.data.toList with
  | [c] => bif decide (a0.size < 4294967281) then some (if Lib.indexByte a0.data.toList c < 0 then (a0, ⟨#[]⟩, false) else (a0.extract 0 (Lib.indexByte a0.data.toList c).toNat, a0.extract ((Lib.indexByte a0.data.toList c).toNat + 1) a0.size, true)) else none
  | _ => none
set_option maxHeartbeats 2000000 in
theorem zq79.walk0 (a0 : ByteArray) (c : UInt8) (hs : a0.size < 4294967281) (r : ByteArray × ByteArray × Bool) (w : World) (h : (if Lib.indexByte a0.data.toList c < 0 then (a0, ⟨#[]⟩, false) else (a0.extract 0 (Lib.indexByte a0.data.toList c).toNat, a0.extract ((Lib.indexByte a0.data.toList c).toNat + 1) a0.size, true)) = r) :
    Calls Tryz.prog 115 #[.string a0, .string ⟨#[c]⟩] w fun e w' => e = .returned (.tuple #[.string r.1, .string r.2.1, .bool r.2.2]) ∧ Below w.heap.size w w' := by
  have hge := Lib.indexByte_ge a0.data.toList c
  by_cases hn : Lib.indexByte a0.data.toList c < 0
  · rw [if_pos hn] at h
    subst h
    have hix : Lib.indexByte a0.data.toList c = -1 := by omega
    have HI := zq79.asd (fun W => (by have := Tryz.stringslite_Index_one a0 c W; rw [hix] at this; exact this : Calls Tryz.prog 129 #[.string a0, .string ⟨#[c]⟩] W fun e w' => e = .returned (.int .i64 (-1)) ∧ w' = W))
    clear hix hn hge
    go_enter Tryz.func115, Tryz.ntmps115
    go_wp2_with (go_at_call 129; refine (HI.out _).mono ?_; rintro e w' ⟨rfl, rfl⟩)
    go_ret3
    exact ⟨rfl, Below.refl _ _⟩
  · rw [if_neg hn] at h
    subst h
    obtain ⟨i, hi⟩ : ∃ i : Nat, Lib.indexByte a0.data.toList c = i := ⟨(Lib.indexByte a0.data.toList c).toNat, by omega⟩
    have hlt : i < a0.size := by
      have h1 := (Lib.indexByte_some hi).1
      rcases Nat.lt_or_ge i a0.data.toList.length with z | z
      · rw [Array.length_toList] at z; exact z
      · rw [List.getElem?_eq_none z] at h1; cases h1
    have HI := zq79.asd (fun W => (by have := Tryz.stringslite_Index_one a0 c W; rw [hi] at this; exact this : Calls Tryz.prog 129 #[.string a0, .string ⟨#[c]⟩] W fun e w' => e = .returned (.int .i64 (i : Int)) ∧ w' = W))
    rw [hi, Int.toNat_natCast]
    clear hi hn hge
    have c1 : (0 : Int) ≤ ↑i := by omega
    have c2 : (↑i : Int) ≤ ↑a0.size := by omega
    have c3 : (0 : Int) ≤ ↑i + 1 := by omega
    have c4 : (↑i + 1 : Int) ≤ ↑a0.size := by omega
    go_enter Tryz.func115, Tryz.ntmps115
    go_wp2_with (go_at_call 129; refine (HI.out _).mono ?_; rintro e w' ⟨rfl, rfl⟩)
    go_region
    all_goals (try go_wp2)
    all_goals go_ret3
    all_goals exact ⟨rfl, by repeat (first | exact Below.refl _ _ | apply Below.drew)⟩
theorem zq79.walk (a0 : ByteArray) (c : UInt8) (hs : a0.size < 4294967281) (r : ByteArray × ByteArray × Bool) (w : World) (h : (if Lib.indexByte a0.data.toList c < 0 then (a0, ⟨#[]⟩, false) else (a0.extract 0 (Lib.indexByte a0.data.toList c).toNat, a0.extract ((Lib.indexByte a0.data.toList c).toNat + 1) a0.size, true)) = r) :
    Calls Tryz.prog 78 #[.string a0, .string ⟨#[c]⟩] w fun e w' => e = .returned (.tuple #[.string r.1, .string r.2.1, .bool r.2.2]) ∧ Below w.heap.size w w' := by
  have HC := zq79.asd (zq79.walk0 a0 c hs r w h)
  clear h
  go_enter Tryz.func78, Tryz.ntmps78
  go_wp2_with (go_at_call 115; refine HC.out.mono ?_; rintro e w' ⟨rfl, hB⟩; have HB := zq79.asd hB; clear hB)
  go_ret3
  exact ⟨rfl, HB.out⟩
theorem zq79.good (N : Nat) (a0 : ByteArray) (a1 : ByteArray) (r : zq79.R) (h : zq79.g N a0 a1 = some r) : Go.PM.Good Tryz.prog T0 78 [.one (.str a0), .one (.str a1)] [] (zq79.sig.ret r) (zq79.sig.bs r) := by
  obtain ⟨⟨l⟩⟩ := a1
  match l, h with
  | [ch], h =>
    obtain ⟨hc, h⟩ := bif_some (show (bif decide (a0.size < 4294967281) then some (if Lib.indexByte a0.data.toList ch < 0 then (a0, ⟨#[]⟩, false) else (a0.extract 0 (Lib.indexByte a0.data.toList ch).toNat, a0.extract ((Lib.indexByte a0.data.toList ch).toNat + 1) a0.size, true)) else none) = some r from h)
    have hc := of_decide_eq_true hc
    refine good_still (T := T0) ⟨_, Tryz.func78, by kernel_rfl, rfl⟩ [.one (.str a0), .one (.str ⟨#[ch]⟩)] (ret := zq79.sig.ret r) rfl rfl ?_
    intro w C blk vargs hsz hrep hag
    have ev : vargs = #[.string a0, .string ⟨#[ch]⟩] := (args2 hsz).trans (by rw [rep_str (hrep 0), rep_str (hrep 1)])
    rw [ev]
    refine (zq79.walk a0 ch hc r w (Option.some.inj h)).mono ?_
    rintro e w' ⟨rfl, hB⟩
    exact ⟨_, rfl, ⟨_, rfl, .cons (crep1 (ERep.str _)) (.cons (crep1 (ERep.str _)) (.cons (crep1 (ERep.bool _)) .nil))⟩, hB⟩
def zq79.ent (N : Nat) : Ent Tryz.prog T0 := mkEnt 78 [(false, [.any]), (false, [.any])] zq79.sig (fun t => zq79.g N t.1 t.2) (fun t r h => zq79.good N t.1 t.2 r h)

end Go.Proofs.YtccjoegnkiaibaaGreatDoor.M
namespace Go.Proofs.YtccjoegnkiaibaaGreatDoor.M
open Go Go.PM Go.Proofs.YtccjoegnkiaibaaGreatDoor.P
set_option linter.unusedVariables false
set_option maxRecDepth 100000
/-! ### zq8 -/
abbrev zq8.R : Type := Int × Int × Bool
abbrev zq8.sig : Sig := ⟨[(false, 1), (false, 1)], [], [.int .i64, .str], [(true, 2), (false, 1)], [], [.int .i64, .int .i64, .bool]⟩
def zq8.C : Cfg D0 := ⟨Tryz.prog, T0, 713623846363364534323867243649489114482210803, 0, 152, 0, [(12, [0, 1, 4, 31], [4]), (30, [0, 1, 4, 6, 7], [4]), (506, [0, 1, 4, 6, 7, 16, 74, 75, 76], [4]), (508, [0, 1, 4, 6, 7, 16, 113], [4]), (4090, [4, 21, 149], [4, 21]), (7900, [0, 1, 4, 12, 14, 63], [4])], 279136710100675558372219274963812913734746112, false, []⟩
def zq8.E (N : Nat) : List (Ent Tryz.prog T0) := [zq24.ent N, zq79.ent N, zq27.ent N, zq77.ent N, zq31.ent N, zq26.ent N, zq12.ent N]
def zq8.O (N : Nat) : Orc D0 zq8.R := orcOf (zq8.E N)
def zq8.K0 : Ex → St D0 → Option zq8.R := exitK zq8.C Tryz.f25.results.toList [(true, [.any, .any]), (false, [.any])] (decOut zq8.sig)
def zq8.c1 : Code := codeAt (Tryz.f25.body.getD .skip) []
def zq8.c2 : Code := codeAt (Tryz.f25.body.getD .skip) [false]
def zq8.c7 : Code := codeAt (Tryz.f25.body.getD .skip) [true, true]
def zq8.c12 : Code := codeAt (Tryz.f25.body.getD .skip) [true, false, false]
def zq8.c13 : Code := codeAt (Tryz.f25.body.getD .skip) [true, false, true]
def zq8.c14 : Code := codeAt (Tryz.f25.body.getD .skip) [true, true, false]
def zq8.c31 : Code := codeAt (Tryz.f25.body.getD .skip) [true, true, true, true]
def zq8.c60 : Code := codeAt (Tryz.f25.body.getD .skip) [true, true, true, false, false]
def zq8.c62 : Code := codeAt (Tryz.f25.body.getD .skip) [true, true, true, true, false]
def zq8.c122 : Code := codeAt (Tryz.f25.body.getD .skip) [true, true, true, false, true, false]
def zq8.c127 : Code := codeAt (Tryz.f25.body.getD .skip) [true, true, true, true, true, true]
def zq8.c247 : Code := codeAt (Tryz.f25.body.getD .skip) [true, true, true, false, true, true, true]
def zq8.c252 : Code := codeAt (Tryz.f25.body.getD .skip) [true, true, true, true, true, false, false]
def zq8.c255 : Code := codeAt (Tryz.f25.body.getD .skip) [true, true, true, true, true, true, true]
def zq8.c492 : Code := codeAt (Tryz.f25.body.getD .skip) [true, true, true, false, true, true, false, false]
def zq8.c508 : Code := codeAt (Tryz.f25.body.getD .skip) [true, true, true, true, true, true, false, false]
def zq8.c509 : Code := codeAt (Tryz.f25.body.getD .skip) [true, true, true, true, true, true, false, true]
def zq8.c510 : Code := codeAt (Tryz.f25.body.getD .skip) [true, true, true, true, true, true, true, false]
def zq8.c986 : Code := codeAt (Tryz.f25.body.getD .skip) [true, true, true, false, true, true, false, true, false]
def zq8.c1012 : Code := codeAt (Tryz.f25.body.getD .skip) [true, true, true, true, true, false, true, false, false]
def zq8.c1023 : Code := codeAt (Tryz.f25.body.getD .skip) [true, true, true, true, true, true, true, true, true]
def zq8.c1974 : Code := codeAt (Tryz.f25.body.getD .skip) [true, true, true, false, true, true, false, true, true, false]
def zq8.c2044 : Code := codeAt (Tryz.f25.body.getD .skip) [true, true, true, true, true, true, true, true, false, false]
def zq8.c3951 : Code := codeAt (Tryz.f25.body.getD .skip) [true, true, true, false, true, true, false, true, true, true, true]
def zq8.c4090 : Code := codeAt (Tryz.f25.body.getD .skip) [true, true, true, true, true, true, true, true, false, true, false]
def zq8.c4091 : Code := codeAt (Tryz.f25.body.getD .skip) [true, true, true, true, true, true, true, true, false, true, true]
def zq8.c7900 : Code := codeAt (Tryz.f25.body.getD .skip) [true, true, true, false, true, true, false, true, true, true, false, false]
def zq8.c7901 : Code := codeAt (Tryz.f25.body.getD .skip) [true, true, true, false, true, true, false, true, true, true, false, true]
def zq8.K4091 (N : Nat) : Ex → St D0 → Option zq8.R := (onN (fun s => zq8.C.tidy 1022 s (fun s' => runC zq8.C (zq8.O N) N zq8.c1023 1023 s' zq8.K0)) zq8.K0)
def zq8.o6 (N : Nat) (v0 : Bool) (v1 : Int) (v2 : Int) (v3 : Int) (v4 : Int) : Option zq8.R :=
 bif v0 then
  some (0, 0, false)
 else
 some (v3, v4, true)
theorem zq8.o6.run (N : Nat) (v0 : Bool) (v1 : Int) (v2 : Int) (v3 : Int) (v4 : Int) : runC zq8.C (zq8.O N) N zq8.c4091 4091 (mkSt [(4, .one (.ptr 4 0)), (21, .one (.ptr 21 0)), (149, .one (.bool v0))] [(4, some (25, [.int .i64 v1, .int .i64 v2])), (21, some (25, [.int .i64 v3, .int .i64 v4]))] : St D0) (onN (fun s => zq8.C.tidy 1022 s (fun s' => runC zq8.C (zq8.O N) N zq8.c1023 1023 s' zq8.K0)) zq8.K0) = zq8.o6 N v0 v1 v2 v3 v4 := by kernel_rfl
def zq8.d6 (N : Nat) (v0 : Bool) (v1 : Int) (v2 : Int) (v3 : Int) (v4 : Int) : Option zq8.R := zq8.o6 N v0 v1 v2 v3 v4
theorem zq8.d6.run (N : Nat) (v0 : Bool) (v1 : Int) (v2 : Int) (v3 : Int) (v4 : Int) : runC zq8.C (zq8.O N) N zq8.c4091 4091 (mkSt [(4, .one (.ptr 4 0)), (21, .one (.ptr 21 0)), (149, .one (.bool v0))] [(4, some (25, [.int .i64 v1, .int .i64 v2])), (21, some (25, [.int .i64 v3, .int .i64 v4]))] : St D0) (zq8.K4091 N) = zq8.d6 N v0 v1 v2 v3 v4 := by
  exact (zq8.o6.run N v0 v1 v2 v3 v4).trans rfl
def zq8.K509 (N : Nat) : Ex → St D0 → Option zq8.R := (onN (fun s => zq8.C.tidy 254 s (fun s' => runC zq8.C (zq8.O N) N zq8.c255 255 s' zq8.K0)) zq8.K0)
def zq8.o5 (N : Nat) (v0 : Int) (v1 : ByteArray) (v2 : Int) (v3 : Int) (v4 : List Int) (v5 : Bool) (v6 : Int) (v7 : Int) (c6 : Bool → Int → Int → Int → Int → Option zq8.R) : Option zq8.R :=
 bif v5 then
  some (0, 0, false)
 else
 bif (decide (0 < (v4.length : Int))) then
  (v4[(0 : Int).toNat]?).bind fun x1 =>
  bif (decide (1 < (v4.length : Int))) then
   (v4[(1 : Int).toNat]?).bind fun x2 =>
   bif (decide (2 < (v4.length : Int))) then
    (v4[(2 : Int).toNat]?).bind fun x3 =>
    (zq26.g N (w64 ((w64 ((w64 ((w64 ((w64 (x1 * 3600)) + (w64 (x2 * 60)))) + x3)) * v3)) + v2)) (w64 ((w64 (v0 * 3600)) * v3))).bind fun r4 =>
    (zq12.g N v0 r4.1 r4.2).bind fun r5 =>
    bif (!r5.2) then
     c6 true v6 v7 r4.1 r4.2
    else
    c6 (!(r5.1.toList == v1.toList)) v6 v7 r4.1 r4.2
   else
   none
  else
  none
 else
 none
theorem zq8.o5.run (N : Nat) (H4091 : Code) (v0 : Int) (v1 : ByteArray) (v2 : Int) (v3 : Int) (v4 : List Int) (v5 : Bool) (v6 : Int) (v7 : Int) : runC zq8.C (zq8.O N) N zq8.c509 509 (mkSt [(0, .one (.int .i64 v0)), (1, .one (.str v1)), (4, .one (.ptr 4 0)), (6, .one (.int .i64 v2)), (7, .one (.int .i64 v3)), (16, .one (.sl true 3 v4)), (113, .one (.bool v5))] [(4, some (25, [.int .i64 v6, .int .i64 v7]))] : St D0) (onN (fun s => zq8.C.tidy 254 s (fun s' => runC zq8.C (zq8.O N) N (.seq zq8.c510 (.seq (.seq zq8.c2044 (.seq zq8.c4090 H4091)) zq8.c1023)) 255 s' zq8.K0)) zq8.K0) = zq8.o5 N v0 v1 v2 v3 v4 v5 v6 v7 ((fun w0 w1 w2 w3 w4 => runC zq8.C (zq8.O N) N H4091 4091 (mkSt [(4, .one (.ptr 4 0)), (21, .one (.ptr 21 0)), (149, .one (.bool w0))] [(4, some (25, [.int .i64 w1, .int .i64 w2])), (21, some (25, [.int .i64 w3, .int .i64 w4]))] : St D0) (onN (fun s => zq8.C.tidy 1022 s (fun s' => runC zq8.C (zq8.O N) N zq8.c1023 1023 s' zq8.K0)) zq8.K0))) := by kernel_rfl
def zq8.d5 (N : Nat) (v0 : Int) (v1 : ByteArray) (v2 : Int) (v3 : Int) (v4 : List Int) (v5 : Bool) (v6 : Int) (v7 : Int) : Option zq8.R := zq8.o5 N v0 v1 v2 v3 v4 v5 v6 v7 ((fun w0 w1 w2 w3 w4 => zq8.d6 N w0 w1 w2 w3 w4))
theorem zq8.d5.run (N : Nat) (v0 : Int) (v1 : ByteArray) (v2 : Int) (v3 : Int) (v4 : List Int) (v5 : Bool) (v6 : Int) (v7 : Int) : runC zq8.C (zq8.O N) N zq8.c509 509 (mkSt [(0, .one (.int .i64 v0)), (1, .one (.str v1)), (4, .one (.ptr 4 0)), (6, .one (.int .i64 v2)), (7, .one (.int .i64 v3)), (16, .one (.sl true 3 v4)), (113, .one (.bool v5))] [(4, some (25, [.int .i64 v6, .int .i64 v7]))] : St D0) (zq8.K509 N) = zq8.d5 N v0 v1 v2 v3 v4 v5 v6 v7 := by
  unfold zq8.d5; exact (zq8.o5.run N zq8.c4091 v0 v1 v2 v3 v4 v5 v6 v7).trans (congr rfl (funext fun w0 => funext fun w1 => funext fun w2 => funext fun w3 => funext fun w4 => zq8.d6.run N w0 w1 w2 w3 w4))
def zq8.K1012 (N : Nat) (Kn506 : St D0 → Option zq8.R) : Ex → St D0 → Option zq8.R := ((fun up => (onN (fun s => zq8.C.tidy 506 s ((onN Kn506 up) .normal)) (onN Kn506 up))) (blockK 0 (onN (fun s => zq8.C.tidy 126 s (fun s' => runC zq8.C (zq8.O N) N zq8.c127 127 s' zq8.K0)) zq8.K0)))
def zq8.o4 (N : Nat) (v0 : Int) (v1 : ByteArray) (v2 : Int) (v3 : Int) (v4 : List Int) (v5 : List ByteArray) (v6 : Int) (v7 : Int) (v8 : Int) (v9 : Int) (c4 : Int → ByteArray → Int → Int → (List Int) → (List ByteArray) → Int → Int → Int → Int → Option zq8.R) (c5 : Int → ByteArray → Int → Int → (List Int) → Bool → Int → Int → Option zq8.R) : Option zq8.R :=
 bif (decide (v7 < v6)) then
  bif (decide (0 ≤ v7)) then
   bif (decide (v7 < (v5.length : Int))) then
    (v5[(v7 : Int).toNat]?).bind fun x1 =>
    (zq77.g N x1).bind fun r2 =>
    bif (!r2.2) then
     some (0, 0, false)
    else
    bif (Nat.blt (v4.length + ([r2.1] : List Int).length) 17592186044416) then
     c4 v0 v1 v2 v3 (v4 ++ ([r2.1] : List Int)) v5 v6 (w64 (v7 + 1)) v8 v9
    else
    none
   else
   none
  else
  none
 else
 bif (decide (0 < (v4.length : Int))) then
  (v4[(0 : Int).toNat]?).bind fun x3 =>
  (zq31.g N x3 0 (w64 (v0 - 1))).bind fun r4 =>
  bif (!r4) then
   c5 v0 v1 v2 v3 v4 true v8 v9
  else
  bif (decide (1 < (v4.length : Int))) then
   (v4[(1 : Int).toNat]?).bind fun x5 =>
   (zq31.g N x5 0 59).bind fun r6 =>
   bif (!r6) then
    c5 v0 v1 v2 v3 v4 true v8 v9
   else
   bif (decide (2 < (v4.length : Int))) then
    (v4[(2 : Int).toNat]?).bind fun x7 =>
    (zq31.g N x7 0 59).bind fun r8 =>
    c5 v0 v1 v2 v3 v4 (!r8) v8 v9
   else
   none
  else
  none
 else
 none
theorem zq8.o4.run (N : Nat) (Kn506 : St D0 → Option zq8.R) (H509 : Code) (v0 : Int) (v1 : ByteArray) (v2 : Int) (v3 : Int) (v4 : List Int) (v5 : List ByteArray) (v6 : Int) (v7 : Int) (v8 : Int) (v9 : Int) : runC zq8.C (zq8.O N) N zq8.c1012 1012 (mkSt [(0, .one (.int .i64 v0)), (1, .one (.str v1)), (4, .one (.ptr 4 0)), (6, .one (.int .i64 v2)), (7, .one (.int .i64 v3)), (16, .one (.sl true 3 v4)), (74, .one (.sl true 9 v5)), (75, .one (.int .i64 v6)), (76, .one (.int .i64 v7))] [(4, some (25, [.int .i64 v8, .int .i64 v9]))] : St D0) ((fun up => (onN (fun s => zq8.C.tidy 506 s ((onN Kn506 up) .normal)) (onN Kn506 up))) (blockK 0 (onN (fun s => zq8.C.tidy 126 s (fun s' => runC zq8.C (zq8.O N) N (.seq (.seq zq8.c508 H509) zq8.c255) 127 s' zq8.K0)) zq8.K0))) = zq8.o4 N v0 v1 v2 v3 v4 v5 v6 v7 v8 v9 ((fun w0 w1 w2 w3 w4 w5 w6 w7 w8 w9 => Kn506 (mkSt [(0, .one (.int .i64 w0)), (1, .one (.str w1)), (4, .one (.ptr 4 0)), (6, .one (.int .i64 w2)), (7, .one (.int .i64 w3)), (16, .one (.sl true 3 w4)), (74, .one (.sl true 9 w5)), (75, .one (.int .i64 w6)), (76, .one (.int .i64 w7))] [(4, some (25, [.int .i64 w8, .int .i64 w9]))] : St D0))) ((fun w0 w1 w2 w3 w4 w5 w6 w7 => runC zq8.C (zq8.O N) N H509 509 (mkSt [(0, .one (.int .i64 w0)), (1, .one (.str w1)), (4, .one (.ptr 4 0)), (6, .one (.int .i64 w2)), (7, .one (.int .i64 w3)), (16, .one (.sl true 3 w4)), (113, .one (.bool w5))] [(4, some (25, [.int .i64 w6, .int .i64 w7]))] : St D0) (onN (fun s => zq8.C.tidy 254 s (fun s' => runC zq8.C (zq8.O N) N zq8.c255 255 s' zq8.K0)) zq8.K0))) := by kernel_rfl
def zq8.d4 (N : Nat) (v0 : Int) (v1 : ByteArray) (v2 : Int) (v3 : Int) (v4 : List Int) (v5 : List ByteArray) (v6 : Int) (v7 : Int) (v8 : Int) (v9 : Int) (c4 : Int → ByteArray → Int → Int → (List Int) → (List ByteArray) → Int → Int → Int → Int → Option zq8.R) : Option zq8.R := zq8.o4 N v0 v1 v2 v3 v4 v5 v6 v7 v8 v9 c4 ((fun w0 w1 w2 w3 w4 w5 w6 w7 => zq8.d5 N w0 w1 w2 w3 w4 w5 w6 w7))
theorem zq8.d4.run (N : Nat) (Kn506 : St D0 → Option zq8.R) (v0 : Int) (v1 : ByteArray) (v2 : Int) (v3 : Int) (v4 : List Int) (v5 : List ByteArray) (v6 : Int) (v7 : Int) (v8 : Int) (v9 : Int) : runC zq8.C (zq8.O N) N zq8.c1012 1012 (mkSt [(0, .one (.int .i64 v0)), (1, .one (.str v1)), (4, .one (.ptr 4 0)), (6, .one (.int .i64 v2)), (7, .one (.int .i64 v3)), (16, .one (.sl true 3 v4)), (74, .one (.sl true 9 v5)), (75, .one (.int .i64 v6)), (76, .one (.int .i64 v7))] [(4, some (25, [.int .i64 v8, .int .i64 v9]))] : St D0) (zq8.K1012 N Kn506) = zq8.d4 N v0 v1 v2 v3 v4 v5 v6 v7 v8 v9 ((fun w0 w1 w2 w3 w4 w5 w6 w7 w8 w9 => Kn506 (mkSt [(0, .one (.int .i64 w0)), (1, .one (.str w1)), (4, .one (.ptr 4 0)), (6, .one (.int .i64 w2)), (7, .one (.int .i64 w3)), (16, .one (.sl true 3 w4)), (74, .one (.sl true 9 w5)), (75, .one (.int .i64 w6)), (76, .one (.int .i64 w7))] [(4, some (25, [.int .i64 w8, .int .i64 w9]))] : St D0))) := by
  unfold zq8.d4; exact (zq8.o4.run N Kn506 zq8.c509 v0 v1 v2 v3 v4 v5 v6 v7 v8 v9).trans (congr (congr rfl rfl) (funext fun w0 => funext fun w1 => funext fun w2 => funext fun w3 => funext fun w4 => funext fun w5 => funext fun w6 => funext fun w7 => zq8.d5.run N w0 w1 w2 w3 w4 w5 w6 w7))
def zq8.K506 (N : Nat) : Ex → St D0 → Option zq8.R := (blockK 0 (onN (fun s => zq8.C.tidy 126 s (fun s' => runC zq8.C (zq8.O N) N zq8.c127 127 s' zq8.K0)) zq8.K0))
def zq8.l4 (N : Nat) : Nat → Int → ByteArray → Int → Int → (List Int) → (List ByteArray) → Int → Int → Int → Int → Option zq8.R
  | 0, _, _, _, _, _, _, _, _, _, _ => none
  | n + 1, v0, v1, v2, v3, v4, v5, v6, v7, v8, v9 => zq8.d4 N v0 v1 v2 v3 v4 v5 v6 v7 v8 v9 ((fun w0 w1 w2 w3 w4 w5 w6 w7 w8 w9 => zq8.l4 N n w0 w1 w2 w3 w4 w5 w6 w7 w8 w9))
theorem zq8.loop506 (N : Nat) : ∀ n, (∀ (v0 : Int) (v1 : ByteArray) (v2 : Int) (v3 : Int) (v4 : List Int) (v5 : List ByteArray) (v6 : Int) (v7 : Int) (v8 : Int) (v9 : Int), iter (loopF zq8.C (zq8.O N) N zq8.c1012 506) n (mkSt [(0, .one (.int .i64 v0)), (1, .one (.str v1)), (4, .one (.ptr 4 0)), (6, .one (.int .i64 v2)), (7, .one (.int .i64 v3)), (16, .one (.sl true 3 v4)), (74, .one (.sl true 9 v5)), (75, .one (.int .i64 v6)), (76, .one (.int .i64 v7))] [(4, some (25, [.int .i64 v8, .int .i64 v9]))] : St D0) (zq8.K506 N) = zq8.l4 N n v0 v1 v2 v3 v4 v5 v6 v7 v8 v9)
  | 0 => (fun v0 v1 v2 v3 v4 v5 v6 v7 v8 v9 => rfl)
  | n + 1 => (fun v0 v1 v2 v3 v4 v5 v6 v7 v8 v9 => (zq8.d4.run N (fun s => iter (loopF zq8.C (zq8.O N) N zq8.c1012 506) n s (zq8.K506 N)) v0 v1 v2 v3 v4 v5 v6 v7 v8 v9).trans (show _ = zq8.d4 N v0 v1 v2 v3 v4 v5 v6 v7 v8 v9 ((fun w0 w1 w2 w3 w4 w5 w6 w7 w8 w9 => zq8.l4 N n w0 w1 w2 w3 w4 w5 w6 w7 w8 w9)) from (congr rfl (funext fun w0 => funext fun w1 => funext fun w2 => funext fun w3 => funext fun w4 => funext fun w5 => funext fun w6 => funext fun w7 => funext fun w8 => funext fun w9 => (zq8.loop506 N n) w0 w1 w2 w3 w4 w5 w6 w7 w8 w9))))
def zq8.K31 (N : Nat) : Ex → St D0 → Option zq8.R := zq8.K0
def zq8.o3 (N : Nat) (v0 : Int) (v1 : ByteArray) (v2 : Int) (v3 : Int) (v4 : Int) (v5 : Int) (c4 : Int → ByteArray → Int → Int → (List Int) → (List ByteArray) → Int → Int → Int → Int → Option zq8.R) : Option zq8.R :=
 bif (decide (2 ≤ (v1.size : Int))) then
  bif (decide (5 ≤ (v1.size : Int))) then
   bif (decide (8 ≤ (v1.size : Int))) then
    c4 v0 v1 v2 v3 ([] : List Int) ([(v1.extract (0 : Int).toNat (2 : Int).toNat), (v1.extract (3 : Int).toNat (5 : Int).toNat), (v1.extract (6 : Int).toNat (8 : Int).toNat)] : List ByteArray) (([(v1.extract (0 : Int).toNat (2 : Int).toNat), (v1.extract (3 : Int).toNat (5 : Int).toNat), (v1.extract (6 : Int).toNat (8 : Int).toNat)] : List ByteArray).length : Int) 0 v4 v5
   else
   none
  else
  none
 else
 none
theorem zq8.o3.run (N : Nat) (H1012 : Code) (v0 : Int) (v1 : ByteArray) (v2 : Int) (v3 : Int) (v4 : Int) (v5 : Int) : runC zq8.C (zq8.O N) N (.seq zq8.c62 (.seq (.seq zq8.c252 (.block 0 (.loop H1012))) zq8.c127)) 31 (mkSt [(0, .one (.int .i64 v0)), (1, .one (.str v1)), (4, .one (.ptr 4 0)), (6, .one (.int .i64 v2)), (7, .one (.int .i64 v3))] [(4, some (25, [.int .i64 v4, .int .i64 v5]))] : St D0) zq8.K0 = zq8.o3 N v0 v1 v2 v3 v4 v5 ((fun w0 w1 w2 w3 w4 w5 w6 w7 w8 w9 => iter (loopF zq8.C (zq8.O N) N H1012 506) N (mkSt [(0, .one (.int .i64 w0)), (1, .one (.str w1)), (4, .one (.ptr 4 0)), (6, .one (.int .i64 w2)), (7, .one (.int .i64 w3)), (16, .one (.sl true 3 w4)), (74, .one (.sl true 9 w5)), (75, .one (.int .i64 w6)), (76, .one (.int .i64 w7))] [(4, some (25, [.int .i64 w8, .int .i64 w9]))] : St D0) (blockK 0 (onN (fun s => zq8.C.tidy 126 s (fun s' => runC zq8.C (zq8.O N) N zq8.c127 127 s' zq8.K0)) zq8.K0)))) := by kernel_rfl
def zq8.d3 (N : Nat) (v0 : Int) (v1 : ByteArray) (v2 : Int) (v3 : Int) (v4 : Int) (v5 : Int) : Option zq8.R := zq8.o3 N v0 v1 v2 v3 v4 v5 ((fun w0 w1 w2 w3 w4 w5 w6 w7 w8 w9 => zq8.l4 N N w0 w1 w2 w3 w4 w5 w6 w7 w8 w9))
theorem zq8.c31_3 : zq8.c31 = (.seq zq8.c62 (.seq (.seq zq8.c252 (.block 0 (.loop zq8.c1012))) zq8.c127)) := by kernel_rfl
theorem zq8.d3.run (N : Nat) (v0 : Int) (v1 : ByteArray) (v2 : Int) (v3 : Int) (v4 : Int) (v5 : Int) : runC zq8.C (zq8.O N) N zq8.c31 31 (mkSt [(0, .one (.int .i64 v0)), (1, .one (.str v1)), (4, .one (.ptr 4 0)), (6, .one (.int .i64 v2)), (7, .one (.int .i64 v3))] [(4, some (25, [.int .i64 v4, .int .i64 v5]))] : St D0) (zq8.K31 N) = zq8.d3 N v0 v1 v2 v3 v4 v5 := by
  rw [zq8.c31_3]; unfold zq8.d3; exact (zq8.o3.run N zq8.c1012 v0 v1 v2 v3 v4 v5).trans (congr rfl (funext fun w0 => funext fun w1 => funext fun w2 => funext fun w3 => funext fun w4 => funext fun w5 => funext fun w6 => funext fun w7 => funext fun w8 => funext fun w9 => (zq8.loop506 N N) w0 w1 w2 w3 w4 w5 w6 w7 w8 w9))
def zq8.B15 (N : Nat) : St D0 → Option zq8.R := fun s' => runC zq8.C (zq8.O N) N zq8.c31 31 s' (zq8.K31 N)
def zq8.K7901 (N : Nat) : Ex → St D0 → Option zq8.R := ((fun up => (onN (fun s => zq8.C.tidy 3950 s (fun s' => runC zq8.C (zq8.O N) N zq8.c3951 3951 s' up)) up)) (onN (fun s => zq8.C.tidy 30 s (zq8.B15 N)) zq8.K0))
def zq8.o2 (N : Nat) (v0 : Int) (v1 : ByteArray) (v2 : Int) (v3 : Int) (v4 : Bool) (v5 : Int) (v6 : Int) (c3 : Int → ByteArray → Int → Int → Int → Int → Option zq8.R) : Option zq8.R :=
 bif v4 then
  some (0, 0, false)
 else
 c3 v0 v1 v2 v3 v5 v6
theorem zq8.o2.run (N : Nat) (Kb15 : St D0 → Option zq8.R) (v0 : Int) (v1 : ByteArray) (v2 : Int) (v3 : Int) (v4 : Bool) (v5 : Int) (v6 : Int) : runC zq8.C (zq8.O N) N zq8.c7901 7901 (mkSt [(0, .one (.int .i64 v0)), (1, .one (.str v1)), (4, .one (.ptr 4 0)), (12, .one (.int .i64 v2)), (14, .one (.int .i64 v3)), (63, .one (.bool v4))] [(4, some (25, [.int .i64 v5, .int .i64 v6]))] : St D0) (onN (fun s => zq8.C.tidy 3950 s (fun s' => runC zq8.C (zq8.O N) N zq8.c3951 3951 s' (onN (fun s => zq8.C.tidy 30 s Kb15) zq8.K0))) (onN (fun s => zq8.C.tidy 30 s Kb15) zq8.K0)) = zq8.o2 N v0 v1 v2 v3 v4 v5 v6 ((fun w0 w1 w2 w3 w4 w5 => Kb15 (mkSt [(0, .one (.int .i64 w0)), (1, .one (.str w1)), (4, .one (.ptr 4 0)), (6, .one (.int .i64 w2)), (7, .one (.int .i64 w3))] [(4, some (25, [.int .i64 w4, .int .i64 w5]))] : St D0))) := by kernel_rfl
def zq8.d2 (N : Nat) (v0 : Int) (v1 : ByteArray) (v2 : Int) (v3 : Int) (v4 : Bool) (v5 : Int) (v6 : Int) : Option zq8.R := zq8.o2 N v0 v1 v2 v3 v4 v5 v6 ((fun w0 w1 w2 w3 w4 w5 => zq8.d3 N w0 w1 w2 w3 w4 w5))
theorem zq8.d2.run (N : Nat) (v0 : Int) (v1 : ByteArray) (v2 : Int) (v3 : Int) (v4 : Bool) (v5 : Int) (v6 : Int) : runC zq8.C (zq8.O N) N zq8.c7901 7901 (mkSt [(0, .one (.int .i64 v0)), (1, .one (.str v1)), (4, .one (.ptr 4 0)), (12, .one (.int .i64 v2)), (14, .one (.int .i64 v3)), (63, .one (.bool v4))] [(4, some (25, [.int .i64 v5, .int .i64 v6]))] : St D0) (zq8.K7901 N) = zq8.d2 N v0 v1 v2 v3 v4 v5 v6 := by
  unfold zq8.d2; exact (zq8.o2.run N (zq8.B15 N) v0 v1 v2 v3 v4 v5 v6).trans (congr rfl (funext fun w0 => funext fun w1 => funext fun w2 => funext fun w3 => funext fun w4 => funext fun w5 => zq8.d3.run N w0 w1 w2 w3 w4 w5))
def zq8.K13 (N : Nat) : Ex → St D0 → Option zq8.R := (onN (fun s => zq8.C.tidy 6 s (fun s' => runC zq8.C (zq8.O N) N zq8.c7 7 s' zq8.K0)) zq8.K0)
def zq8.o1 (N : Nat) (v0 : Int) (v1 : ByteArray) (v2 : Bool) (v3 : Int) (v4 : Int) (c2 : Int → ByteArray → Int → Int → Bool → Int → Int → Option zq8.R) (c3 : Int → ByteArray → Int → Int → Int → Int → Option zq8.R) : Option zq8.R :=
 bif v2 then
  some (0, 0, false)
 else
 bif (decide (0 ≤ (v1.size : Int))) then
  bif (decide ((v1.size : Int) ≤ (v1.size : Int))) then
   bif (decide (8 ≤ (v1.size : Int))) then
    bif (!((v1.extract (8 : Int).toNat ((v1.size : Int) : Int).toNat).toList == (⟨#[]⟩ : ByteArray).toList)) then
     bif (decide (0 ≤ ((v1.extract (8 : Int).toNat ((v1.size : Int) : Int).toNat).size : Int))) then
      bif (decide (((v1.extract (8 : Int).toNat ((v1.size : Int) : Int).toNat).size : Int) ≤ ((v1.extract (8 : Int).toNat ((v1.size : Int) : Int).toNat).size : Int))) then
       bif (decide (1 ≤ ((v1.extract (8 : Int).toNat ((v1.size : Int) : Int).toNat).size : Int))) then
        (zq79.g N ((v1.extract (8 : Int).toNat ((v1.size : Int) : Int).toNat).extract (1 : Int).toNat (((v1.extract (8 : Int).toNat ((v1.size : Int) : Int).toNat).size : Int) : Int).toNat) (⟨#[47]⟩ : ByteArray)).bind fun r1 =>
        (zq27.g N r1.1 1000000).bind fun r2 =>
        (zq27.g N r1.2.1 1000000).bind fun r3 =>
        bif (!r2.2) then
         c2 v0 v1 r2.1 r3.1 true v3 v4
        else
        bif (!r3.2) then
         c2 v0 v1 r2.1 r3.1 true v3 v4
        else
        c2 v0 v1 r2.1 r3.1 (r3.1 == 0) v3 v4
       else
       none
      else
      none
     else
     none
    else
    c3 v0 v1 0 1 v3 v4
   else
   none
  else
  none
 else
 none
theorem zq8.o1.run (N : Nat) (H31 : Code) (H7901 : Code) (v0 : Int) (v1 : ByteArray) (v2 : Bool) (v3 : Int) (v4 : Int) : runC zq8.C (zq8.O N) N zq8.c13 13 (mkSt [(0, .one (.int .i64 v0)), (1, .one (.str v1)), (4, .one (.ptr 4 0)), (31, .one (.bool v2))] [(4, some (25, [.int .i64 v3, .int .i64 v4]))] : St D0) (onN (fun s => zq8.C.tidy 6 s (fun s' => runC zq8.C (zq8.O N) N (.seq zq8.c14 (.seq (.seq zq8.c60 (.seq zq8.c122 (.cond (.tmp 36) (.seq zq8.c492 (.seq zq8.c986 (.seq zq8.c1974 (.seq (.seq zq8.c7900 H7901) zq8.c3951)))) zq8.c247))) H31)) 7 s' zq8.K0)) zq8.K0) = zq8.o1 N v0 v1 v2 v3 v4 ((fun w0 w1 w2 w3 w4 w5 w6 => runC zq8.C (zq8.O N) N H7901 7901 (mkSt [(0, .one (.int .i64 w0)), (1, .one (.str w1)), (4, .one (.ptr 4 0)), (12, .one (.int .i64 w2)), (14, .one (.int .i64 w3)), (63, .one (.bool w4))] [(4, some (25, [.int .i64 w5, .int .i64 w6]))] : St D0) ((fun up => (onN (fun s => zq8.C.tidy 3950 s (fun s' => runC zq8.C (zq8.O N) N zq8.c3951 3951 s' up)) up)) (onN (fun s => zq8.C.tidy 30 s (fun s' => runC zq8.C (zq8.O N) N H31 31 s' zq8.K0)) zq8.K0)))) ((fun w0 w1 w2 w3 w4 w5 => runC zq8.C (zq8.O N) N H31 31 (mkSt [(0, .one (.int .i64 w0)), (1, .one (.str w1)), (4, .one (.ptr 4 0)), (6, .one (.int .i64 w2)), (7, .one (.int .i64 w3))] [(4, some (25, [.int .i64 w4, .int .i64 w5]))] : St D0) zq8.K0)) := by kernel_rfl
def zq8.d1 (N : Nat) (v0 : Int) (v1 : ByteArray) (v2 : Bool) (v3 : Int) (v4 : Int) : Option zq8.R := zq8.o1 N v0 v1 v2 v3 v4 ((fun w0 w1 w2 w3 w4 w5 w6 => zq8.d2 N w0 w1 w2 w3 w4 w5 w6)) ((fun w0 w1 w2 w3 w4 w5 => zq8.d3 N w0 w1 w2 w3 w4 w5))
theorem zq8.d1.run (N : Nat) (v0 : Int) (v1 : ByteArray) (v2 : Bool) (v3 : Int) (v4 : Int) : runC zq8.C (zq8.O N) N zq8.c13 13 (mkSt [(0, .one (.int .i64 v0)), (1, .one (.str v1)), (4, .one (.ptr 4 0)), (31, .one (.bool v2))] [(4, some (25, [.int .i64 v3, .int .i64 v4]))] : St D0) (zq8.K13 N) = zq8.d1 N v0 v1 v2 v3 v4 := by
  unfold zq8.d1; exact (zq8.o1.run N zq8.c31 zq8.c7901 v0 v1 v2 v3 v4).trans (congr (congr rfl (funext fun w0 => funext fun w1 => funext fun w2 => funext fun w3 => funext fun w4 => funext fun w5 => funext fun w6 => zq8.d2.run N w0 w1 w2 w3 w4 w5 w6)) (funext fun w0 => funext fun w1 => funext fun w2 => funext fun w3 => funext fun w4 => funext fun w5 => zq8.d3.run N w0 w1 w2 w3 w4 w5))
def zq8.o0 (N : Nat) (a0 : Int) (a1 : ByteArray) (c1 : Int → ByteArray → Bool → Int → Int → Option zq8.R) : Option zq8.R :=
 (zq24.g N a0).bind fun r1 =>
 bif (!r1) then
  c1 a0 a1 true 0 0
 else
 c1 a0 a1 (decide ((a1.size : Int) < 8)) 0 0
theorem zq8.o0.run (N : Nat) (H13 : Code) (a0 : Int) (a1 : ByteArray) : runC zq8.C (zq8.O N) N (.seq zq8.c2 (.seq (.seq zq8.c12 H13) zq8.c7)) 1 (st0 [.one (.int .i64 a0), .one (.str a1)] [] : St D0) zq8.K0 = zq8.o0 N a0 a1 ((fun w0 w1 w2 w3 w4 => runC zq8.C (zq8.O N) N H13 13 (mkSt [(0, .one (.int .i64 w0)), (1, .one (.str w1)), (4, .one (.ptr 4 0)), (31, .one (.bool w2))] [(4, some (25, [.int .i64 w3, .int .i64 w4]))] : St D0) (onN (fun s => zq8.C.tidy 6 s (fun s' => runC zq8.C (zq8.O N) N zq8.c7 7 s' zq8.K0)) zq8.K0))) := by kernel_rfl
def zq8.g (N : Nat) (a0 : Int) (a1 : ByteArray) : Option zq8.R := zq8.o0 N a0 a1 ((fun w0 w1 w2 w3 w4 => zq8.d1 N w0 w1 w2 w3 w4))
theorem zq8.c1_0 : zq8.c1 = (.seq zq8.c2 (.seq (.seq zq8.c12 zq8.c13) zq8.c7)) := by kernel_rfl
theorem zq8.g.run (N : Nat) (a0 : Int) (a1 : ByteArray) : runC zq8.C (zq8.O N) N zq8.c1 1 (st0 [.one (.int .i64 a0), .one (.str a1)] [] : St D0) zq8.K0 = zq8.g N a0 a1 := by
  rw [zq8.c1_0]; unfold zq8.g; exact (zq8.o0.run N zq8.c13 a0 a1).trans (congr rfl (funext fun w0 => funext fun w1 => funext fun w2 => funext fun w3 => funext fun w4 => zq8.d1.run N w0 w1 w2 w3 w4))
theorem zq8.good (N : Nat) (a0 : Int) (a1 : ByteArray) (r : zq8.R) (h : zq8.g N a0 a1 = some r) : Go.PM.Good Tryz.prog T0 25 [.one (.int .i64 a0), .one (.str a1)] [] (zq8.sig.ret r) (zq8.sig.bs r) :=
  good_fn tabOk0 mixed0 zq8.sig (zq8.E N) Tryz.func25 (by kernel_rfl) (by kernel_rfl) 713623846363364534323867243649489114482210803 0 0 [(12, [0, 1, 4, 31], [4]), (30, [0, 1, 4, 6, 7], [4]), (506, [0, 1, 4, 6, 7, 16, 74, 75, 76], [4]), (508, [0, 1, 4, 6, 7, 16, 113], [4]), (4090, [4, 21, 149], [4, 21]), (7900, [0, 1, 4, 12, 14, 63], [4])] 279136710100675558372219274963812913734746112 false [] [(true, [.any, .any]), (false, [.any])] (by kernel_rfl) rfl rfl ((zq8.g.run N a0 a1).trans h)
def zq8.ent (N : Nat) : Ent Tryz.prog T0 := mkEnt 25 [(false, [.any]), (false, [.any])] zq8.sig (fun t => zq8.g N t.1 t.2) (fun t r h => zq8.good N t.1 t.2 r h)
/-! ### zq65 -/
abbrev zq65.R : Type := Int × List Int × Int × Int
abbrev zq65.sig : Sig := ⟨[(false, 1)], [(77, 3)], [.ptr 0 0, .sl false 5, .int .i64, .int .u64], [(false, 1)], [(77, 3)], [.int .i64, .sl false 5, .int .i64, .int .u64]⟩
def zq65.C : Cfg D0 := ⟨Tryz.prog, T0, 9007199254749197, 0, 62, 1, [(14, [0, 3], [0])], 36328151978361104, false, []⟩
def zq65.E (N : Nat) : List (Ent Tryz.prog T0) := []
def zq65.O (N : Nat) : Orc D0 zq65.R := orcOf (zq65.E N)
def zq65.K0 : Ex → St D0 → Option zq65.R := exitK zq65.C Tryz.f125.results.toList [(false, [.any])] (decOut zq65.sig)
def zq65.c1 : Code := codeAt (Tryz.f125.body.getD .skip) []
def zq65.c2 : Code := codeAt (Tryz.f125.body.getD .skip) [false]
def zq65.c6 : Code := codeAt (Tryz.f125.body.getD .skip) [true, false]
def zq65.c14 : Code := codeAt (Tryz.f125.body.getD .skip) [true, true, false]
def zq65.c15 : Code := codeAt (Tryz.f125.body.getD .skip) [true, true, true]
def zq65.K15 (N : Nat) : Ex → St D0 → Option zq65.R := zq65.K0
def zq65.o1 (N : Nat) (v0 : Int) (v1 : List Int) (v2 : Int) (v3 : Int) : Option zq65.R :=
 bif (decide ((w64 (v2 + 1)) ≤ (v1.length : Int))) then
  some (v0, v1, (w64 (v2 + 1)), ((IntKind.wrap .u64) (((IntKind.wrap .u64) (((IntKind.wrap .u64) (v3 * 6364136223846793005)) + ((IntKind.wrap .u64) v0))) + 1442695040888963407)))
 else
 some ((w64 (andK .u64 (shrK .u64 ((IntKind.wrap .u64) (((IntKind.wrap .u64) (((IntKind.wrap .u64) (v3 * 6364136223846793005)) + ((IntKind.wrap .u64) v0))) + 1442695040888963407)) 40) 255)), v1, (w64 (v2 + 1)), ((IntKind.wrap .u64) (((IntKind.wrap .u64) (((IntKind.wrap .u64) (v3 * 6364136223846793005)) + ((IntKind.wrap .u64) v0))) + 1442695040888963407)))
theorem zq65.o1.run (N : Nat) (v0 : Int) (v1 : List Int) (v2 : Int) (v3 : Int) : runC zq65.C (zq65.O N) N zq65.c15 15 (mkSt [(0, .one (.ptr 0 0)), (3, .one (.int .i64 v0))] [(0, some (77, [.sl false 5 v1, .int .i64 v2, .int .u64 v3]))] : St D0) zq65.K0 = zq65.o1 N v0 v1 v2 v3 := by kernel_rfl
def zq65.d1 (N : Nat) (v0 : Int) (v1 : List Int) (v2 : Int) (v3 : Int) : Option zq65.R := zq65.o1 N v0 v1 v2 v3
theorem zq65.d1.run (N : Nat) (v0 : Int) (v1 : List Int) (v2 : Int) (v3 : Int) : runC zq65.C (zq65.O N) N zq65.c15 15 (mkSt [(0, .one (.ptr 0 0)), (3, .one (.int .i64 v0))] [(0, some (77, [.sl false 5 v1, .int .i64 v2, .int .u64 v3]))] : St D0) (zq65.K15 N) = zq65.d1 N v0 v1 v2 v3 := by
  exact (zq65.o1.run N v0 v1 v2 v3).trans rfl
def zq65.o0 (N : Nat) (b0_0 : List Int) (b0_1 : Int) (b0_2 : Int) (c1 : Int → (List Int) → Int → Int → Option zq65.R) : Option zq65.R :=
 bif (decide (b0_1 < (b0_0.length : Int))) then
  bif (decide (0 ≤ b0_1)) then
   bif (decide (b0_1 < (b0_0.length : Int))) then
    (b0_0[(b0_1 : Int).toNat]?).bind fun x1 =>
    c1 (w64 x1) b0_0 b0_1 b0_2
   else
   none
  else
  none
 else
 c1 0 b0_0 b0_1 b0_2
theorem zq65.o0.run (N : Nat) (H15 : Code) (b0_0 : List Int) (b0_1 : Int) (b0_2 : Int) : runC zq65.C (zq65.O N) N (.seq zq65.c2 (.seq zq65.c6 (.seq zq65.c14 H15))) 1 (st0 [.one (.ptr 0 0)] [(77, [.sl false 5 b0_0, .int .i64 b0_1, .int .u64 b0_2])] : St D0) zq65.K0 = zq65.o0 N b0_0 b0_1 b0_2 ((fun w0 w1 w2 w3 => runC zq65.C (zq65.O N) N H15 15 (mkSt [(0, .one (.ptr 0 0)), (3, .one (.int .i64 w0))] [(0, some (77, [.sl false 5 w1, .int .i64 w2, .int .u64 w3]))] : St D0) zq65.K0)) := by kernel_rfl
def zq65.g (N : Nat) (b0_0 : List Int) (b0_1 : Int) (b0_2 : Int) : Option zq65.R := zq65.o0 N b0_0 b0_1 b0_2 ((fun w0 w1 w2 w3 => zq65.d1 N w0 w1 w2 w3))
theorem zq65.c1_0 : zq65.c1 = (.seq zq65.c2 (.seq zq65.c6 (.seq zq65.c14 zq65.c15))) := by kernel_rfl
theorem zq65.g.run (N : Nat) (b0_0 : List Int) (b0_1 : Int) (b0_2 : Int) : runC zq65.C (zq65.O N) N zq65.c1 1 (st0 [.one (.ptr 0 0)] [(77, [.sl false 5 b0_0, .int .i64 b0_1, .int .u64 b0_2])] : St D0) zq65.K0 = zq65.g N b0_0 b0_1 b0_2 := by
  rw [zq65.c1_0]; unfold zq65.g; exact (zq65.o0.run N zq65.c15 b0_0 b0_1 b0_2).trans (congr rfl (funext fun w0 => funext fun w1 => funext fun w2 => funext fun w3 => zq65.d1.run N w0 w1 w2 w3))
theorem zq65.good (N : Nat) (b0_0 : List Int) (b0_1 : Int) (b0_2 : Int) (r : zq65.R) (h : zq65.g N b0_0 b0_1 b0_2 = some r) : Go.PM.Good Tryz.prog T0 125 [.one (.ptr 0 0)] [(77, [.sl false 5 b0_0, .int .i64 b0_1, .int .u64 b0_2])] (zq65.sig.ret r) (zq65.sig.bs r) :=
  good_fn tabOk0 mixed0 zq65.sig (zq65.E N) Tryz.func125 (by kernel_rfl) (by kernel_rfl) 9007199254749197 0 1 [(14, [0, 3], [0])] 36328151978361104 false [] [(false, [.any])] (by kernel_rfl) rfl rfl ((zq65.g.run N b0_0 b0_1 b0_2).trans h)
def zq65.ent (N : Nat) : Ent Tryz.prog T0 := mkEnt 125 [(false, [.any])] zq65.sig (fun t => zq65.g N t.2.1 t.2.2.1 t.2.2.2) (fun t r h => zq65.good N t.2.1 t.2.2.1 t.2.2.2 r h)
/-! ### zq67 -/
abbrev zq67.R : Type := Int × List Int × Int × Int
abbrev zq67.sig : Sig := ⟨[(false, 1), (false, 1)], [(77, 3)], [.ptr 0 0, .int .i64, .sl false 5, .int .i64, .int .u64], [(false, 1)], [(77, 3)], [.int .i64, .sl false 5, .int .i64, .int .u64]⟩
def zq67.C : Cfg D0 := ⟨Tryz.prog, T0, 2227, 0, 20, 1, [(30, [1, 5], [0])], 415040, false, []⟩
def zq67.E (N : Nat) : List (Ent Tryz.prog T0) := [zq65.ent N]
def zq67.O (N : Nat) : Orc D0 zq67.R := orcOf (zq67.E N)
def zq67.K0 : Ex → St D0 → Option zq67.R := exitK zq67.C Tryz.f101.results.toList [(false, [.any])] (decOut zq67.sig)
def zq67.c1 : Code := codeAt (Tryz.f101.body.getD .skip) []
def zq67.c2 : Code := codeAt (Tryz.f101.body.getD .skip) [false]
def zq67.c6 : Code := codeAt (Tryz.f101.body.getD .skip) [true, false]
def zq67.c14 : Code := codeAt (Tryz.f101.body.getD .skip) [true, true, false]
def zq67.c30 : Code := codeAt (Tryz.f101.body.getD .skip) [true, true, true, false]
def zq67.c31 : Code := codeAt (Tryz.f101.body.getD .skip) [true, true, true, true]
def zq67.K31 (N : Nat) : Ex → St D0 → Option zq67.R := zq67.K0
def zq67.o1 (N : Nat) (v0 : Int) (v1 : Int) (v2 : List Int) (v3 : Int) (v4 : Int) : Option zq67.R :=
 bif (v0 == 0) then
  none
 else
 some ((Int.tmod v1 v0), v2, v3, v4)
theorem zq67.o1.run (N : Nat) (v0 : Int) (v1 : Int) (v2 : List Int) (v3 : Int) (v4 : Int) : runC zq67.C (zq67.O N) N zq67.c31 31 (mkSt [(1, .one (.int .i64 v0)), (5, .one (.int .i64 v1))] [(0, some (77, [.sl false 5 v2, .int .i64 v3, .int .u64 v4]))] : St D0) zq67.K0 = zq67.o1 N v0 v1 v2 v3 v4 := by kernel_rfl
def zq67.d1 (N : Nat) (v0 : Int) (v1 : Int) (v2 : List Int) (v3 : Int) (v4 : Int) : Option zq67.R := zq67.o1 N v0 v1 v2 v3 v4
theorem zq67.d1.run (N : Nat) (v0 : Int) (v1 : Int) (v2 : List Int) (v3 : Int) (v4 : Int) : runC zq67.C (zq67.O N) N zq67.c31 31 (mkSt [(1, .one (.int .i64 v0)), (5, .one (.int .i64 v1))] [(0, some (77, [.sl false 5 v2, .int .i64 v3, .int .u64 v4]))] : St D0) (zq67.K31 N) = zq67.d1 N v0 v1 v2 v3 v4 := by
  exact (zq67.o1.run N v0 v1 v2 v3 v4).trans rfl
def zq67.o0 (N : Nat) (a1 : Int) (b0_0 : List Int) (b0_1 : Int) (b0_2 : Int) (c1 : Int → Int → (List Int) → Int → Int → Option zq67.R) : Option zq67.R :=
 bif (decide (a1 ≤ 1)) then
  some (0, b0_0, b0_1, b0_2)
 else
 (zq65.g N b0_0 b0_1 b0_2).bind fun r1 =>
 bif (decide (a1 > 200)) then
  (zq65.g N r1.2.1 r1.2.2.1 r1.2.2.2).bind fun r2 =>
  c1 a1 (w64 ((w64 (r1.1 * 256)) + r2.1)) r2.2.1 r2.2.2.1 r2.2.2.2
 else
 c1 a1 r1.1 r1.2.1 r1.2.2.1 r1.2.2.2
theorem zq67.o0.run (N : Nat) (H31 : Code) (a1 : Int) (b0_0 : List Int) (b0_1 : Int) (b0_2 : Int) : runC zq67.C (zq67.O N) N (.seq zq67.c2 (.seq zq67.c6 (.seq zq67.c14 (.seq zq67.c30 H31)))) 1 (st0 [.one (.ptr 0 0), .one (.int .i64 a1)] [(77, [.sl false 5 b0_0, .int .i64 b0_1, .int .u64 b0_2])] : St D0) zq67.K0 = zq67.o0 N a1 b0_0 b0_1 b0_2 ((fun w0 w1 w2 w3 w4 => runC zq67.C (zq67.O N) N H31 31 (mkSt [(1, .one (.int .i64 w0)), (5, .one (.int .i64 w1))] [(0, some (77, [.sl false 5 w2, .int .i64 w3, .int .u64 w4]))] : St D0) zq67.K0)) := by kernel_rfl
def zq67.B15 (N : Nat) : St D0 → Option zq67.R := fun s' => runC zq67.C (zq67.O N) N zq67.c31 31 s' (zq67.K31 N)
def zq67.g (N : Nat) (a1 : Int) (b0_0 : List Int) (b0_1 : Int) (b0_2 : Int) : Option zq67.R := zq67.o0 N a1 b0_0 b0_1 b0_2 ((fun w0 w1 w2 w3 w4 => zq67.d1 N w0 w1 w2 w3 w4))
theorem zq67.c1_0 : zq67.c1 = (.seq zq67.c2 (.seq zq67.c6 (.seq zq67.c14 (.seq zq67.c30 zq67.c31)))) := by kernel_rfl
theorem zq67.g.run (N : Nat) (a1 : Int) (b0_0 : List Int) (b0_1 : Int) (b0_2 : Int) : runC zq67.C (zq67.O N) N zq67.c1 1 (st0 [.one (.ptr 0 0), .one (.int .i64 a1)] [(77, [.sl false 5 b0_0, .int .i64 b0_1, .int .u64 b0_2])] : St D0) zq67.K0 = zq67.g N a1 b0_0 b0_1 b0_2 := by
  rw [zq67.c1_0]; unfold zq67.g; exact (zq67.o0.run N zq67.c31 a1 b0_0 b0_1 b0_2).trans (congr rfl (funext fun w0 => funext fun w1 => funext fun w2 => funext fun w3 => funext fun w4 => zq67.d1.run N w0 w1 w2 w3 w4))
theorem zq67.good (N : Nat) (a1 : Int) (b0_0 : List Int) (b0_1 : Int) (b0_2 : Int) (r : zq67.R) (h : zq67.g N a1 b0_0 b0_1 b0_2 = some r) : Go.PM.Good Tryz.prog T0 101 [.one (.ptr 0 0), .one (.int .i64 a1)] [(77, [.sl false 5 b0_0, .int .i64 b0_1, .int .u64 b0_2])] (zq67.sig.ret r) (zq67.sig.bs r) :=
  good_fn tabOk0 mixed0 zq67.sig (zq67.E N) Tryz.func101 (by kernel_rfl) (by kernel_rfl) 2227 0 1 [(30, [1, 5], [0])] 415040 false [] [(false, [.any])] (by kernel_rfl) rfl rfl ((zq67.g.run N a1 b0_0 b0_1 b0_2).trans h)
def zq67.ent (N : Nat) : Ent Tryz.prog T0 := mkEnt 101 [(false, [.any]), (false, [.any])] zq67.sig (fun t => zq67.g N t.2.1 t.2.2.1 t.2.2.2.1 t.2.2.2.2) (fun t r h => zq67.good N t.2.1 t.2.2.1 t.2.2.2.1 t.2.2.2.2 r h)
/-! ### zq63 -/
abbrev zq63.R : Type := Int × List Int × Int × Int
abbrev zq63.sig : Sig := ⟨[(false, 1), (false, 1)], [(77, 3)], [.ptr 0 0, .sl false 3, .sl false 5, .int .i64, .int .u64], [(false, 1)], [(77, 3)], [.int .i64, .sl false 5, .int .i64, .int .u64]⟩
def zq63.C : Cfg D0 := ⟨Tryz.prog, T0, 19, 0, 12, 1, [], 224, false, []⟩
def zq63.E (N : Nat) : List (Ent Tryz.prog T0) := [zq67.ent N]
def zq63.O (N : Nat) : Orc D0 zq63.R := orcOf (zq63.E N)
def zq63.K0 : Ex → St D0 → Option zq63.R := exitK zq63.C Tryz.f82.results.toList [(false, [.any])] (decOut zq63.sig)
def zq63.c1 : Code := codeAt (Tryz.f82.body.getD .skip) []
def zq63.o0 (N : Nat) (a1 : List Int) (b0_0 : List Int) (b0_1 : Int) (b0_2 : Int) : Option zq63.R :=
 (zq67.g N (a1.length : Int) b0_0 b0_1 b0_2).bind fun r1 =>
 bif (decide (0 ≤ r1.1)) then
  bif (decide (r1.1 < (a1.length : Int))) then
   (a1[(r1.1 : Int).toNat]?).bind fun x2 =>
   some (x2, r1.2.1, r1.2.2.1, r1.2.2.2)
  else
  none
 else
 none
theorem zq63.o0.run (N : Nat) (a1 : List Int) (b0_0 : List Int) (b0_1 : Int) (b0_2 : Int) : runC zq63.C (zq63.O N) N zq63.c1 1 (st0 [.one (.ptr 0 0), .one (.sl false 3 a1)] [(77, [.sl false 5 b0_0, .int .i64 b0_1, .int .u64 b0_2])] : St D0) zq63.K0 = zq63.o0 N a1 b0_0 b0_1 b0_2 := by kernel_rfl
def zq63.g (N : Nat) (a1 : List Int) (b0_0 : List Int) (b0_1 : Int) (b0_2 : Int) : Option zq63.R := zq63.o0 N a1 b0_0 b0_1 b0_2
theorem zq63.g.run (N : Nat) (a1 : List Int) (b0_0 : List Int) (b0_1 : Int) (b0_2 : Int) : runC zq63.C (zq63.O N) N zq63.c1 1 (st0 [.one (.ptr 0 0), .one (.sl false 3 a1)] [(77, [.sl false 5 b0_0, .int .i64 b0_1, .int .u64 b0_2])] : St D0) zq63.K0 = zq63.g N a1 b0_0 b0_1 b0_2 := by
  exact (zq63.o0.run N a1 b0_0 b0_1 b0_2).trans rfl
theorem zq63.good (N : Nat) (a1 : List Int) (b0_0 : List Int) (b0_1 : Int) (b0_2 : Int) (r : zq63.R) (h : zq63.g N a1 b0_0 b0_1 b0_2 = some r) : Go.PM.Good Tryz.prog T0 82 [.one (.ptr 0 0), .one (.sl false 3 a1)] [(77, [.sl false 5 b0_0, .int .i64 b0_1, .int .u64 b0_2])] (zq63.sig.ret r) (zq63.sig.bs r) :=
  good_fn tabOk0 mixed0 zq63.sig (zq63.E N) Tryz.func82 (by kernel_rfl) (by kernel_rfl) 19 0 1 [] 224 false [] [(false, [.any])] (by kernel_rfl) rfl rfl ((zq63.g.run N a1 b0_0 b0_1 b0_2).trans h)
def zq63.ent (N : Nat) : Ent Tryz.prog T0 := mkEnt 82 [(false, [.any]), (false, [.ro 3])] zq63.sig (fun t => zq63.g N t.2.1 t.2.2.1 t.2.2.2.1 t.2.2.2.2) (fun t r h => zq63.good N t.2.1 t.2.2.1 t.2.2.2.1 t.2.2.2.2 r h)
/-! ### zq66 -/
abbrev zq66.R : Type := Bool × List Int × Int × Int
abbrev zq66.sig : Sig := ⟨[(false, 1), (false, 1)], [(77, 3)], [.ptr 0 0, .int .i64, .sl false 5, .int .i64, .int .u64], [(false, 1)], [(77, 3)], [.bool, .sl false 5, .int .i64, .int .u64]⟩
def zq66.C : Cfg D0 := ⟨Tryz.prog, T0, 19, 0, 9, 1, [], 96, false, []⟩
def zq66.E (N : Nat) : List (Ent Tryz.prog T0) := [zq67.ent N]
def zq66.O (N : Nat) : Orc D0 zq66.R := orcOf (zq66.E N)
def zq66.K0 : Ex → St D0 → Option zq66.R := exitK zq66.C Tryz.f87.results.toList [(false, [.any])] (decOut zq66.sig)
def zq66.c1 : Code := codeAt (Tryz.f87.body.getD .skip) []
def zq66.o0 (N : Nat) (a1 : Int) (b0_0 : List Int) (b0_1 : Int) (b0_2 : Int) : Option zq66.R :=
 (zq67.g N a1 b0_0 b0_1 b0_2).bind fun r1 =>
 some ((r1.1 == 0), r1.2.1, r1.2.2.1, r1.2.2.2)
theorem zq66.o0.run (N : Nat) (a1 : Int) (b0_0 : List Int) (b0_1 : Int) (b0_2 : Int) : runC zq66.C (zq66.O N) N zq66.c1 1 (st0 [.one (.ptr 0 0), .one (.int .i64 a1)] [(77, [.sl false 5 b0_0, .int .i64 b0_1, .int .u64 b0_2])] : St D0) zq66.K0 = zq66.o0 N a1 b0_0 b0_1 b0_2 := by kernel_rfl
def zq66.g (N : Nat) (a1 : Int) (b0_0 : List Int) (b0_1 : Int) (b0_2 : Int) : Option zq66.R := zq66.o0 N a1 b0_0 b0_1 b0_2
theorem zq66.g.run (N : Nat) (a1 : Int) (b0_0 : List Int) (b0_1 : Int) (b0_2 : Int) : runC zq66.C (zq66.O N) N zq66.c1 1 (st0 [.one (.ptr 0 0), .one (.int .i64 a1)] [(77, [.sl false 5 b0_0, .int .i64 b0_1, .int .u64 b0_2])] : St D0) zq66.K0 = zq66.g N a1 b0_0 b0_1 b0_2 := by
  exact (zq66.o0.run N a1 b0_0 b0_1 b0_2).trans rfl
theorem zq66.good (N : Nat) (a1 : Int) (b0_0 : List Int) (b0_1 : Int) (b0_2 : Int) (r : zq66.R) (h : zq66.g N a1 b0_0 b0_1 b0_2 = some r) : Go.PM.Good Tryz.prog T0 87 [.one (.ptr 0 0), .one (.int .i64 a1)] [(77, [.sl false 5 b0_0, .int .i64 b0_1, .int .u64 b0_2])] (zq66.sig.ret r) (zq66.sig.bs r) :=
  good_fn tabOk0 mixed0 zq66.sig (zq66.E N) Tryz.func87 (by kernel_rfl) (by kernel_rfl) 19 0 1 [] 96 false [] [(false, [.any])] (by kernel_rfl) rfl rfl ((zq66.g.run N a1 b0_0 b0_1 b0_2).trans h)
def zq66.ent (N : Nat) : Ent Tryz.prog T0 := mkEnt 87 [(false, [.any]), (false, [.any])] zq66.sig (fun t => zq66.g N t.2.1 t.2.2.1 t.2.2.2.1 t.2.2.2.2) (fun t r h => zq66.good N t.2.1 t.2.2.1 t.2.2.2.1 t.2.2.2.2 r h)
/-! ### zq72 -/
abbrev zq72.R : Type := Int
abbrev zq72.sig : Sig := ⟨[(false, 1), (false, 1)], [], [.int .i64, .int .i64], [(false, 1)], [], [.int .i64]⟩
def zq72.C : Cfg D0 := ⟨Tryz.prog, T0, 147, 0, 10, 0, [], 96, false, []⟩
def zq72.E (N : Nat) : List (Ent Tryz.prog T0) := []
def zq72.O (N : Nat) : Orc D0 zq72.R := orcOf (zq72.E N)
def zq72.K0 : Ex → St D0 → Option zq72.R := exitK zq72.C Tryz.f124.results.toList [(false, [.any])] (decOut zq72.sig)
def zq72.c1 : Code := codeAt (Tryz.f124.body.getD .skip) []
def zq72.o0 (N : Nat) (a0 : Int) (a1 : Int) : Option zq72.R :=
 bif (decide (a0 > a1)) then
  some (a0)
 else
 some (a1)
theorem zq72.o0.run (N : Nat) (a0 : Int) (a1 : Int) : runC zq72.C (zq72.O N) N zq72.c1 1 (st0 [.one (.int .i64 a0), .one (.int .i64 a1)] [] : St D0) zq72.K0 = zq72.o0 N a0 a1 := by kernel_rfl
def zq72.g (N : Nat) (a0 : Int) (a1 : Int) : Option zq72.R := zq72.o0 N a0 a1
theorem zq72.g.run (N : Nat) (a0 : Int) (a1 : Int) : runC zq72.C (zq72.O N) N zq72.c1 1 (st0 [.one (.int .i64 a0), .one (.int .i64 a1)] [] : St D0) zq72.K0 = zq72.g N a0 a1 := by
  exact (zq72.o0.run N a0 a1).trans rfl
theorem zq72.good (N : Nat) (a0 : Int) (a1 : Int) (r : zq72.R) (h : zq72.g N a0 a1 = some r) : Go.PM.Good Tryz.prog T0 124 [.one (.int .i64 a0), .one (.int .i64 a1)] [] (zq72.sig.ret r) (zq72.sig.bs r) :=
  good_fn tabOk0 mixed0 zq72.sig (zq72.E N) Tryz.func124 (by kernel_rfl) (by kernel_rfl) 147 0 0 [] 96 false [] [(false, [.any])] (by kernel_rfl) rfl rfl ((zq72.g.run N a0 a1).trans h)
def zq72.ent (N : Nat) : Ent Tryz.prog T0 := mkEnt 124 [(false, [.any]), (false, [.any])] zq72.sig (fun t => zq72.g N t.1 t.2) (fun t r h => zq72.good N t.1 t.2 r h)
/-! ### zq64 -/
abbrev zq64.R : Type := Int × List Int × Int × Int
abbrev zq64.sig : Sig := ⟨[(false, 1)], [(77, 3)], [.ptr 0 0, .sl false 5, .int .i64, .int .u64], [(false, 1)], [(77, 3)], [.int .i64, .sl false 5, .int .i64, .int .u64]⟩
def zq64.C : Cfg D0 := ⟨Tryz.prog, T0, 5, 0, 6, 1, [], 8, false, []⟩
def zq64.E (N : Nat) : List (Ent Tryz.prog T0) := [zq63.ent N]
def zq64.O (N : Nat) : Orc D0 zq64.R := orcOf (zq64.E N)
def zq64.K0 : Ex → St D0 → Option zq64.R := exitK zq64.C Tryz.f56.results.toList [(false, [.any])] (decOut zq64.sig)
def zq64.c1 : Code := codeAt (Tryz.f56.body.getD .skip) []
def zq64.o0 (N : Nat) (b0_0 : List Int) (b0_1 : Int) (b0_2 : Int) : Option zq64.R :=
 (zq63.g N ([12, 24, 10, 12, 24, 6, 2, 3, 5, 12, 1, 25, 0] : List Int) b0_0 b0_1 b0_2).bind fun r1 =>
 some (r1.1, r1.2.1, r1.2.2.1, r1.2.2.2)
theorem zq64.o0.run (N : Nat) (b0_0 : List Int) (b0_1 : Int) (b0_2 : Int) : runC zq64.C (zq64.O N) N zq64.c1 1 (st0 [.one (.ptr 0 0)] [(77, [.sl false 5 b0_0, .int .i64 b0_1, .int .u64 b0_2])] : St D0) zq64.K0 = zq64.o0 N b0_0 b0_1 b0_2 := by kernel_rfl
def zq64.g (N : Nat) (b0_0 : List Int) (b0_1 : Int) (b0_2 : Int) : Option zq64.R := zq64.o0 N b0_0 b0_1 b0_2
theorem zq64.g.run (N : Nat) (b0_0 : List Int) (b0_1 : Int) (b0_2 : Int) : runC zq64.C (zq64.O N) N zq64.c1 1 (st0 [.one (.ptr 0 0)] [(77, [.sl false 5 b0_0, .int .i64 b0_1, .int .u64 b0_2])] : St D0) zq64.K0 = zq64.g N b0_0 b0_1 b0_2 := by
  exact (zq64.o0.run N b0_0 b0_1 b0_2).trans rfl
theorem zq64.good (N : Nat) (b0_0 : List Int) (b0_1 : Int) (b0_2 : Int) (r : zq64.R) (h : zq64.g N b0_0 b0_1 b0_2 = some r) : Go.PM.Good Tryz.prog T0 56 [.one (.ptr 0 0)] [(77, [.sl false 5 b0_0, .int .i64 b0_1, .int .u64 b0_2])] (zq64.sig.ret r) (zq64.sig.bs r) :=
  good_fn tabOk0 mixed0 zq64.sig (zq64.E N) Tryz.func56 (by kernel_rfl) (by kernel_rfl) 5 0 1 [] 8 false [] [(false, [.any])] (by kernel_rfl) rfl rfl ((zq64.g.run N b0_0 b0_1 b0_2).trans h)
def zq64.ent (N : Nat) : Ent Tryz.prog T0 := mkEnt 56 [(false, [.any])] zq64.sig (fun t => zq64.g N t.2.1 t.2.2.1 t.2.2.2) (fun t r h => zq64.good N t.2.1 t.2.2.1 t.2.2.2 r h)
/-! ### zq69 -/
abbrev zq69.R : Type := Int × Int × List Int × Int × Int
abbrev zq69.sig : Sig := ⟨[(false, 1)], [(77, 3)], [.ptr 0 0, .sl false 5, .int .i64, .int .u64], [(true, 2)], [(77, 3)], [.int .i64, .int .i64, .sl false 5, .int .i64, .int .u64]⟩
def zq69.C : Cfg D0 := ⟨Tryz.prog, T0, 61, 0, 24, 1, [], 722688, false, []⟩
def zq69.E (N : Nat) : List (Ent Tryz.prog T0) := [zq67.ent N, zq56.ent N]
def zq69.O (N : Nat) : Orc D0 zq69.R := orcOf (zq69.E N)
def zq69.K0 : Ex → St D0 → Option zq69.R := exitK zq69.C Tryz.f86.results.toList [(true, [.any, .any])] (decOut zq69.sig)
def zq69.c1 : Code := codeAt (Tryz.f86.body.getD .skip) []
def zq69.o0 (N : Nat) (b0_0 : List Int) (b0_1 : Int) (b0_2 : Int) : Option zq69.R :=
 (zq67.g N (([1, 2, 3, 4, 6, 8, 11, 12, 13, 24, 60, 143, 720, 719, 7, 5] : List Int).length : Int) b0_0 b0_1 b0_2).bind fun r1 =>
 bif (decide (0 ≤ r1.1)) then
  bif (decide (r1.1 < (([1, 2, 3, 4, 6, 8, 11, 12, 13, 24, 60, 143, 720, 719, 7, 5] : List Int).length : Int))) then
   (([1, 2, 3, 4, 6, 8, 11, 12, 13, 24, 60, 143, 720, 719, 7, 5] : List Int)[(r1.1 : Int).toNat]?).bind fun x2 =>
   (zq67.g N x2 r1.2.1 r1.2.2.1 r1.2.2.2).bind fun r3 =>
   (zq56.g N r3.1 x2).bind fun r4 =>
   some (r4.1, r4.2.1, r3.2.1, r3.2.2.1, r3.2.2.2)
  else
  none
 else
 none
theorem zq69.o0.run (N : Nat) (b0_0 : List Int) (b0_1 : Int) (b0_2 : Int) : runC zq69.C (zq69.O N) N zq69.c1 1 (st0 [.one (.ptr 0 0)] [(77, [.sl false 5 b0_0, .int .i64 b0_1, .int .u64 b0_2])] : St D0) zq69.K0 = zq69.o0 N b0_0 b0_1 b0_2 := by kernel_rfl
def zq69.g (N : Nat) (b0_0 : List Int) (b0_1 : Int) (b0_2 : Int) : Option zq69.R := zq69.o0 N b0_0 b0_1 b0_2
theorem zq69.g.run (N : Nat) (b0_0 : List Int) (b0_1 : Int) (b0_2 : Int) : runC zq69.C (zq69.O N) N zq69.c1 1 (st0 [.one (.ptr 0 0)] [(77, [.sl false 5 b0_0, .int .i64 b0_1, .int .u64 b0_2])] : St D0) zq69.K0 = zq69.g N b0_0 b0_1 b0_2 := by
  exact (zq69.o0.run N b0_0 b0_1 b0_2).trans rfl
theorem zq69.good (N : Nat) (b0_0 : List Int) (b0_1 : Int) (b0_2 : Int) (r : zq69.R) (h : zq69.g N b0_0 b0_1 b0_2 = some r) : Go.PM.Good Tryz.prog T0 86 [.one (.ptr 0 0)] [(77, [.sl false 5 b0_0, .int .i64 b0_1, .int .u64 b0_2])] (zq69.sig.ret r) (zq69.sig.bs r) :=
  good_fn tabOk0 mixed0 zq69.sig (zq69.E N) Tryz.func86 (by kernel_rfl) (by kernel_rfl) 61 0 1 [] 722688 false [] [(true, [.any, .any])] (by kernel_rfl) rfl rfl ((zq69.g.run N b0_0 b0_1 b0_2).trans h)
def zq69.ent (N : Nat) : Ent Tryz.prog T0 := mkEnt 86 [(false, [.any])] zq69.sig (fun t => zq69.g N t.2.1 t.2.2.1 t.2.2.2) (fun t r h => zq69.good N t.2.1 t.2.2.1 t.2.2.2 r h)
/-! ### zq70 -/
abbrev zq70.R : Type := Int × Int × List Int × Int × Int
abbrev zq70.sig : Sig := ⟨[(false, 1)], [(77, 3)], [.ptr 0 0, .sl false 5, .int .i64, .int .u64], [(true, 2)], [(77, 3)], [.int .i64, .int .i64, .sl false 5, .int .i64, .int .u64]⟩
def zq70.C : Cfg D0 := ⟨Tryz.prog, T0, 1065013, 0, 28, 1, [], 71369864, false, []⟩
def zq70.E (N : Nat) : List (Ent Tryz.prog T0) := [zq67.ent N, zq63.ent N, zq69.ent N]
def zq70.O (N : Nat) : Orc D0 zq70.R := orcOf (zq70.E N)
def zq70.K0 : Ex → St D0 → Option zq70.R := exitK zq70.C Tryz.f57.results.toList [(true, [.any, .any])] (decOut zq70.sig)
def zq70.c1 : Code := codeAt (Tryz.f57.body.getD .skip) []
def zq70.o0 (N : Nat) (b0_0 : List Int) (b0_1 : Int) (b0_2 : Int) : Option zq70.R :=
 (zq67.g N 16 b0_0 b0_1 b0_2).bind fun r1 =>
 bif (r1.1 == 0) then
  (zq63.g N ([(-1), 0, 2, 5, 4611686018427387904] : List Int) r1.2.1 r1.2.2.1 r1.2.2.2).bind fun r2 =>
  (zq63.g N ([0, 1, 2, 4, 1000000, 1000001, (-3)] : List Int) r2.2.1 r2.2.2.1 r2.2.2.2).bind fun r3 =>
  some (r2.1, r3.1, r3.2.1, r3.2.2.1, r3.2.2.2)
 else
 bif (r1.1 == 1) then
  (zq63.g N ([1, 999999, 7] : List Int) r1.2.1 r1.2.2.1 r1.2.2.2).bind fun r4 =>
  some (r4.1, 1000000, r4.2.1, r4.2.2.1, r4.2.2.2)
 else
 bif (r1.1 == 2) then
  (zq67.g N 900000 r1.2.1 r1.2.2.1 r1.2.2.2).bind fun r5 =>
  some ((w64 (1 + r5.1)), 999983, r5.2.1, r5.2.2.1, r5.2.2.2)
 else
 (zq69.g N r1.2.1 r1.2.2.1 r1.2.2.2).bind fun r6 =>
 some (r6.1, r6.2.1, r6.2.2.1, r6.2.2.2.1, r6.2.2.2.2)
theorem zq70.o0.run (N : Nat) (b0_0 : List Int) (b0_1 : Int) (b0_2 : Int) : runC zq70.C (zq70.O N) N zq70.c1 1 (st0 [.one (.ptr 0 0)] [(77, [.sl false 5 b0_0, .int .i64 b0_1, .int .u64 b0_2])] : St D0) zq70.K0 = zq70.o0 N b0_0 b0_1 b0_2 := by kernel_rfl
def zq70.g (N : Nat) (b0_0 : List Int) (b0_1 : Int) (b0_2 : Int) : Option zq70.R := zq70.o0 N b0_0 b0_1 b0_2
theorem zq70.g.run (N : Nat) (b0_0 : List Int) (b0_1 : Int) (b0_2 : Int) : runC zq70.C (zq70.O N) N zq70.c1 1 (st0 [.one (.ptr 0 0)] [(77, [.sl false 5 b0_0, .int .i64 b0_1, .int .u64 b0_2])] : St D0) zq70.K0 = zq70.g N b0_0 b0_1 b0_2 := by
  exact (zq70.o0.run N b0_0 b0_1 b0_2).trans rfl
theorem zq70.good (N : Nat) (b0_0 : List Int) (b0_1 : Int) (b0_2 : Int) (r : zq70.R) (h : zq70.g N b0_0 b0_1 b0_2 = some r) : Go.PM.Good Tryz.prog T0 57 [.one (.ptr 0 0)] [(77, [.sl false 5 b0_0, .int .i64 b0_1, .int .u64 b0_2])] (zq70.sig.ret r) (zq70.sig.bs r) :=
  good_fn tabOk0 mixed0 zq70.sig (zq70.E N) Tryz.func57 (by kernel_rfl) (by kernel_rfl) 1065013 0 1 [] 71369864 false [] [(true, [.any, .any])] (by kernel_rfl) rfl rfl ((zq70.g.run N b0_0 b0_1 b0_2).trans h)
def zq70.ent (N : Nat) : Ent Tryz.prog T0 := mkEnt 57 [(false, [.any])] zq70.sig (fun t => zq70.g N t.2.1 t.2.2.1 t.2.2.2) (fun t r h => zq70.good N t.2.1 t.2.2.1 t.2.2.2 r h)
/-! ### zq39 -/
abbrev zq39.R : Type := Int × Int × Int
abbrev zq39.sig : Sig := ⟨[(false, 1)], [], [.sl false 5], [(false, 1), (true, 2)], [], [.int .i64, .int .i64, .int .i64]⟩
def zq39.C : Cfg D0 := ⟨Tryz.prog, T0, 29, 0, 12, 0, [], 1280, false, []⟩
def zq39.E (N : Nat) : List (Ent Tryz.prog T0) := [zq64.ent N, zq70.ent N]
def zq39.O (N : Nat) : Orc D0 zq39.R := orcOf (zq39.E N)
def zq39.K0 : Ex → St D0 → Option zq39.R := exitK zq39.C Tryz.f6.results.toList [(false, [.any]), (true, [.any, .any])] (decOut zq39.sig)
def zq39.c1 : Code := codeAt (Tryz.f6.body.getD .skip) []
def zq39.o0 (N : Nat) (a0 : List Int) : Option zq39.R :=
 (zq64.g N a0 0 0).bind fun r1 =>
 (zq70.g N r1.2.1 r1.2.2.1 r1.2.2.2).bind fun r2 =>
 some (r1.1, r2.1, r2.2.1)
theorem zq39.o0.run (N : Nat) (a0 : List Int) : runC zq39.C (zq39.O N) N zq39.c1 1 (st0 [.one (.sl false 5 a0)] [] : St D0) zq39.K0 = zq39.o0 N a0 := by kernel_rfl
def zq39.g (N : Nat) (a0 : List Int) : Option zq39.R := zq39.o0 N a0
theorem zq39.g.run (N : Nat) (a0 : List Int) : runC zq39.C (zq39.O N) N zq39.c1 1 (st0 [.one (.sl false 5 a0)] [] : St D0) zq39.K0 = zq39.g N a0 := by
  exact (zq39.o0.run N a0).trans rfl
theorem zq39.good (N : Nat) (a0 : List Int) (r : zq39.R) (h : zq39.g N a0 = some r) : Go.PM.Good Tryz.prog T0 6 [.one (.sl false 5 a0)] [] (zq39.sig.ret r) (zq39.sig.bs r) :=
  good_fn tabOk0 mixed0 zq39.sig (zq39.E N) Tryz.func6 (by kernel_rfl) (by kernel_rfl) 29 0 0 [] 1280 false [] [(false, [.any]), (true, [.any, .any])] (by kernel_rfl) rfl rfl ((zq39.g.run N a0).trans h)
def zq39.ent (N : Nat) : Ent Tryz.prog T0 := mkEnt 6 [(false, [.ro 5])] zq39.sig (fun t => zq39.g N t) (fun t r h => zq39.good N t r h)
/-! ### zq41 -/
abbrev zq41.R : Type := Int × Int × Int × Int
abbrev zq41.sig : Sig := ⟨[(false, 1)], [], [.sl false 5], [(false, 1), (false, 1), (false, 1), (false, 1)], [], [.int .i64, .int .i64, .int .i64, .int .i64]⟩
def zq41.C : Cfg D0 := ⟨Tryz.prog, T0, 125, 0, 21, 0, [], 300032, false, []⟩
def zq41.E (N : Nat) : List (Ent Tryz.prog T0) := [zq64.ent N, zq63.ent N]
def zq41.O (N : Nat) : Orc D0 zq41.R := orcOf (zq41.E N)
def zq41.K0 : Ex → St D0 → Option zq41.R := exitK zq41.C Tryz.f27.results.toList [(false, [.any]), (false, [.any]), (false, [.any]), (false, [.any])] (decOut zq41.sig)
def zq41.c1 : Code := codeAt (Tryz.f27.body.getD .skip) []
def zq41.o0 (N : Nat) (a0 : List Int) : Option zq41.R :=
 (zq64.g N a0 0 0).bind fun r1 =>
 (zq63.g N ([0, 1, 5, 11, 12, 23, 24, (-1)] : List Int) r1.2.1 r1.2.2.1 r1.2.2.2).bind fun r2 =>
 (zq63.g N ([0, 1, 30, 59, 60, (-1)] : List Int) r2.2.1 r2.2.2.1 r2.2.2.2).bind fun r3 =>
 (zq63.g N ([0, 1, 30, 59, 60, (-1)] : List Int) r3.2.1 r3.2.2.1 r3.2.2.2).bind fun r4 =>
 some (r1.1, r2.1, r3.1, r4.1)
theorem zq41.o0.run (N : Nat) (a0 : List Int) : runC zq41.C (zq41.O N) N zq41.c1 1 (st0 [.one (.sl false 5 a0)] [] : St D0) zq41.K0 = zq41.o0 N a0 := by kernel_rfl
def zq41.g (N : Nat) (a0 : List Int) : Option zq41.R := zq41.o0 N a0
theorem zq41.g.run (N : Nat) (a0 : List Int) : runC zq41.C (zq41.O N) N zq41.c1 1 (st0 [.one (.sl false 5 a0)] [] : St D0) zq41.K0 = zq41.g N a0 := by
  exact (zq41.o0.run N a0).trans rfl
theorem zq41.good (N : Nat) (a0 : List Int) (r : zq41.R) (h : zq41.g N a0 = some r) : Go.PM.Good Tryz.prog T0 27 [.one (.sl false 5 a0)] [] (zq41.sig.ret r) (zq41.sig.bs r) :=
  good_fn tabOk0 mixed0 zq41.sig (zq41.E N) Tryz.func27 (by kernel_rfl) (by kernel_rfl) 125 0 0 [] 300032 false [] [(false, [.any]), (false, [.any]), (false, [.any]), (false, [.any])] (by kernel_rfl) rfl rfl ((zq41.g.run N a0).trans h)
def zq41.ent (N : Nat) : Ent Tryz.prog T0 := mkEnt 27 [(false, [.ro 5])] zq41.sig (fun t => zq41.g N t) (fun t r h => zq41.good N t r h)
/-! ### zq68 -/
abbrev zq68.R : Type := ByteArray × List Int × Int × Int
abbrev zq68.sig : Sig := ⟨[(false, 1), (false, 1), (false, 1)], [(77, 3)], [.ptr 0 0, .str, .str, .sl false 5, .int .i64, .int .u64], [(false, 1)], [(77, 3)], [.str, .sl false 5, .int .i64, .int .u64]⟩
def zq68.C : Cfg D0 := ⟨Tryz.prog, T0, 36046423565272007, 0, 68, 1, [(26, [0, 1, 2, 7], [0]), (104, [0, 1, 2, 7], [0]), (210, [0, 1, 2, 7], [0])], 15427856452832797696, false, []⟩
def zq68.E (N : Nat) : List (Ent Tryz.prog T0) := [zq67.ent N]
def zq68.O (N : Nat) : Orc D0 zq68.R := orcOf (zq68.E N)
def zq68.K0 : Ex → St D0 → Option zq68.R := exitK zq68.C Tryz.f88.results.toList [(false, [.any])] (decOut zq68.sig)
def zq68.c1 : Code := codeAt (Tryz.f88.body.getD .skip) []
def zq68.c2 : Code := codeAt (Tryz.f88.body.getD .skip) [false]
def zq68.c7 : Code := codeAt (Tryz.f88.body.getD .skip) [true, true]
def zq68.c12 : Code := codeAt (Tryz.f88.body.getD .skip) [true, false, false]
def zq68.c52 : Code := codeAt (Tryz.f88.body.getD .skip) [true, false, true, false, false]
def zq68.c104 : Code := codeAt (Tryz.f88.body.getD .skip) [true, false, true, false, false, false]
def zq68.c105 : Code := codeAt (Tryz.f88.body.getD .skip) [true, false, true, false, false, true]
def zq68.c210 : Code := codeAt (Tryz.f88.body.getD .skip) [true, false, true, false, false, true, false]
def zq68.c211 : Code := codeAt (Tryz.f88.body.getD .skip) [true, false, true, false, false, true, true]
def zq68.K211 (N : Nat) (Kn26 : St D0 → Option zq68.R) : Ex → St D0 → Option zq68.R := ((fun up => (onN (fun s => zq68.C.tidy 26 s ((onN Kn26 up) .normal)) (onN Kn26 up))) (blockK 0 (onN (fun s => zq68.C.tidy 6 s (fun s' => runC zq68.C (zq68.O N) N zq68.c7 7 s' zq68.K0)) zq68.K0)))
def zq68.o3 (N : Nat) (v0 : ByteArray) (v1 : ByteArray) (v2 : Int) (v3 : List Int) (v4 : Int) (v5 : Int) (c1 : ByteArray → ByteArray → Int → (List Int) → Int → Int → Option zq68.R) : Option zq68.R :=
 c1 v0 v1 (w64 (v2 - 1)) v3 v4 v5
theorem zq68.o3.run (N : Nat) (Kn26 : St D0 → Option zq68.R) (v0 : ByteArray) (v1 : ByteArray) (v2 : Int) (v3 : List Int) (v4 : Int) (v5 : Int) : runC zq68.C (zq68.O N) N zq68.c211 211 (mkSt [(0, .one (.ptr 0 0)), (1, .one (.str v0)), (2, .one (.str v1)), (7, .one (.int .i64 v2))] [(0, some (77, [.sl false 5 v3, .int .i64 v4, .int .u64 v5]))] : St D0) ((fun up => (onN (fun s => zq68.C.tidy 26 s ((onN Kn26 up) .normal)) (onN Kn26 up))) (blockK 0 (onN (fun s => zq68.C.tidy 6 s (fun s' => runC zq68.C (zq68.O N) N zq68.c7 7 s' zq68.K0)) zq68.K0))) = zq68.o3 N v0 v1 v2 v3 v4 v5 ((fun w0 w1 w2 w3 w4 w5 => Kn26 (mkSt [(0, .one (.ptr 0 0)), (1, .one (.str w0)), (2, .one (.str w1)), (7, .one (.int .i64 w2))] [(0, some (77, [.sl false 5 w3, .int .i64 w4, .int .u64 w5]))] : St D0))) := by kernel_rfl
def zq68.d3 (N : Nat) (v0 : ByteArray) (v1 : ByteArray) (v2 : Int) (v3 : List Int) (v4 : Int) (v5 : Int) (c1 : ByteArray → ByteArray → Int → (List Int) → Int → Int → Option zq68.R) : Option zq68.R := zq68.o3 N v0 v1 v2 v3 v4 v5 c1
theorem zq68.d3.run (N : Nat) (Kn26 : St D0 → Option zq68.R) (v0 : ByteArray) (v1 : ByteArray) (v2 : Int) (v3 : List Int) (v4 : Int) (v5 : Int) : runC zq68.C (zq68.O N) N zq68.c211 211 (mkSt [(0, .one (.ptr 0 0)), (1, .one (.str v0)), (2, .one (.str v1)), (7, .one (.int .i64 v2))] [(0, some (77, [.sl false 5 v3, .int .i64 v4, .int .u64 v5]))] : St D0) (zq68.K211 N Kn26) = zq68.d3 N v0 v1 v2 v3 v4 v5 ((fun w0 w1 w2 w3 w4 w5 => Kn26 (mkSt [(0, .one (.ptr 0 0)), (1, .one (.str w0)), (2, .one (.str w1)), (7, .one (.int .i64 w2))] [(0, some (77, [.sl false 5 w3, .int .i64 w4, .int .u64 w5]))] : St D0))) := by
  exact (zq68.o3.run N Kn26 v0 v1 v2 v3 v4 v5).trans rfl
def zq68.K105 (N : Nat) (Kn26 : St D0 → Option zq68.R) : Ex → St D0 → Option zq68.R := ((fun up => (onN (fun s => zq68.C.tidy 26 s ((onN Kn26 up) .normal)) (onN Kn26 up))) (blockK 0 (onN (fun s => zq68.C.tidy 6 s (fun s' => runC zq68.C (zq68.O N) N zq68.c7 7 s' zq68.K0)) zq68.K0)))
def zq68.o2 (N : Nat) (v0 : ByteArray) (v1 : ByteArray) (v2 : Int) (v3 : List Int) (v4 : Int) (v5 : Int) (c3 : ByteArray → ByteArray → Int → (List Int) → Int → Int → Option zq68.R) : Option zq68.R :=
 (zq67.g N (v0.size : Int) v3 v4 v5).bind fun r1 =>
 (zq67.g N (v1.size : Int) r1.2.1 r1.2.2.1 r1.2.2.2).bind fun r2 =>
 bif (decide (0 ≤ r2.1)) then
  bif (decide (r2.1 < (v1.size : Int))) then
   (numsO T0 5 ([(bt v1 r2.1)] : List Int)).bind fun r3 =>
   (zq67.g N 3 r2.2.1 r2.2.2.1 r2.2.2.2).bind fun r4 =>
   bif (r4.1 == 0) then
    bif (decide (0 ≤ r1.1)) then
     bif (decide (r1.1 ≤ (v0.size : Int))) then
      bif (decide (0 ≤ r1.1)) then
       bif (Nat.ble ((v0.extract (0 : Int).toNat (r1.1 : Int).toNat).size + (strOfNums r3).size) 9223372036854775807) then
        bif (decide (0 ≤ (v0.size : Int))) then
         bif (decide ((v0.size : Int) ≤ (v0.size : Int))) then
          bif (decide (0 ≤ r1.1)) then
           bif (decide (r1.1 ≤ (v0.size : Int))) then
            bif (Nat.ble (((v0.extract (0 : Int).toNat (r1.1 : Int).toNat) ++ (strOfNums r3)).size + (v0.extract (r1.1 : Int).toNat ((v0.size : Int) : Int).toNat).size) 9223372036854775807) then
             c3 (((v0.extract (0 : Int).toNat (r1.1 : Int).toNat) ++ (strOfNums r3)) ++ (v0.extract (r1.1 : Int).toNat ((v0.size : Int) : Int).toNat)) v1 v2 r4.2.1 r4.2.2.1 r4.2.2.2
            else
            none
           else
           none
          else
          none
         else
         none
        else
        none
       else
       none
      else
      none
     else
     none
    else
    none
   else
   bif (r4.1 == 1) then
    bif (decide (0 ≤ r1.1)) then
     bif (decide (r1.1 ≤ (v0.size : Int))) then
      bif (decide (0 ≤ r1.1)) then
       bif (Nat.ble ((v0.extract (0 : Int).toNat (r1.1 : Int).toNat).size + (strOfNums r3).size) 9223372036854775807) then
        bif (decide (0 ≤ (v0.size : Int))) then
         bif (decide ((v0.size : Int) ≤ (v0.size : Int))) then
          bif (decide (0 ≤ (w64 (r1.1 + 1)))) then
           bif (decide ((w64 (r1.1 + 1)) ≤ (v0.size : Int))) then
            bif (Nat.ble (((v0.extract (0 : Int).toNat (r1.1 : Int).toNat) ++ (strOfNums r3)).size + (v0.extract ((w64 (r1.1 + 1)) : Int).toNat ((v0.size : Int) : Int).toNat).size) 9223372036854775807) then
             c3 (((v0.extract (0 : Int).toNat (r1.1 : Int).toNat) ++ (strOfNums r3)) ++ (v0.extract ((w64 (r1.1 + 1)) : Int).toNat ((v0.size : Int) : Int).toNat)) v1 v2 r4.2.1 r4.2.2.1 r4.2.2.2
            else
            none
           else
           none
          else
          none
         else
         none
        else
        none
       else
       none
      else
      none
     else
     none
    else
    none
   else
   bif (decide (0 ≤ r1.1)) then
    bif (decide (r1.1 ≤ (v0.size : Int))) then
     bif (decide (0 ≤ r1.1)) then
      bif (decide (0 ≤ (v0.size : Int))) then
       bif (decide ((v0.size : Int) ≤ (v0.size : Int))) then
        bif (decide (0 ≤ (w64 (r1.1 + 1)))) then
         bif (decide ((w64 (r1.1 + 1)) ≤ (v0.size : Int))) then
          bif (Nat.ble ((v0.extract (0 : Int).toNat (r1.1 : Int).toNat).size + (v0.extract ((w64 (r1.1 + 1)) : Int).toNat ((v0.size : Int) : Int).toNat).size) 9223372036854775807) then
           c3 ((v0.extract (0 : Int).toNat (r1.1 : Int).toNat) ++ (v0.extract ((w64 (r1.1 + 1)) : Int).toNat ((v0.size : Int) : Int).toNat)) v1 v2 r4.2.1 r4.2.2.1 r4.2.2.2
          else
          none
         else
         none
        else
        none
       else
       none
      else
      none
     else
     none
    else
    none
   else
   none
  else
  none
 else
 none
theorem zq68.o2.run (N : Nat) (Kn26 : St D0 → Option zq68.R) (H211 : Code) (v0 : ByteArray) (v1 : ByteArray) (v2 : Int) (v3 : List Int) (v4 : Int) (v5 : Int) : runC zq68.C (zq68.O N) N (.seq zq68.c210 H211) 105 (mkSt [(0, .one (.ptr 0 0)), (1, .one (.str v0)), (2, .one (.str v1)), (7, .one (.int .i64 v2))] [(0, some (77, [.sl false 5 v3, .int .i64 v4, .int .u64 v5]))] : St D0) ((fun up => (onN (fun s => zq68.C.tidy 26 s ((onN Kn26 up) .normal)) (onN Kn26 up))) (blockK 0 (onN (fun s => zq68.C.tidy 6 s (fun s' => runC zq68.C (zq68.O N) N zq68.c7 7 s' zq68.K0)) zq68.K0))) = zq68.o2 N v0 v1 v2 v3 v4 v5 ((fun w0 w1 w2 w3 w4 w5 => runC zq68.C (zq68.O N) N H211 211 (mkSt [(0, .one (.ptr 0 0)), (1, .one (.str w0)), (2, .one (.str w1)), (7, .one (.int .i64 w2))] [(0, some (77, [.sl false 5 w3, .int .i64 w4, .int .u64 w5]))] : St D0) ((fun up => (onN (fun s => zq68.C.tidy 26 s ((onN Kn26 up) .normal)) (onN Kn26 up))) (blockK 0 (onN (fun s => zq68.C.tidy 6 s (fun s' => runC zq68.C (zq68.O N) N zq68.c7 7 s' zq68.K0)) zq68.K0))))) := by kernel_rfl
def zq68.d2 (N : Nat) (v0 : ByteArray) (v1 : ByteArray) (v2 : Int) (v3 : List Int) (v4 : Int) (v5 : Int) (c1 : ByteArray → ByteArray → Int → (List Int) → Int → Int → Option zq68.R) : Option zq68.R := zq68.o2 N v0 v1 v2 v3 v4 v5 ((fun w0 w1 w2 w3 w4 w5 => zq68.d3 N w0 w1 w2 w3 w4 w5 c1))
theorem zq68.c105_2 : zq68.c105 = (.seq zq68.c210 zq68.c211) := by kernel_rfl
theorem zq68.d2.run (N : Nat) (Kn26 : St D0 → Option zq68.R) (v0 : ByteArray) (v1 : ByteArray) (v2 : Int) (v3 : List Int) (v4 : Int) (v5 : Int) : runC zq68.C (zq68.O N) N zq68.c105 105 (mkSt [(0, .one (.ptr 0 0)), (1, .one (.str v0)), (2, .one (.str v1)), (7, .one (.int .i64 v2))] [(0, some (77, [.sl false 5 v3, .int .i64 v4, .int .u64 v5]))] : St D0) (zq68.K105 N Kn26) = zq68.d2 N v0 v1 v2 v3 v4 v5 ((fun w0 w1 w2 w3 w4 w5 => Kn26 (mkSt [(0, .one (.ptr 0 0)), (1, .one (.str w0)), (2, .one (.str w1)), (7, .one (.int .i64 w2))] [(0, some (77, [.sl false 5 w3, .int .i64 w4, .int .u64 w5]))] : St D0))) := by
  rw [zq68.c105_2]; unfold zq68.d2; exact (zq68.o2.run N Kn26 zq68.c211 v0 v1 v2 v3 v4 v5).trans (congr rfl (funext fun w0 => funext fun w1 => funext fun w2 => funext fun w3 => funext fun w4 => funext fun w5 => zq68.d3.run N Kn26 w0 w1 w2 w3 w4 w5))
def zq68.K52 (N : Nat) (Kn26 : St D0 → Option zq68.R) : Ex → St D0 → Option zq68.R := ((fun up => (onN (fun s => zq68.C.tidy 26 s ((onN Kn26 up) .normal)) (onN Kn26 up))) (blockK 0 (onN (fun s => zq68.C.tidy 6 s (fun s' => runC zq68.C (zq68.O N) N zq68.c7 7 s' zq68.K0)) zq68.K0)))
def zq68.o1 (N : Nat) (v0 : ByteArray) (v1 : ByteArray) (v2 : Int) (v3 : List Int) (v4 : Int) (v5 : Int) (c2 : ByteArray → ByteArray → Int → (List Int) → Int → Int → Option zq68.R) : Option zq68.R :=
 bif (decide (v2 > 0)) then
  bif (decide ((v0.size : Int) > 0)) then
   c2 v0 v1 v2 v3 v4 v5
  else
  some (v0, v3, v4, v5)
 else
 some (v0, v3, v4, v5)
theorem zq68.o1.run (N : Nat) (Kn26 : St D0 → Option zq68.R) (H105 : Code) (v0 : ByteArray) (v1 : ByteArray) (v2 : Int) (v3 : List Int) (v4 : Int) (v5 : Int) : runC zq68.C (zq68.O N) N (.seq zq68.c104 H105) 52 (mkSt [(0, .one (.ptr 0 0)), (1, .one (.str v0)), (2, .one (.str v1)), (7, .one (.int .i64 v2))] [(0, some (77, [.sl false 5 v3, .int .i64 v4, .int .u64 v5]))] : St D0) ((fun up => (onN (fun s => zq68.C.tidy 26 s ((onN Kn26 up) .normal)) (onN Kn26 up))) (blockK 0 (onN (fun s => zq68.C.tidy 6 s (fun s' => runC zq68.C (zq68.O N) N zq68.c7 7 s' zq68.K0)) zq68.K0))) = zq68.o1 N v0 v1 v2 v3 v4 v5 ((fun w0 w1 w2 w3 w4 w5 => runC zq68.C (zq68.O N) N H105 105 (mkSt [(0, .one (.ptr 0 0)), (1, .one (.str w0)), (2, .one (.str w1)), (7, .one (.int .i64 w2))] [(0, some (77, [.sl false 5 w3, .int .i64 w4, .int .u64 w5]))] : St D0) ((fun up => (onN (fun s => zq68.C.tidy 26 s ((onN Kn26 up) .normal)) (onN Kn26 up))) (blockK 0 (onN (fun s => zq68.C.tidy 6 s (fun s' => runC zq68.C (zq68.O N) N zq68.c7 7 s' zq68.K0)) zq68.K0))))) := by kernel_rfl
def zq68.d1 (N : Nat) (v0 : ByteArray) (v1 : ByteArray) (v2 : Int) (v3 : List Int) (v4 : Int) (v5 : Int) (c1 : ByteArray → ByteArray → Int → (List Int) → Int → Int → Option zq68.R) : Option zq68.R := zq68.o1 N v0 v1 v2 v3 v4 v5 ((fun w0 w1 w2 w3 w4 w5 => zq68.d2 N w0 w1 w2 w3 w4 w5 c1))
theorem zq68.c52_1 : zq68.c52 = (.seq zq68.c104 zq68.c105) := by kernel_rfl
theorem zq68.d1.run (N : Nat) (Kn26 : St D0 → Option zq68.R) (v0 : ByteArray) (v1 : ByteArray) (v2 : Int) (v3 : List Int) (v4 : Int) (v5 : Int) : runC zq68.C (zq68.O N) N zq68.c52 52 (mkSt [(0, .one (.ptr 0 0)), (1, .one (.str v0)), (2, .one (.str v1)), (7, .one (.int .i64 v2))] [(0, some (77, [.sl false 5 v3, .int .i64 v4, .int .u64 v5]))] : St D0) (zq68.K52 N Kn26) = zq68.d1 N v0 v1 v2 v3 v4 v5 ((fun w0 w1 w2 w3 w4 w5 => Kn26 (mkSt [(0, .one (.ptr 0 0)), (1, .one (.str w0)), (2, .one (.str w1)), (7, .one (.int .i64 w2))] [(0, some (77, [.sl false 5 w3, .int .i64 w4, .int .u64 w5]))] : St D0))) := by
  rw [zq68.c52_1]; unfold zq68.d1; exact (zq68.o1.run N Kn26 zq68.c105 v0 v1 v2 v3 v4 v5).trans (congr rfl (funext fun w0 => funext fun w1 => funext fun w2 => funext fun w3 => funext fun w4 => funext fun w5 => zq68.d2.run N Kn26 w0 w1 w2 w3 w4 w5))
def zq68.K26 (N : Nat) : Ex → St D0 → Option zq68.R := (blockK 0 (onN (fun s => zq68.C.tidy 6 s (fun s' => runC zq68.C (zq68.O N) N zq68.c7 7 s' zq68.K0)) zq68.K0))
def zq68.l1 (N : Nat) : Nat → ByteArray → ByteArray → Int → (List Int) → Int → Int → Option zq68.R
  | 0, _, _, _, _, _, _ => none
  | n + 1, v0, v1, v2, v3, v4, v5 => zq68.d1 N v0 v1 v2 v3 v4 v5 ((fun w0 w1 w2 w3 w4 w5 => zq68.l1 N n w0 w1 w2 w3 w4 w5))
theorem zq68.loop26 (N : Nat) : ∀ n, (∀ (v0 : ByteArray) (v1 : ByteArray) (v2 : Int) (v3 : List Int) (v4 : Int) (v5 : Int), iter (loopF zq68.C (zq68.O N) N zq68.c52 26) n (mkSt [(0, .one (.ptr 0 0)), (1, .one (.str v0)), (2, .one (.str v1)), (7, .one (.int .i64 v2))] [(0, some (77, [.sl false 5 v3, .int .i64 v4, .int .u64 v5]))] : St D0) (zq68.K26 N) = zq68.l1 N n v0 v1 v2 v3 v4 v5)
  | 0 => (fun v0 v1 v2 v3 v4 v5 => rfl)
  | n + 1 => (fun v0 v1 v2 v3 v4 v5 => (zq68.d1.run N (fun s => iter (loopF zq68.C (zq68.O N) N zq68.c52 26) n s (zq68.K26 N)) v0 v1 v2 v3 v4 v5).trans (show _ = zq68.d1 N v0 v1 v2 v3 v4 v5 ((fun w0 w1 w2 w3 w4 w5 => zq68.l1 N n w0 w1 w2 w3 w4 w5)) from (congr rfl (funext fun w0 => funext fun w1 => funext fun w2 => funext fun w3 => funext fun w4 => funext fun w5 => (zq68.loop26 N n) w0 w1 w2 w3 w4 w5))))
def zq68.o0 (N : Nat) (a1 : ByteArray) (a2 : ByteArray) (b0_0 : List Int) (b0_1 : Int) (b0_2 : Int) (c1 : ByteArray → ByteArray → Int → (List Int) → Int → Int → Option zq68.R) : Option zq68.R :=
 (zq67.g N 2 b0_0 b0_1 b0_2).bind fun r1 =>
 c1 a1 a2 (w64 (1 + r1.1)) r1.2.1 r1.2.2.1 r1.2.2.2
theorem zq68.o0.run (N : Nat) (H52 : Code) (a1 : ByteArray) (a2 : ByteArray) (b0_0 : List Int) (b0_1 : Int) (b0_2 : Int) : runC zq68.C (zq68.O N) N (.seq zq68.c2 (.seq (.seq zq68.c12 (.block 0 (.loop H52))) zq68.c7)) 1 (st0 [.one (.ptr 0 0), .one (.str a1), .one (.str a2)] [(77, [.sl false 5 b0_0, .int .i64 b0_1, .int .u64 b0_2])] : St D0) zq68.K0 = zq68.o0 N a1 a2 b0_0 b0_1 b0_2 ((fun w0 w1 w2 w3 w4 w5 => iter (loopF zq68.C (zq68.O N) N H52 26) N (mkSt [(0, .one (.ptr 0 0)), (1, .one (.str w0)), (2, .one (.str w1)), (7, .one (.int .i64 w2))] [(0, some (77, [.sl false 5 w3, .int .i64 w4, .int .u64 w5]))] : St D0) (blockK 0 (onN (fun s => zq68.C.tidy 6 s (fun s' => runC zq68.C (zq68.O N) N zq68.c7 7 s' zq68.K0)) zq68.K0)))) := by kernel_rfl
def zq68.g (N : Nat) (a1 : ByteArray) (a2 : ByteArray) (b0_0 : List Int) (b0_1 : Int) (b0_2 : Int) : Option zq68.R := zq68.o0 N a1 a2 b0_0 b0_1 b0_2 ((fun w0 w1 w2 w3 w4 w5 => zq68.l1 N N w0 w1 w2 w3 w4 w5))
theorem zq68.c1_0 : zq68.c1 = (.seq zq68.c2 (.seq (.seq zq68.c12 (.block 0 (.loop zq68.c52))) zq68.c7)) := by kernel_rfl
theorem zq68.g.run (N : Nat) (a1 : ByteArray) (a2 : ByteArray) (b0_0 : List Int) (b0_1 : Int) (b0_2 : Int) : runC zq68.C (zq68.O N) N zq68.c1 1 (st0 [.one (.ptr 0 0), .one (.str a1), .one (.str a2)] [(77, [.sl false 5 b0_0, .int .i64 b0_1, .int .u64 b0_2])] : St D0) zq68.K0 = zq68.g N a1 a2 b0_0 b0_1 b0_2 := by
  rw [zq68.c1_0]; unfold zq68.g; exact (zq68.o0.run N zq68.c52 a1 a2 b0_0 b0_1 b0_2).trans (congr rfl (funext fun w0 => funext fun w1 => funext fun w2 => funext fun w3 => funext fun w4 => funext fun w5 => (zq68.loop26 N N) w0 w1 w2 w3 w4 w5))
theorem zq68.good (N : Nat) (a1 : ByteArray) (a2 : ByteArray) (b0_0 : List Int) (b0_1 : Int) (b0_2 : Int) (r : zq68.R) (h : zq68.g N a1 a2 b0_0 b0_1 b0_2 = some r) : Go.PM.Good Tryz.prog T0 88 [.one (.ptr 0 0), .one (.str a1), .one (.str a2)] [(77, [.sl false 5 b0_0, .int .i64 b0_1, .int .u64 b0_2])] (zq68.sig.ret r) (zq68.sig.bs r) :=
  good_fn tabOk0 mixed0 zq68.sig (zq68.E N) Tryz.func88 (by kernel_rfl) (by kernel_rfl) 36046423565272007 0 1 [(26, [0, 1, 2, 7], [0]), (104, [0, 1, 2, 7], [0]), (210, [0, 1, 2, 7], [0])] 15427856452832797696 false [] [(false, [.any])] (by kernel_rfl) rfl rfl ((zq68.g.run N a1 a2 b0_0 b0_1 b0_2).trans h)
def zq68.ent (N : Nat) : Ent Tryz.prog T0 := mkEnt 88 [(false, [.any]), (false, [.any]), (false, [.any])] zq68.sig (fun t => zq68.g N t.2.1 t.2.2.1 t.2.2.2.1 t.2.2.2.2.1 t.2.2.2.2.2) (fun t r h => zq68.good N t.2.1 t.2.2.1 t.2.2.2.1 t.2.2.2.2.1 t.2.2.2.2.2 r h)
/-! ### zq40 -/
abbrev zq40.R : Type := Int × ByteArray
abbrev zq40.sig : Sig := ⟨[(false, 1)], [], [.sl false 5], [(false, 1), (false, 1)], [], [.int .i64, .str]⟩
def zq40.C : Cfg D0 := ⟨Tryz.prog, T0, 8519933, 0, 30, 0, [], 105424896, false, []⟩
def zq40.E (N : Nat) : List (Ent Tryz.prog T0) := [zq64.ent N, zq69.ent N, zq55.ent N, zq59.ent N, zq66.ent N, zq68.ent N]
def zq40.O (N : Nat) : Orc D0 zq40.R := orcOf (zq40.E N)
def zq40.K0 : Ex → St D0 → Option zq40.R := exitK zq40.C Tryz.f30.results.toList [(false, [.any]), (false, [.any])] (decOut zq40.sig)
def zq40.c1 : Code := codeAt (Tryz.f30.body.getD .skip) []
def zq40.o0 (N : Nat) (a0 : List Int) : Option zq40.R :=
 (zq64.g N a0 0 0).bind fun r1 =>
 (zq69.g N r1.2.1 r1.2.2.1 r1.2.2.2).bind fun r2 =>
 (zq55.g N r1.1).bind fun r3 =>
 bif (!r3) then
  some (r1.1, (⟨#[48, 48, 58, 48, 48, 58, 48, 48]⟩ : ByteArray))
 else
 (zq59.g N r1.1 r2.1 r2.2.1).bind fun r4 =>
 (zq66.g N 3 r2.2.2.1 r2.2.2.2.1 r2.2.2.2.2).bind fun r5 =>
 bif r5.1 then
  (zq68.g N r4 (⟨#[48, 49, 50, 57, 58, 43, 47, 120]⟩ : ByteArray) r5.2.1 r5.2.2.1 r5.2.2.2).bind fun r6 =>
  some (r1.1, r6.1)
 else
 some (r1.1, r4)
theorem zq40.o0.run (N : Nat) (a0 : List Int) : runC zq40.C (zq40.O N) N zq40.c1 1 (st0 [.one (.sl false 5 a0)] [] : St D0) zq40.K0 = zq40.o0 N a0 := by kernel_rfl
def zq40.g (N : Nat) (a0 : List Int) : Option zq40.R := zq40.o0 N a0
theorem zq40.g.run (N : Nat) (a0 : List Int) : runC zq40.C (zq40.O N) N zq40.c1 1 (st0 [.one (.sl false 5 a0)] [] : St D0) zq40.K0 = zq40.g N a0 := by
  exact (zq40.o0.run N a0).trans rfl
theorem zq40.good (N : Nat) (a0 : List Int) (r : zq40.R) (h : zq40.g N a0 = some r) : Go.PM.Good Tryz.prog T0 30 [.one (.sl false 5 a0)] [] (zq40.sig.ret r) (zq40.sig.bs r) :=
  good_fn tabOk0 mixed0 zq40.sig (zq40.E N) Tryz.func30 (by kernel_rfl) (by kernel_rfl) 8519933 0 0 [] 105424896 false [] [(false, [.any]), (false, [.any])] (by kernel_rfl) rfl rfl ((zq40.g.run N a0).trans h)
def zq40.ent (N : Nat) : Ent Tryz.prog T0 := mkEnt 30 [(false, [.ro 5])] zq40.sig (fun t => zq40.g N t) (fun t r h => zq40.good N t r h)
/-! ### zq11 -/
abbrev zq11.R : Type := Int × Int × Bool
abbrev zq11.sig : Sig := ⟨[(false, 1), (false, 1), (false, 1), (false, 1)], [], [.int .i64, .int .i64, .int .i64, .int .i64], [(true, 2), (false, 1)], [], [.int .i64, .int .i64, .bool]⟩
def zq11.C : Cfg D0 := ⟨Tryz.prog, T0, 536871695, 0, 41, 0, [(12, [0, 1, 2, 3, 8, 29], [8])], 354404058112, false, []⟩
def zq11.E (N : Nat) : List (Ent Tryz.prog T0) := [zq24.ent N, zq31.ent N, zq26.ent N]
def zq11.O (N : Nat) : Orc D0 zq11.R := orcOf (zq11.E N)
def zq11.K0 : Ex → St D0 → Option zq11.R := exitK zq11.C Tryz.f28.results.toList [(true, [.any, .any]), (false, [.any])] (decOut zq11.sig)
def zq11.c1 : Code := codeAt (Tryz.f28.body.getD .skip) []
def zq11.c2 : Code := codeAt (Tryz.f28.body.getD .skip) [false]
def zq11.c7 : Code := codeAt (Tryz.f28.body.getD .skip) [true, true]
def zq11.c12 : Code := codeAt (Tryz.f28.body.getD .skip) [true, false, false]
def zq11.c13 : Code := codeAt (Tryz.f28.body.getD .skip) [true, false, true]
def zq11.K13 (N : Nat) : Ex → St D0 → Option zq11.R := (onN (fun s => zq11.C.tidy 6 s (fun s' => runC zq11.C (zq11.O N) N zq11.c7 7 s' zq11.K0)) zq11.K0)
def zq11.o1 (N : Nat) (v0 : Int) (v1 : Int) (v2 : Int) (v3 : Int) (v4 : Bool) (v5 : Int) (v6 : Int) : Option zq11.R :=
 bif v4 then
  some (0, 0, false)
 else
 (zq26.g N (w64 ((w64 ((w64 (v1 * 3600)) + (w64 (v2 * 60)))) + v3)) (w64 (v0 * 3600))).bind fun r1 =>
 some (r1.1, r1.2, true)
theorem zq11.o1.run (N : Nat) (v0 : Int) (v1 : Int) (v2 : Int) (v3 : Int) (v4 : Bool) (v5 : Int) (v6 : Int) : runC zq11.C (zq11.O N) N zq11.c13 13 (mkSt [(0, .one (.int .i64 v0)), (1, .one (.int .i64 v1)), (2, .one (.int .i64 v2)), (3, .one (.int .i64 v3)), (8, .one (.ptr 8 0)), (29, .one (.bool v4))] [(8, some (25, [.int .i64 v5, .int .i64 v6]))] : St D0) (onN (fun s => zq11.C.tidy 6 s (fun s' => runC zq11.C (zq11.O N) N zq11.c7 7 s' zq11.K0)) zq11.K0) = zq11.o1 N v0 v1 v2 v3 v4 v5 v6 := by kernel_rfl
def zq11.d1 (N : Nat) (v0 : Int) (v1 : Int) (v2 : Int) (v3 : Int) (v4 : Bool) (v5 : Int) (v6 : Int) : Option zq11.R := zq11.o1 N v0 v1 v2 v3 v4 v5 v6
theorem zq11.d1.run (N : Nat) (v0 : Int) (v1 : Int) (v2 : Int) (v3 : Int) (v4 : Bool) (v5 : Int) (v6 : Int) : runC zq11.C (zq11.O N) N zq11.c13 13 (mkSt [(0, .one (.int .i64 v0)), (1, .one (.int .i64 v1)), (2, .one (.int .i64 v2)), (3, .one (.int .i64 v3)), (8, .one (.ptr 8 0)), (29, .one (.bool v4))] [(8, some (25, [.int .i64 v5, .int .i64 v6]))] : St D0) (zq11.K13 N) = zq11.d1 N v0 v1 v2 v3 v4 v5 v6 := by
  exact (zq11.o1.run N v0 v1 v2 v3 v4 v5 v6).trans rfl
def zq11.o0 (N : Nat) (a0 : Int) (a1 : Int) (a2 : Int) (a3 : Int) (c1 : Int → Int → Int → Int → Bool → Int → Int → Option zq11.R) : Option zq11.R :=
 (zq24.g N a0).bind fun r1 =>
 bif (!r1) then
  c1 a0 a1 a2 a3 true 0 0
 else
 (zq31.g N a1 0 (w64 (a0 - 1))).bind fun r2 =>
 bif (!r2) then
  c1 a0 a1 a2 a3 true 0 0
 else
 (zq31.g N a2 0 59).bind fun r3 =>
 bif (!r3) then
  c1 a0 a1 a2 a3 true 0 0
 else
 (zq31.g N a3 0 59).bind fun r4 =>
 c1 a0 a1 a2 a3 (!r4) 0 0
theorem zq11.o0.run (N : Nat) (H13 : Code) (a0 : Int) (a1 : Int) (a2 : Int) (a3 : Int) : runC zq11.C (zq11.O N) N (.seq zq11.c2 (.seq (.seq zq11.c12 H13) zq11.c7)) 1 (st0 [.one (.int .i64 a0), .one (.int .i64 a1), .one (.int .i64 a2), .one (.int .i64 a3)] [] : St D0) zq11.K0 = zq11.o0 N a0 a1 a2 a3 ((fun w0 w1 w2 w3 w4 w5 w6 => runC zq11.C (zq11.O N) N H13 13 (mkSt [(0, .one (.int .i64 w0)), (1, .one (.int .i64 w1)), (2, .one (.int .i64 w2)), (3, .one (.int .i64 w3)), (8, .one (.ptr 8 0)), (29, .one (.bool w4))] [(8, some (25, [.int .i64 w5, .int .i64 w6]))] : St D0) (onN (fun s => zq11.C.tidy 6 s (fun s' => runC zq11.C (zq11.O N) N zq11.c7 7 s' zq11.K0)) zq11.K0))) := by kernel_rfl
def zq11.g (N : Nat) (a0 : Int) (a1 : Int) (a2 : Int) (a3 : Int) : Option zq11.R := zq11.o0 N a0 a1 a2 a3 ((fun w0 w1 w2 w3 w4 w5 w6 => zq11.d1 N w0 w1 w2 w3 w4 w5 w6))
theorem zq11.c1_0 : zq11.c1 = (.seq zq11.c2 (.seq (.seq zq11.c12 zq11.c13) zq11.c7)) := by kernel_rfl
theorem zq11.g.run (N : Nat) (a0 : Int) (a1 : Int) (a2 : Int) (a3 : Int) : runC zq11.C (zq11.O N) N zq11.c1 1 (st0 [.one (.int .i64 a0), .one (.int .i64 a1), .one (.int .i64 a2), .one (.int .i64 a3)] [] : St D0) zq11.K0 = zq11.g N a0 a1 a2 a3 := by
  rw [zq11.c1_0]; unfold zq11.g; exact (zq11.o0.run N zq11.c13 a0 a1 a2 a3).trans (congr rfl (funext fun w0 => funext fun w1 => funext fun w2 => funext fun w3 => funext fun w4 => funext fun w5 => funext fun w6 => zq11.d1.run N w0 w1 w2 w3 w4 w5 w6))
theorem zq11.good (N : Nat) (a0 : Int) (a1 : Int) (a2 : Int) (a3 : Int) (r : zq11.R) (h : zq11.g N a0 a1 a2 a3 = some r) : Go.PM.Good Tryz.prog T0 28 [.one (.int .i64 a0), .one (.int .i64 a1), .one (.int .i64 a2), .one (.int .i64 a3)] [] (zq11.sig.ret r) (zq11.sig.bs r) :=
  good_fn tabOk0 mixed0 zq11.sig (zq11.E N) Tryz.func28 (by kernel_rfl) (by kernel_rfl) 536871695 0 0 [(12, [0, 1, 2, 3, 8, 29], [8])] 354404058112 false [] [(true, [.any, .any]), (false, [.any])] (by kernel_rfl) rfl rfl ((zq11.g.run N a0 a1 a2 a3).trans h)
def zq11.ent (N : Nat) : Ent Tryz.prog T0 := mkEnt 28 [(false, [.any]), (false, [.any]), (false, [.any]), (false, [.any])] zq11.sig (fun t => zq11.g N t.1 t.2.1 t.2.2.1 t.2.2.2) (fun t r h => zq11.good N t.1 t.2.1 t.2.2.1 t.2.2.2 r h)
/-! ### zq60 -/
abbrev zq60.R : Type := Int × Int
abbrev zq60.sig : Sig := ⟨[(false, 1), (false, 1), (false, 1), (false, 1)], [], [.int .i64, .int .i64, .int .i64, .int .i64], [(true, 2)], [], [.int .i64, .int .i64]⟩
def zq60.C : Cfg D0 := ⟨Tryz.prog, T0, 783, 0, 25, 0, [], 675840, false, []⟩
def zq60.E (N : Nat) : List (Ent Tryz.prog T0) := [zq56.ent N]
def zq60.O (N : Nat) : Orc D0 zq60.R := orcOf (zq60.E N)
def zq60.K0 : Ex → St D0 → Option zq60.R := exitK zq60.C Tryz.f85.results.toList [(true, [.any, .any])] (decOut zq60.sig)
def zq60.c1 : Code := codeAt (Tryz.f85.body.getD .skip) []
def zq60.o0 (N : Nat) (a0 : Int) (a1 : Int) (a2 : Int) (a3 : Int) : Option zq60.R :=
 (zq56.g N (w64 ((w64 ((w64 ((w64 (a1 * 60)) + a2)) * 60)) + a3)) (w64 (a0 * 3600))).bind fun r1 =>
 some (r1.1, r1.2.1)
theorem zq60.o0.run (N : Nat) (a0 : Int) (a1 : Int) (a2 : Int) (a3 : Int) : runC zq60.C (zq60.O N) N zq60.c1 1 (st0 [.one (.int .i64 a0), .one (.int .i64 a1), .one (.int .i64 a2), .one (.int .i64 a3)] [] : St D0) zq60.K0 = zq60.o0 N a0 a1 a2 a3 := by kernel_rfl
def zq60.g (N : Nat) (a0 : Int) (a1 : Int) (a2 : Int) (a3 : Int) : Option zq60.R := zq60.o0 N a0 a1 a2 a3
theorem zq60.g.run (N : Nat) (a0 : Int) (a1 : Int) (a2 : Int) (a3 : Int) : runC zq60.C (zq60.O N) N zq60.c1 1 (st0 [.one (.int .i64 a0), .one (.int .i64 a1), .one (.int .i64 a2), .one (.int .i64 a3)] [] : St D0) zq60.K0 = zq60.g N a0 a1 a2 a3 := by
  exact (zq60.o0.run N a0 a1 a2 a3).trans rfl
theorem zq60.good (N : Nat) (a0 : Int) (a1 : Int) (a2 : Int) (a3 : Int) (r : zq60.R) (h : zq60.g N a0 a1 a2 a3 = some r) : Go.PM.Good Tryz.prog T0 85 [.one (.int .i64 a0), .one (.int .i64 a1), .one (.int .i64 a2), .one (.int .i64 a3)] [] (zq60.sig.ret r) (zq60.sig.bs r) :=
  good_fn tabOk0 mixed0 zq60.sig (zq60.E N) Tryz.func85 (by kernel_rfl) (by kernel_rfl) 783 0 0 [] 675840 false [] [(true, [.any, .any])] (by kernel_rfl) rfl rfl ((zq60.g.run N a0 a1 a2 a3).trans h)
def zq60.ent (N : Nat) : Ent Tryz.prog T0 := mkEnt 85 [(false, [.any]), (false, [.any]), (false, [.any]), (false, [.any])] zq60.sig (fun t => zq60.g N t.1 t.2.1 t.2.2.1 t.2.2.2) (fun t r h => zq60.good N t.1 t.2.1 t.2.2.1 t.2.2.2 r h)
/-! ### zq48 -/
abbrev zq48.R : Type := Int × Int × Bool
abbrev zq48.sig : Sig := ⟨[(false, 1), (false, 1), (false, 1), (false, 1)], [], [.int .i64, .int .i64, .int .i64, .int .i64], [(true, 2), (false, 1)], [], [.int .i64, .int .i64, .bool]⟩
def zq48.C : Cfg D0 := ⟨Tryz.prog, T0, 536871695, 0, 36, 0, [(12, [0, 1, 2, 3, 8, 29], [8])], 32281510912, false, []⟩
def zq48.E (N : Nat) : List (Ent Tryz.prog T0) := [zq55.ent N, zq71.ent N, zq60.ent N]
def zq48.O (N : Nat) : Orc D0 zq48.R := orcOf (zq48.E N)
def zq48.K0 : Ex → St D0 → Option zq48.R := exitK zq48.C Tryz.f29.results.toList [(true, [.any, .any]), (false, [.any])] (decOut zq48.sig)
def zq48.c1 : Code := codeAt (Tryz.f29.body.getD .skip) []
def zq48.c2 : Code := codeAt (Tryz.f29.body.getD .skip) [false]
def zq48.c7 : Code := codeAt (Tryz.f29.body.getD .skip) [true, true]
def zq48.c12 : Code := codeAt (Tryz.f29.body.getD .skip) [true, false, false]
def zq48.c13 : Code := codeAt (Tryz.f29.body.getD .skip) [true, false, true]
def zq48.K13 (N : Nat) : Ex → St D0 → Option zq48.R := (onN (fun s => zq48.C.tidy 6 s (fun s' => runC zq48.C (zq48.O N) N zq48.c7 7 s' zq48.K0)) zq48.K0)
def zq48.o1 (N : Nat) (v0 : Int) (v1 : Int) (v2 : Int) (v3 : Int) (v4 : Bool) (v5 : Int) (v6 : Int) : Option zq48.R :=
 bif v4 then
  some (0, 0, false)
 else
 (zq60.g N v0 v1 v2 v3).bind fun r1 =>
 some (r1.1, r1.2, true)
theorem zq48.o1.run (N : Nat) (v0 : Int) (v1 : Int) (v2 : Int) (v3 : Int) (v4 : Bool) (v5 : Int) (v6 : Int) : runC zq48.C (zq48.O N) N zq48.c13 13 (mkSt [(0, .one (.int .i64 v0)), (1, .one (.int .i64 v1)), (2, .one (.int .i64 v2)), (3, .one (.int .i64 v3)), (8, .one (.ptr 8 0)), (29, .one (.bool v4))] [(8, some (25, [.int .i64 v5, .int .i64 v6]))] : St D0) (onN (fun s => zq48.C.tidy 6 s (fun s' => runC zq48.C (zq48.O N) N zq48.c7 7 s' zq48.K0)) zq48.K0) = zq48.o1 N v0 v1 v2 v3 v4 v5 v6 := by kernel_rfl
def zq48.d1 (N : Nat) (v0 : Int) (v1 : Int) (v2 : Int) (v3 : Int) (v4 : Bool) (v5 : Int) (v6 : Int) : Option zq48.R := zq48.o1 N v0 v1 v2 v3 v4 v5 v6
theorem zq48.d1.run (N : Nat) (v0 : Int) (v1 : Int) (v2 : Int) (v3 : Int) (v4 : Bool) (v5 : Int) (v6 : Int) : runC zq48.C (zq48.O N) N zq48.c13 13 (mkSt [(0, .one (.int .i64 v0)), (1, .one (.int .i64 v1)), (2, .one (.int .i64 v2)), (3, .one (.int .i64 v3)), (8, .one (.ptr 8 0)), (29, .one (.bool v4))] [(8, some (25, [.int .i64 v5, .int .i64 v6]))] : St D0) (zq48.K13 N) = zq48.d1 N v0 v1 v2 v3 v4 v5 v6 := by
  exact (zq48.o1.run N v0 v1 v2 v3 v4 v5 v6).trans rfl
def zq48.o0 (N : Nat) (a0 : Int) (a1 : Int) (a2 : Int) (a3 : Int) (c1 : Int → Int → Int → Int → Bool → Int → Int → Option zq48.R) : Option zq48.R :=
 (zq55.g N a0).bind fun r1 =>
 bif (!r1) then
  c1 a0 a1 a2 a3 true 0 0
 else
 (zq71.g N a1 0 (w64 (a0 - 1))).bind fun r2 =>
 bif (!r2) then
  c1 a0 a1 a2 a3 true 0 0
 else
 (zq71.g N a2 0 59).bind fun r3 =>
 bif (!r3) then
  c1 a0 a1 a2 a3 true 0 0
 else
 (zq71.g N a3 0 59).bind fun r4 =>
 c1 a0 a1 a2 a3 (!r4) 0 0
theorem zq48.o0.run (N : Nat) (H13 : Code) (a0 : Int) (a1 : Int) (a2 : Int) (a3 : Int) : runC zq48.C (zq48.O N) N (.seq zq48.c2 (.seq (.seq zq48.c12 H13) zq48.c7)) 1 (st0 [.one (.int .i64 a0), .one (.int .i64 a1), .one (.int .i64 a2), .one (.int .i64 a3)] [] : St D0) zq48.K0 = zq48.o0 N a0 a1 a2 a3 ((fun w0 w1 w2 w3 w4 w5 w6 => runC zq48.C (zq48.O N) N H13 13 (mkSt [(0, .one (.int .i64 w0)), (1, .one (.int .i64 w1)), (2, .one (.int .i64 w2)), (3, .one (.int .i64 w3)), (8, .one (.ptr 8 0)), (29, .one (.bool w4))] [(8, some (25, [.int .i64 w5, .int .i64 w6]))] : St D0) (onN (fun s => zq48.C.tidy 6 s (fun s' => runC zq48.C (zq48.O N) N zq48.c7 7 s' zq48.K0)) zq48.K0))) := by kernel_rfl
def zq48.g (N : Nat) (a0 : Int) (a1 : Int) (a2 : Int) (a3 : Int) : Option zq48.R := zq48.o0 N a0 a1 a2 a3 ((fun w0 w1 w2 w3 w4 w5 w6 => zq48.d1 N w0 w1 w2 w3 w4 w5 w6))
theorem zq48.c1_0 : zq48.c1 = (.seq zq48.c2 (.seq (.seq zq48.c12 zq48.c13) zq48.c7)) := by kernel_rfl
theorem zq48.g.run (N : Nat) (a0 : Int) (a1 : Int) (a2 : Int) (a3 : Int) : runC zq48.C (zq48.O N) N zq48.c1 1 (st0 [.one (.int .i64 a0), .one (.int .i64 a1), .one (.int .i64 a2), .one (.int .i64 a3)] [] : St D0) zq48.K0 = zq48.g N a0 a1 a2 a3 := by
  rw [zq48.c1_0]; unfold zq48.g; exact (zq48.o0.run N zq48.c13 a0 a1 a2 a3).trans (congr rfl (funext fun w0 => funext fun w1 => funext fun w2 => funext fun w3 => funext fun w4 => funext fun w5 => funext fun w6 => zq48.d1.run N w0 w1 w2 w3 w4 w5 w6))
theorem zq48.good (N : Nat) (a0 : Int) (a1 : Int) (a2 : Int) (a3 : Int) (r : zq48.R) (h : zq48.g N a0 a1 a2 a3 = some r) : Go.PM.Good Tryz.prog T0 29 [.one (.int .i64 a0), .one (.int .i64 a1), .one (.int .i64 a2), .one (.int .i64 a3)] [] (zq48.sig.ret r) (zq48.sig.bs r) :=
  good_fn tabOk0 mixed0 zq48.sig (zq48.E N) Tryz.func29 (by kernel_rfl) (by kernel_rfl) 536871695 0 0 [(12, [0, 1, 2, 3, 8, 29], [8])] 32281510912 false [] [(true, [.any, .any]), (false, [.any])] (by kernel_rfl) rfl rfl ((zq48.g.run N a0 a1 a2 a3).trans h)
def zq48.ent (N : Nat) : Ent Tryz.prog T0 := mkEnt 29 [(false, [.any]), (false, [.any]), (false, [.any]), (false, [.any])] zq48.sig (fun t => zq48.g N t.1 t.2.1 t.2.2.1 t.2.2.2) (fun t r h => zq48.good N t.1 t.2.1 t.2.2.1 t.2.2.2 r h)
/-! ### zq35 -/
abbrev zq35.R : Type := Bool
abbrev zq35.sig : Sig := ⟨[(false, 1), (false, 1)], [], [.sl false 25, .sl false 25], [(false, 1)], [], [.bool]⟩
def zq35.C : Cfg D0 := ⟨Tryz.prog, T0, 16806963, 0, 26, 0, [(58, [0, 1, 12, 13], [])], 3344704, false, []⟩
def zq35.E (N : Nat) : List (Ent Tryz.prog T0) := []
def zq35.O (N : Nat) : Orc D0 zq35.R := orcOf (zq35.E N)
def zq35.K0 : Ex → St D0 → Option zq35.R := exitK zq35.C Tryz.f23.results.toList [(false, [.any])] (decOut zq35.sig)
def zq35.c1 : Code := codeAt (Tryz.f23.body.getD .skip) []
def zq35.c2 : Code := codeAt (Tryz.f23.body.getD .skip) [false]
def zq35.c6 : Code := codeAt (Tryz.f23.body.getD .skip) [true, false]
def zq35.c15 : Code := codeAt (Tryz.f23.body.getD .skip) [true, true, true]
def zq35.c28 : Code := codeAt (Tryz.f23.body.getD .skip) [true, true, false, false]
def zq35.c116 : Code := codeAt (Tryz.f23.body.getD .skip) [true, true, false, true, false, false]
def zq35.K116 (N : Nat) (Kn58 : St D0 → Option zq35.R) : Ex → St D0 → Option zq35.R := ((fun up => (onN (fun s => zq35.C.tidy 58 s ((onN Kn58 up) .normal)) (onN Kn58 up))) (blockK 0 (onN (fun s => zq35.C.tidy 14 s (fun s' => runC zq35.C (zq35.O N) N zq35.c15 15 s' zq35.K0)) zq35.K0)))
def zq35.o1 (N : Nat) (v0 : List S25) (v1 : List S25) (v2 : Int) (v3 : Int) (c1 : (List S25) → (List S25) → Int → Int → Option zq35.R) : Option zq35.R :=
 bif (decide (v3 < v2)) then
  bif (decide (0 ≤ v3)) then
   bif (decide (v3 < (v0.length : Int))) then
    (v0[(v3 : Int).toNat]?).bind fun x1 =>
    bif (decide (0 ≤ v3)) then
     bif (decide (v3 < (v1.length : Int))) then
      (v1[(v3 : Int).toNat]?).bind fun x2 =>
      bif (!((x1.f0 == x2.f0) && ((x1.f1 == x2.f1) && true))) then
       some (false)
      else
      c1 v0 v1 v2 (w64 (v3 + 1))
     else
     none
    else
    none
   else
   none
  else
  none
 else
 some (true)
theorem zq35.o1.run (N : Nat) (Kn58 : St D0 → Option zq35.R) (v0 : List S25) (v1 : List S25) (v2 : Int) (v3 : Int) : runC zq35.C (zq35.O N) N zq35.c116 116 (mkSt [(0, .one (.sl false 25 v0)), (1, .one (.sl false 25 v1)), (12, .one (.int .i64 v2)), (13, .one (.int .i64 v3))] [] : St D0) ((fun up => (onN (fun s => zq35.C.tidy 58 s ((onN Kn58 up) .normal)) (onN Kn58 up))) (blockK 0 (onN (fun s => zq35.C.tidy 14 s (fun s' => runC zq35.C (zq35.O N) N zq35.c15 15 s' zq35.K0)) zq35.K0))) = zq35.o1 N v0 v1 v2 v3 ((fun w0 w1 w2 w3 => Kn58 (mkSt [(0, .one (.sl false 25 w0)), (1, .one (.sl false 25 w1)), (12, .one (.int .i64 w2)), (13, .one (.int .i64 w3))] [] : St D0))) := by kernel_rfl
def zq35.d1 (N : Nat) (v0 : List S25) (v1 : List S25) (v2 : Int) (v3 : Int) (c1 : (List S25) → (List S25) → Int → Int → Option zq35.R) : Option zq35.R := zq35.o1 N v0 v1 v2 v3 c1
theorem zq35.d1.run (N : Nat) (Kn58 : St D0 → Option zq35.R) (v0 : List S25) (v1 : List S25) (v2 : Int) (v3 : Int) : runC zq35.C (zq35.O N) N zq35.c116 116 (mkSt [(0, .one (.sl false 25 v0)), (1, .one (.sl false 25 v1)), (12, .one (.int .i64 v2)), (13, .one (.int .i64 v3))] [] : St D0) (zq35.K116 N Kn58) = zq35.d1 N v0 v1 v2 v3 ((fun w0 w1 w2 w3 => Kn58 (mkSt [(0, .one (.sl false 25 w0)), (1, .one (.sl false 25 w1)), (12, .one (.int .i64 w2)), (13, .one (.int .i64 w3))] [] : St D0))) := by
  exact (zq35.o1.run N Kn58 v0 v1 v2 v3).trans rfl
def zq35.K58 (N : Nat) : Ex → St D0 → Option zq35.R := (blockK 0 (onN (fun s => zq35.C.tidy 14 s (fun s' => runC zq35.C (zq35.O N) N zq35.c15 15 s' zq35.K0)) zq35.K0))
def zq35.l1 (N : Nat) : Nat → (List S25) → (List S25) → Int → Int → Option zq35.R
  | 0, _, _, _, _ => none
  | n + 1, v0, v1, v2, v3 => zq35.d1 N v0 v1 v2 v3 ((fun w0 w1 w2 w3 => zq35.l1 N n w0 w1 w2 w3))
theorem zq35.loop58 (N : Nat) : ∀ n, (∀ (v0 : List S25) (v1 : List S25) (v2 : Int) (v3 : Int), iter (loopF zq35.C (zq35.O N) N zq35.c116 58) n (mkSt [(0, .one (.sl false 25 v0)), (1, .one (.sl false 25 v1)), (12, .one (.int .i64 v2)), (13, .one (.int .i64 v3))] [] : St D0) (zq35.K58 N) = zq35.l1 N n v0 v1 v2 v3)
  | 0 => (fun v0 v1 v2 v3 => rfl)
  | n + 1 => (fun v0 v1 v2 v3 => (zq35.d1.run N (fun s => iter (loopF zq35.C (zq35.O N) N zq35.c116 58) n s (zq35.K58 N)) v0 v1 v2 v3).trans (show _ = zq35.d1 N v0 v1 v2 v3 ((fun w0 w1 w2 w3 => zq35.l1 N n w0 w1 w2 w3)) from (congr rfl (funext fun w0 => funext fun w1 => funext fun w2 => funext fun w3 => (zq35.loop58 N n) w0 w1 w2 w3))))
def zq35.o0 (N : Nat) (a0 : List S25) (a1 : List S25) (c1 : (List S25) → (List S25) → Int → Int → Option zq35.R) : Option zq35.R :=
 bif ((a0.length : Int) != (a1.length : Int)) then
  some (false)
 else
 c1 a0 a1 (a0.length : Int) 0
theorem zq35.o0.run (N : Nat) (H116 : Code) (a0 : List S25) (a1 : List S25) : runC zq35.C (zq35.O N) N (.seq zq35.c2 (.seq zq35.c6 (.seq (.seq zq35.c28 (.block 0 (.loop H116))) zq35.c15))) 1 (st0 [.one (.sl false 25 a0), .one (.sl false 25 a1)] [] : St D0) zq35.K0 = zq35.o0 N a0 a1 ((fun w0 w1 w2 w3 => iter (loopF zq35.C (zq35.O N) N H116 58) N (mkSt [(0, .one (.sl false 25 w0)), (1, .one (.sl false 25 w1)), (12, .one (.int .i64 w2)), (13, .one (.int .i64 w3))] [] : St D0) (blockK 0 (onN (fun s => zq35.C.tidy 14 s (fun s' => runC zq35.C (zq35.O N) N zq35.c15 15 s' zq35.K0)) zq35.K0)))) := by kernel_rfl
def zq35.g (N : Nat) (a0 : List S25) (a1 : List S25) : Option zq35.R := zq35.o0 N a0 a1 ((fun w0 w1 w2 w3 => zq35.l1 N N w0 w1 w2 w3))
theorem zq35.c1_0 : zq35.c1 = (.seq zq35.c2 (.seq zq35.c6 (.seq (.seq zq35.c28 (.block 0 (.loop zq35.c116))) zq35.c15))) := by kernel_rfl
theorem zq35.g.run (N : Nat) (a0 : List S25) (a1 : List S25) : runC zq35.C (zq35.O N) N zq35.c1 1 (st0 [.one (.sl false 25 a0), .one (.sl false 25 a1)] [] : St D0) zq35.K0 = zq35.g N a0 a1 := by
  rw [zq35.c1_0]; unfold zq35.g; exact (zq35.o0.run N zq35.c116 a0 a1).trans (congr rfl (funext fun w0 => funext fun w1 => funext fun w2 => funext fun w3 => (zq35.loop58 N N) w0 w1 w2 w3))
theorem zq35.good (N : Nat) (a0 : List S25) (a1 : List S25) (r : zq35.R) (h : zq35.g N a0 a1 = some r) : Go.PM.Good Tryz.prog T0 23 [.one (.sl false 25 a0), .one (.sl false 25 a1)] [] (zq35.sig.ret r) (zq35.sig.bs r) :=
  good_fn tabOk0 mixed0 zq35.sig (zq35.E N) Tryz.func23 (by kernel_rfl) (by kernel_rfl) 16806963 0 0 [(58, [0, 1, 12, 13], [])] 3344704 false [] [(false, [.any])] (by kernel_rfl) rfl rfl ((zq35.g.run N a0 a1).trans h)
def zq35.ent (N : Nat) : Ent Tryz.prog T0 := mkEnt 23 [(false, [.ro 25]), (false, [.ro 25])] zq35.sig (fun t => zq35.g N t.1 t.2) (fun t r h => zq35.good N t.1 t.2 r h)
/-! ### zq34 -/
abbrev zq34.R : Type := Bool
abbrev zq34.sig : Sig := ⟨[(false, 1)], [], [.sl false 25], [(false, 1)], [], [.bool]⟩
def zq34.C : Cfg D0 := ⟨Tryz.prog, T0, 17179869325, 0, 35, 0, [(26, [0, 3], [])], 415436080, false, []⟩
def zq34.E (N : Nat) : List (Ent Tryz.prog T0) := []
def zq34.O (N : Nat) : Orc D0 zq34.R := orcOf (zq34.E N)
def zq34.K0 : Ex → St D0 → Option zq34.R := exitK zq34.C Tryz.f26.results.toList [(false, [.any])] (decOut zq34.sig)
def zq34.c1 : Code := codeAt (Tryz.f26.body.getD .skip) []
def zq34.c2 : Code := codeAt (Tryz.f26.body.getD .skip) [false]
def zq34.c7 : Code := codeAt (Tryz.f26.body.getD .skip) [true, true]
def zq34.c12 : Code := codeAt (Tryz.f26.body.getD .skip) [true, false, false]
def zq34.c52 : Code := codeAt (Tryz.f26.body.getD .skip) [true, false, true, false, false]
def zq34.K52 (N : Nat) (Kn26 : St D0 → Option zq34.R) : Ex → St D0 → Option zq34.R := ((fun up => (onN (fun s => zq34.C.tidy 26 s ((onN Kn26 up) .normal)) (onN Kn26 up))) (blockK 0 (onN (fun s => zq34.C.tidy 6 s (fun s' => runC zq34.C (zq34.O N) N zq34.c7 7 s' zq34.K0)) zq34.K0)))
def zq34.o1 (N : Nat) (v0 : List S25) (v1 : Int) (c1 : (List S25) → Int → Option zq34.R) : Option zq34.R :=
 bif (decide (v1 < (v0.length : Int))) then
  bif (decide (0 ≤ (w64 (v1 - 1)))) then
   bif (decide ((w64 (v1 - 1)) < (v0.length : Int))) then
    (v0[((w64 (v1 - 1)) : Int).toNat]?).bind fun x1 =>
    bif (decide (0 ≤ v1)) then
     bif (decide (v1 < (v0.length : Int))) then
      (v0[(v1 : Int).toNat]?).bind fun x2 =>
      bif (decide (0 ≤ v1)) then
       bif (decide (v1 < (v0.length : Int))) then
        (v0[(v1 : Int).toNat]?).bind fun x3 =>
        bif (decide (0 ≤ (w64 (v1 - 1)))) then
         bif (decide ((w64 (v1 - 1)) < (v0.length : Int))) then
          (v0[((w64 (v1 - 1)) : Int).toNat]?).bind fun x4 =>
          bif (decide ((w64 (x1.f0 * x2.f1)) ≥ (w64 (x3.f0 * x4.f1)))) then
           some (false)
          else
          c1 v0 (w64 (v1 + 1))
         else
         none
        else
        none
       else
       none
      else
      none
     else
     none
    else
    none
   else
   none
  else
  none
 else
 some (true)
theorem zq34.o1.run (N : Nat) (Kn26 : St D0 → Option zq34.R) (v0 : List S25) (v1 : Int) : runC zq34.C (zq34.O N) N zq34.c52 52 (mkSt [(0, .one (.sl false 25 v0)), (3, .one (.int .i64 v1))] [] : St D0) ((fun up => (onN (fun s => zq34.C.tidy 26 s ((onN Kn26 up) .normal)) (onN Kn26 up))) (blockK 0 (onN (fun s => zq34.C.tidy 6 s (fun s' => runC zq34.C (zq34.O N) N zq34.c7 7 s' zq34.K0)) zq34.K0))) = zq34.o1 N v0 v1 ((fun w0 w1 => Kn26 (mkSt [(0, .one (.sl false 25 w0)), (3, .one (.int .i64 w1))] [] : St D0))) := by kernel_rfl
def zq34.d1 (N : Nat) (v0 : List S25) (v1 : Int) (c1 : (List S25) → Int → Option zq34.R) : Option zq34.R := zq34.o1 N v0 v1 c1
theorem zq34.d1.run (N : Nat) (Kn26 : St D0 → Option zq34.R) (v0 : List S25) (v1 : Int) : runC zq34.C (zq34.O N) N zq34.c52 52 (mkSt [(0, .one (.sl false 25 v0)), (3, .one (.int .i64 v1))] [] : St D0) (zq34.K52 N Kn26) = zq34.d1 N v0 v1 ((fun w0 w1 => Kn26 (mkSt [(0, .one (.sl false 25 w0)), (3, .one (.int .i64 w1))] [] : St D0))) := by
  exact (zq34.o1.run N Kn26 v0 v1).trans rfl
def zq34.K26 (N : Nat) : Ex → St D0 → Option zq34.R := (blockK 0 (onN (fun s => zq34.C.tidy 6 s (fun s' => runC zq34.C (zq34.O N) N zq34.c7 7 s' zq34.K0)) zq34.K0))
def zq34.l1 (N : Nat) : Nat → (List S25) → Int → Option zq34.R
  | 0, _, _ => none
  | n + 1, v0, v1 => zq34.d1 N v0 v1 ((fun w0 w1 => zq34.l1 N n w0 w1))
theorem zq34.loop26 (N : Nat) : ∀ n, (∀ (v0 : List S25) (v1 : Int), iter (loopF zq34.C (zq34.O N) N zq34.c52 26) n (mkSt [(0, .one (.sl false 25 v0)), (3, .one (.int .i64 v1))] [] : St D0) (zq34.K26 N) = zq34.l1 N n v0 v1)
  | 0 => (fun v0 v1 => rfl)
  | n + 1 => (fun v0 v1 => (zq34.d1.run N (fun s => iter (loopF zq34.C (zq34.O N) N zq34.c52 26) n s (zq34.K26 N)) v0 v1).trans (show _ = zq34.d1 N v0 v1 ((fun w0 w1 => zq34.l1 N n w0 w1)) from (congr rfl (funext fun w0 => funext fun w1 => (zq34.loop26 N n) w0 w1))))
def zq34.o0 (N : Nat) (a0 : List S25) (c1 : (List S25) → Int → Option zq34.R) : Option zq34.R :=
 c1 a0 1
theorem zq34.o0.run (N : Nat) (H52 : Code) (a0 : List S25) : runC zq34.C (zq34.O N) N (.seq zq34.c2 (.seq (.seq zq34.c12 (.block 0 (.loop H52))) zq34.c7)) 1 (st0 [.one (.sl false 25 a0)] [] : St D0) zq34.K0 = zq34.o0 N a0 ((fun w0 w1 => iter (loopF zq34.C (zq34.O N) N H52 26) N (mkSt [(0, .one (.sl false 25 w0)), (3, .one (.int .i64 w1))] [] : St D0) (blockK 0 (onN (fun s => zq34.C.tidy 6 s (fun s' => runC zq34.C (zq34.O N) N zq34.c7 7 s' zq34.K0)) zq34.K0)))) := by kernel_rfl
def zq34.g (N : Nat) (a0 : List S25) : Option zq34.R := zq34.o0 N a0 ((fun w0 w1 => zq34.l1 N N w0 w1))
theorem zq34.c1_0 : zq34.c1 = (.seq zq34.c2 (.seq (.seq zq34.c12 (.block 0 (.loop zq34.c52))) zq34.c7)) := by kernel_rfl
theorem zq34.g.run (N : Nat) (a0 : List S25) : runC zq34.C (zq34.O N) N zq34.c1 1 (st0 [.one (.sl false 25 a0)] [] : St D0) zq34.K0 = zq34.g N a0 := by
  rw [zq34.c1_0]; unfold zq34.g; exact (zq34.o0.run N zq34.c52 a0).trans (congr rfl (funext fun w0 => funext fun w1 => (zq34.loop26 N N) w0 w1))
theorem zq34.good (N : Nat) (a0 : List S25) (r : zq34.R) (h : zq34.g N a0 = some r) : Go.PM.Good Tryz.prog T0 26 [.one (.sl false 25 a0)] [] (zq34.sig.ret r) (zq34.sig.bs r) :=
  good_fn tabOk0 mixed0 zq34.sig (zq34.E N) Tryz.func26 (by kernel_rfl) (by kernel_rfl) 17179869325 0 0 [(26, [0, 3], [])] 415436080 false [] [(false, [.any])] (by kernel_rfl) rfl rfl ((zq34.g.run N a0).trans h)
def zq34.ent (N : Nat) : Ent Tryz.prog T0 := mkEnt 26 [(false, [.ro 25])] zq34.sig (fun t => zq34.g N t) (fun t r h => zq34.good N t r h)
/-! ### zq33 -/
abbrev zq33.R : Type := Bool
abbrev zq33.sig : Sig := ⟨[(false, 1), (false, 1)], [], [.sl false 5, .sl false 5], [(false, 1)], [], [.bool]⟩
def zq33.C : Cfg D0 := ⟨Tryz.prog, T0, 19, 0, 16, 0, [], 2592, false, []⟩
def zq33.E (N : Nat) : List (Ent Tryz.prog T0) := []
def zq33.O (N : Nat) : Orc D0 zq33.R := orcOf (zq33.E N)
def zq33.K0 : Ex → St D0 → Option zq33.R := exitK zq33.C Tryz.f5.results.toList [(false, [.any])] (decOut zq33.sig)
def zq33.c1 : Code := codeAt (Tryz.f5.body.getD .skip) []
def zq33.o0 (N : Nat) (a0 : List Int) (a1 : List Int) : Option zq33.R :=
 bif (decide ((a0.length : Int) > 1048576)) then
  some (true)
 else
 some ((decide ((a1.length : Int) > (w64 (1048576 - (a0.length : Int))))))
theorem zq33.o0.run (N : Nat) (a0 : List Int) (a1 : List Int) : runC zq33.C (zq33.O N) N zq33.c1 1 (st0 [.one (.sl false 5 a0), .one (.sl false 5 a1)] [] : St D0) zq33.K0 = zq33.o0 N a0 a1 := by kernel_rfl
def zq33.g (N : Nat) (a0 : List Int) (a1 : List Int) : Option zq33.R := zq33.o0 N a0 a1
theorem zq33.g.run (N : Nat) (a0 : List Int) (a1 : List Int) : runC zq33.C (zq33.O N) N zq33.c1 1 (st0 [.one (.sl false 5 a0), .one (.sl false 5 a1)] [] : St D0) zq33.K0 = zq33.g N a0 a1 := by
  exact (zq33.o0.run N a0 a1).trans rfl
theorem zq33.good (N : Nat) (a0 : List Int) (a1 : List Int) (r : zq33.R) (h : zq33.g N a0 a1 = some r) : Go.PM.Good Tryz.prog T0 5 [.one (.sl false 5 a0), .one (.sl false 5 a1)] [] (zq33.sig.ret r) (zq33.sig.bs r) :=
  good_fn tabOk0 mixed0 zq33.sig (zq33.E N) Tryz.func5 (by kernel_rfl) (by kernel_rfl) 19 0 0 [] 2592 false [] [(false, [.any])] (by kernel_rfl) rfl rfl ((zq33.g.run N a0 a1).trans h)
def zq33.ent (N : Nat) : Ent Tryz.prog T0 := mkEnt 5 [(false, [.ro 5]), (false, [.ro 5])] zq33.sig (fun t => zq33.g N t.1 t.2) (fun t r h => zq33.good N t.1 t.2 r h)
end Go.Proofs.YtccjoegnkiaibaaGreatDoor.M
end
