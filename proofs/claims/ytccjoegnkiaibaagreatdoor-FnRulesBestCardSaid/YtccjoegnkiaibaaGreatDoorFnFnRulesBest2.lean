/- What the program's functions compute, walked by the machine (part 2). No conditions but those stated. -/
import Derived.Test.YtccjoegnkiaibaaGreatDoorFnFnRulesBest1
import Derived.Test.YtccjoegnkiaibaaGreatDoorShelf
import Derived.Lib.IndexBytes
import Derived.Lib.IndexLaws
import Derived.OwnWalk
noncomputable section
namespace Go.Proofs.YtccjoegnkiaibaaGreatDoor.M
open Go Go.PM Go.Proofs.YtccjoegnkiaibaaGreatDoor.P
set_option linter.unusedVariables false
set_option maxRecDepth 100000
/-! ### zq94 -/
abbrev zq94.R : Type := Int × Int × Bool
abbrev zq94.sig : Sig := ⟨[(false, 1), (false, 1)], [], [.int .i64, .str], [(true, 2), (false, 1)], [], [.int .i64, .int .i64, .bool]⟩
def zq94.C : Cfg D0 := ⟨Tryz.prog, T0, 85070596803467639362531009403438761971, 0, 152, 0, [(12, [0, 1, 4, 18], [4]), (122, [0, 1, 4, 6, 7], [4]), (124, [0, 1, 4, 6, 87], [4]), (254, [0, 4, 6, 8, 9], [4]), (978, [0, 1, 4, 6, 7], [4]), (8148, [0, 4, 6, 10, 102], [4]), (31302, [0, 1, 4, 6, 7, 46], [4]), (32606, [0, 4, 6, 8, 9, 126], [4])], 237125443187377898191567724995513788308424704, true, [(250431, false, 6, [0, 1, 4, 7], [4]), (250431, true, 6, [0, 1, 4, 7], [4])]⟩
def zq94.E (N : Nat) : List (Ent Tryz.prog T0) := [zq115.ent N, zq113.ent N, zq110.ent N, zq88.ent N, zq92.ent N]
def zq94.O (N : Nat) : Orc D0 zq94.R := orcOf (zq94.E N)
def zq94.K0 : Ex → St D0 → Option zq94.R := exitK zq94.C Tryz.f89.results.toList [(true, [.any, .any]), (false, [.any])] (decOut zq94.sig)
def zq94.c1 : Code := codeAt (Tryz.f89.body.getD .skip) []
def zq94.c2 : Code := codeAt (Tryz.f89.body.getD .skip) [false]
def zq94.c7 : Code := codeAt (Tryz.f89.body.getD .skip) [true, true]
def zq94.c12 : Code := codeAt (Tryz.f89.body.getD .skip) [true, false, false]
def zq94.c13 : Code := codeAt (Tryz.f89.body.getD .skip) [true, false, true]
def zq94.c14 : Code := codeAt (Tryz.f89.body.getD .skip) [true, true, false]
def zq94.c31 : Code := codeAt (Tryz.f89.body.getD .skip) [true, true, true, true]
def zq94.c60 : Code := codeAt (Tryz.f89.body.getD .skip) [true, true, true, false, false]
def zq94.c63 : Code := codeAt (Tryz.f89.body.getD .skip) [true, true, true, true, true]
def zq94.c124 : Code := codeAt (Tryz.f89.body.getD .skip) [true, true, true, true, false, false]
def zq94.c125 : Code := codeAt (Tryz.f89.body.getD .skip) [true, true, true, true, false, true]
def zq94.c126 : Code := codeAt (Tryz.f89.body.getD .skip) [true, true, true, true, true, false]
def zq94.c244 : Code := codeAt (Tryz.f89.body.getD .skip) [true, true, true, false, true, false, false]
def zq94.c255 : Code := codeAt (Tryz.f89.body.getD .skip) [true, true, true, true, true, true, true]
def zq94.c488 : Code := codeAt (Tryz.f89.body.getD .skip) [true, true, true, false, true, false, false, false]
def zq94.c508 : Code := codeAt (Tryz.f89.body.getD .skip) [true, true, true, true, true, true, false, false]
def zq94.c979 : Code := codeAt (Tryz.f89.body.getD .skip) [true, true, true, false, true, false, false, true, true]
def zq94.c1019 : Code := codeAt (Tryz.f89.body.getD .skip) [true, true, true, true, true, true, false, true, true]
def zq94.c2036 : Code := codeAt (Tryz.f89.body.getD .skip) [true, true, true, true, true, true, false, true, false, false]
def zq94.c4075 : Code := codeAt (Tryz.f89.body.getD .skip) [true, true, true, true, true, true, false, true, false, true, true]
def zq94.c7824 : Code := codeAt (Tryz.f89.body.getD .skip) [true, true, true, false, true, false, false, true, false, false, false, false]
def zq94.c8148 : Code := codeAt (Tryz.f89.body.getD .skip) [true, true, true, true, true, true, false, true, false, true, false, false]
def zq94.c8149 : Code := codeAt (Tryz.f89.body.getD .skip) [true, true, true, true, true, true, false, true, false, true, false, true]
def zq94.c8150 : Code := codeAt (Tryz.f89.body.getD .skip) [true, true, true, true, true, true, false, true, false, true, true, false]
def zq94.c15650 : Code := codeAt (Tryz.f89.body.getD .skip) [true, true, true, false, true, false, false, true, false, false, false, true, false]
def zq94.c16302 : Code := codeAt (Tryz.f89.body.getD .skip) [true, true, true, true, true, true, false, true, false, true, true, true, false]
def zq94.c31302 : Code := codeAt (Tryz.f89.body.getD .skip) [true, true, true, false, true, false, false, true, false, false, false, true, true, false]
def zq94.c31303 : Code := codeAt (Tryz.f89.body.getD .skip) [true, true, true, false, true, false, false, true, false, false, false, true, true, true]
def zq94.c32606 : Code := codeAt (Tryz.f89.body.getD .skip) [true, true, true, true, true, true, false, true, false, true, true, true, true, false]
def zq94.c32607 : Code := codeAt (Tryz.f89.body.getD .skip) [true, true, true, true, true, true, false, true, false, true, true, true, true, true]
def zq94.K979 (N : Nat) (Kn122 : St D0 → Option zq94.R) : Ex → St D0 → Option zq94.R := ((fun up => (onN (fun s => zq94.C.tidy 122 s ((onN Kn122 up) .normal)) (onN Kn122 up))) (blockK 0 (onN (fun s => zq94.C.tidy 30 s (fun s' => runC zq94.C (zq94.O N) N zq94.c31 31 s' zq94.K0)) zq94.K0)))
def zq94.o3 (N : Nat) (v0 : Int) (v1 : ByteArray) (v2 : Int) (v3 : Int) (v4 : Int) (c2 : Int → ByteArray → Int → Int → Int → Option zq94.R) : Option zq94.R :=
 c2 v0 v1 (w64 (v2 + 1)) v3 v4
theorem zq94.o3.run (N : Nat) (Kn122 : St D0 → Option zq94.R) (v0 : Int) (v1 : ByteArray) (v2 : Int) (v3 : Int) (v4 : Int) : runC zq94.C (zq94.O N) N zq94.c979 979 (mkSt [(0, .one (.int .i64 v0)), (1, .one (.str v1)), (4, .one (.ptr 4 0)), (6, .one (.nl)), (7, .one (.int .i64 v2))] [(4, some (25, [.int .i64 v3, .int .i64 v4]))] : St D0) ((fun up => (onN (fun s => zq94.C.tidy 122 s ((onN Kn122 up) .normal)) (onN Kn122 up))) (blockK 0 (onN (fun s => zq94.C.tidy 30 s (fun s' => runC zq94.C (zq94.O N) N zq94.c31 31 s' zq94.K0)) zq94.K0))) = zq94.o3 N v0 v1 v2 v3 v4 ((fun w0 w1 w2 w3 w4 => Kn122 (mkSt [(0, .one (.int .i64 w0)), (1, .one (.str w1)), (4, .one (.ptr 4 0)), (6, .one (.nl)), (7, .one (.int .i64 w2))] [(4, some (25, [.int .i64 w3, .int .i64 w4]))] : St D0))) := by kernel_rfl
def zq94.d3 (N : Nat) (v0 : Int) (v1 : ByteArray) (v2 : Int) (v3 : Int) (v4 : Int) (c2 : Int → ByteArray → Int → Int → Int → Option zq94.R) : Option zq94.R := zq94.o3 N v0 v1 v2 v3 v4 c2
theorem zq94.d3.run (N : Nat) (Kn122 : St D0 → Option zq94.R) (v0 : Int) (v1 : ByteArray) (v2 : Int) (v3 : Int) (v4 : Int) : runC zq94.C (zq94.O N) N zq94.c979 979 (mkSt [(0, .one (.int .i64 v0)), (1, .one (.str v1)), (4, .one (.ptr 4 0)), (6, .one (.nl)), (7, .one (.int .i64 v2))] [(4, some (25, [.int .i64 v3, .int .i64 v4]))] : St D0) (zq94.K979 N Kn122) = zq94.d3 N v0 v1 v2 v3 v4 ((fun w0 w1 w2 w3 w4 => Kn122 (mkSt [(0, .one (.int .i64 w0)), (1, .one (.str w1)), (4, .one (.ptr 4 0)), (6, .one (.nl)), (7, .one (.int .i64 w2))] [(4, some (25, [.int .i64 w3, .int .i64 w4]))] : St D0))) := by
  exact (zq94.o3.run N Kn122 v0 v1 v2 v3 v4).trans rfl
def zq94.o5 (N : Nat) (v0 : Int) (v1 : ByteArray) (v2 : List Int) (v3 : Int) (v4 : Int) (v5 : Int) (c6 : Int → ByteArray → (List Int) → Int → Int → Int → Option zq94.R) : Option zq94.R :=
 c6 v0 v1 v2 (w64 (v3 + 1)) v4 v5
theorem zq94.o5.run (N : Nat) (Kn122 : St D0 → Option zq94.R) (v0 : Int) (v1 : ByteArray) (v2 : List Int) (v3 : Int) (v4 : Int) (v5 : Int) : runC zq94.C (zq94.O N) N zq94.c979 979 (mkSt [(0, .one (.int .i64 v0)), (1, .one (.str v1)), (4, .one (.ptr 4 0)), (6, .one (.sl true 3 v2)), (7, .one (.int .i64 v3))] [(4, some (25, [.int .i64 v4, .int .i64 v5]))] : St D0) ((fun up => (onN (fun s => zq94.C.tidy 122 s ((onN Kn122 up) .normal)) (onN Kn122 up))) (blockK 0 (onN (fun s => zq94.C.tidy 30 s (fun s' => runC zq94.C (zq94.O N) N zq94.c31 31 s' zq94.K0)) zq94.K0))) = zq94.o5 N v0 v1 v2 v3 v4 v5 ((fun w0 w1 w2 w3 w4 w5 => Kn122 (mkSt [(0, .one (.int .i64 w0)), (1, .one (.str w1)), (4, .one (.ptr 4 0)), (6, .one (.sl true 3 w2)), (7, .one (.int .i64 w3))] [(4, some (25, [.int .i64 w4, .int .i64 w5]))] : St D0))) := by kernel_rfl
def zq94.d5 (N : Nat) (v0 : Int) (v1 : ByteArray) (v2 : List Int) (v3 : Int) (v4 : Int) (v5 : Int) (c6 : Int → ByteArray → (List Int) → Int → Int → Int → Option zq94.R) : Option zq94.R := zq94.o5 N v0 v1 v2 v3 v4 v5 c6
theorem zq94.d5.run (N : Nat) (Kn122 : St D0 → Option zq94.R) (v0 : Int) (v1 : ByteArray) (v2 : List Int) (v3 : Int) (v4 : Int) (v5 : Int) : runC zq94.C (zq94.O N) N zq94.c979 979 (mkSt [(0, .one (.int .i64 v0)), (1, .one (.str v1)), (4, .one (.ptr 4 0)), (6, .one (.sl true 3 v2)), (7, .one (.int .i64 v3))] [(4, some (25, [.int .i64 v4, .int .i64 v5]))] : St D0) (zq94.K979 N Kn122) = zq94.d5 N v0 v1 v2 v3 v4 v5 ((fun w0 w1 w2 w3 w4 w5 => Kn122 (mkSt [(0, .one (.int .i64 w0)), (1, .one (.str w1)), (4, .one (.ptr 4 0)), (6, .one (.sl true 3 w2)), (7, .one (.int .i64 w3))] [(4, some (25, [.int .i64 w4, .int .i64 w5]))] : St D0))) := by
  exact (zq94.o5.run N Kn122 v0 v1 v2 v3 v4 v5).trans rfl
def zq94.B489 (N : Nat) (Kn122 : St D0 → Option zq94.R) : St D0 → Option zq94.R := fun s' => runC zq94.C (zq94.O N) N zq94.c979 979 s' (zq94.K979 N Kn122)
def zq94.K31303 (N : Nat) (Kn122 : St D0 → Option zq94.R) : Ex → St D0 → Option zq94.R := (blockK 2 (blockK 1 ((fun up => (onN (fun s => zq94.C.tidy 978 s (zq94.B489 N Kn122)) up)) ((fun up => (onN (fun s => zq94.C.tidy 122 s ((onN Kn122 up) .normal)) (onN Kn122 up))) (blockK 0 (onN (fun s => zq94.C.tidy 30 s (fun s' => runC zq94.C (zq94.O N) N zq94.c31 31 s' zq94.K0)) zq94.K0))))))
def zq94.o4 (N : Nat) (v0 : Int) (v1 : ByteArray) (v2 : Int) (v3 : Bool) (v4 : Int) (v5 : Int) (c5 : Int → ByteArray → (List Int) → Int → Int → Int → Option zq94.R) : Option zq94.R :=
 bif v3 then
  some (0, 0, false)
 else
 bif ((Int.tmod v2 3) == 0) then
  bif (decide (0 ≤ v2)) then
   bif (decide (v2 < (v1.size : Int))) then
    bif (Nat.blt (([] : List Int).length + ([(w64 (10 * (w64 ((IntKind.wrap .u8) ((bt v1 v2) - 48)))))] : List Int).length) 17592186044416) then
     c5 v0 v1 (([] : List Int) ++ ([(w64 (10 * (w64 ((IntKind.wrap .u8) ((bt v1 v2) - 48)))))] : List Int)) v2 v4 v5
    else
    none
   else
   none
  else
  none
 else
 none
theorem zq94.o4.run (N : Nat) (Kb489 : St D0 → Option zq94.R) (Kn122 : St D0 → Option zq94.R) (v0 : Int) (v1 : ByteArray) (v2 : Int) (v3 : Bool) (v4 : Int) (v5 : Int) : runC zq94.C (zq94.O N) N zq94.c31303 31303 (mkSt [(0, .one (.int .i64 v0)), (1, .one (.str v1)), (4, .one (.ptr 4 0)), (6, .one (.nl)), (7, .one (.int .i64 v2)), (46, .one (.bool v3))] [(4, some (25, [.int .i64 v4, .int .i64 v5]))] : St D0) (blockK 2 (blockK 1 ((fun up => (onN (fun s => zq94.C.tidy 978 s Kb489) up)) ((fun up => (onN (fun s => zq94.C.tidy 122 s ((onN Kn122 up) .normal)) (onN Kn122 up))) (blockK 0 (onN (fun s => zq94.C.tidy 30 s (fun s' => runC zq94.C (zq94.O N) N zq94.c31 31 s' zq94.K0)) zq94.K0)))))) = zq94.o4 N v0 v1 v2 v3 v4 v5 ((fun w0 w1 w2 w3 w4 w5 => Kb489 (mkSt [(0, .one (.int .i64 w0)), (1, .one (.str w1)), (4, .one (.ptr 4 0)), (6, .one (.sl true 3 w2)), (7, .one (.int .i64 w3))] [(4, some (25, [.int .i64 w4, .int .i64 w5]))] : St D0))) := by kernel_rfl
def zq94.d4 (N : Nat) (v0 : Int) (v1 : ByteArray) (v2 : Int) (v3 : Bool) (v4 : Int) (v5 : Int) (c6 : Int → ByteArray → (List Int) → Int → Int → Int → Option zq94.R) : Option zq94.R := zq94.o4 N v0 v1 v2 v3 v4 v5 ((fun w0 w1 w2 w3 w4 w5 => zq94.d5 N w0 w1 w2 w3 w4 w5 c6))
theorem zq94.d4.run (N : Nat) (Kn122 : St D0 → Option zq94.R) (v0 : Int) (v1 : ByteArray) (v2 : Int) (v3 : Bool) (v4 : Int) (v5 : Int) : runC zq94.C (zq94.O N) N zq94.c31303 31303 (mkSt [(0, .one (.int .i64 v0)), (1, .one (.str v1)), (4, .one (.ptr 4 0)), (6, .one (.nl)), (7, .one (.int .i64 v2)), (46, .one (.bool v3))] [(4, some (25, [.int .i64 v4, .int .i64 v5]))] : St D0) (zq94.K31303 N Kn122) = zq94.d4 N v0 v1 v2 v3 v4 v5 ((fun w0 w1 w2 w3 w4 w5 => Kn122 (mkSt [(0, .one (.int .i64 w0)), (1, .one (.str w1)), (4, .one (.ptr 4 0)), (6, .one (.sl true 3 w2)), (7, .one (.int .i64 w3))] [(4, some (25, [.int .i64 w4, .int .i64 w5]))] : St D0))) := by
  unfold zq94.d4; exact (zq94.o4.run N (zq94.B489 N Kn122) Kn122 v0 v1 v2 v3 v4 v5).trans (congr rfl (funext fun w0 => funext fun w1 => funext fun w2 => funext fun w3 => funext fun w4 => funext fun w5 => zq94.d5.run N Kn122 w0 w1 w2 w3 w4 w5))
def zq94.K244 (N : Nat) (Kn122 : St D0 → Option zq94.R) : Ex → St D0 → Option zq94.R := ((fun up => (onN (fun s => zq94.C.tidy 122 s ((onN Kn122 up) .normal)) (onN Kn122 up))) (blockK 0 (onN (fun s => zq94.C.tidy 30 s (fun s' => runC zq94.C (zq94.O N) N zq94.c31 31 s' zq94.K0)) zq94.K0)))
def zq94.o2 (N : Nat) (v0 : Int) (v1 : ByteArray) (v2 : Int) (v3 : Int) (v4 : Int) (c3 : Int → ByteArray → Int → Int → Int → Option zq94.R) (c4 : Int → ByteArray → Int → Bool → Int → Int → Option zq94.R) : Option zq94.R :=
 bif (decide (v2 < 8)) then
  bif ((Int.tmod v2 3) == 2) then
   bif (decide (0 ≤ v2)) then
    bif (decide (v2 < (v1.size : Int))) then
     bif ((bt v1 v2) != 58) then
      some (0, 0, false)
     else
     c3 v0 v1 v2 v3 v4
    else
    none
   else
   none
  else
  bif (decide (0 ≤ v2)) then
   bif (decide (v2 < (v1.size : Int))) then
    bif (decide ((bt v1 v2) < 48)) then
     c4 v0 v1 v2 true v3 v4
    else
    bif (decide (0 ≤ v2)) then
     bif (decide (v2 < (v1.size : Int))) then
      c4 v0 v1 v2 (decide ((bt v1 v2) > 57)) v3 v4
     else
     none
    else
    none
   else
   none
  else
  none
 else
 none
theorem zq94.o2.run (N : Nat) (Kn122 : St D0 → Option zq94.R) (H979 : Code) (H31303 : Code) (v0 : Int) (v1 : ByteArray) (v2 : Int) (v3 : Int) (v4 : Int) : runC zq94.C (zq94.O N) N (.seq zq94.c488 (.seq (.block 1 (.block 2 (.seq zq94.c7824 (.cond (.tmp 37) zq94.c15650 (.seq zq94.c31302 H31303))))) H979)) 244 (mkSt [(0, .one (.int .i64 v0)), (1, .one (.str v1)), (4, .one (.ptr 4 0)), (6, .one (.nl)), (7, .one (.int .i64 v2))] [(4, some (25, [.int .i64 v3, .int .i64 v4]))] : St D0) ((fun up => (onN (fun s => zq94.C.tidy 122 s ((onN Kn122 up) .normal)) (onN Kn122 up))) (blockK 0 (onN (fun s => zq94.C.tidy 30 s (fun s' => runC zq94.C (zq94.O N) N zq94.c31 31 s' zq94.K0)) zq94.K0))) = zq94.o2 N v0 v1 v2 v3 v4 ((fun w0 w1 w2 w3 w4 => runC zq94.C (zq94.O N) N H979 979 (mkSt [(0, .one (.int .i64 w0)), (1, .one (.str w1)), (4, .one (.ptr 4 0)), (6, .one (.nl)), (7, .one (.int .i64 w2))] [(4, some (25, [.int .i64 w3, .int .i64 w4]))] : St D0) ((fun up => (onN (fun s => zq94.C.tidy 122 s ((onN Kn122 up) .normal)) (onN Kn122 up))) (blockK 0 (onN (fun s => zq94.C.tidy 30 s (fun s' => runC zq94.C (zq94.O N) N zq94.c31 31 s' zq94.K0)) zq94.K0))))) ((fun w0 w1 w2 w3 w4 w5 => runC zq94.C (zq94.O N) N H31303 31303 (mkSt [(0, .one (.int .i64 w0)), (1, .one (.str w1)), (4, .one (.ptr 4 0)), (6, .one (.nl)), (7, .one (.int .i64 w2)), (46, .one (.bool w3))] [(4, some (25, [.int .i64 w4, .int .i64 w5]))] : St D0) (blockK 2 (blockK 1 ((fun up => (onN (fun s => zq94.C.tidy 978 s (fun s' => runC zq94.C (zq94.O N) N H979 979 s' up)) up)) ((fun up => (onN (fun s => zq94.C.tidy 122 s ((onN Kn122 up) .normal)) (onN Kn122 up))) (blockK 0 (onN (fun s => zq94.C.tidy 30 s (fun s' => runC zq94.C (zq94.O N) N zq94.c31 31 s' zq94.K0)) zq94.K0)))))))) := by kernel_rfl
def zq94.d2 (N : Nat) (v0 : Int) (v1 : ByteArray) (v2 : Int) (v3 : Int) (v4 : Int) (c2 : Int → ByteArray → Int → Int → Int → Option zq94.R) (c6 : Int → ByteArray → (List Int) → Int → Int → Int → Option zq94.R) : Option zq94.R := zq94.o2 N v0 v1 v2 v3 v4 ((fun w0 w1 w2 w3 w4 => zq94.d3 N w0 w1 w2 w3 w4 c2)) ((fun w0 w1 w2 w3 w4 w5 => zq94.d4 N w0 w1 w2 w3 w4 w5 c6))
theorem zq94.c244_2 : zq94.c244 = (.seq zq94.c488 (.seq (.block 1 (.block 2 (.seq zq94.c7824 (.cond (.tmp 37) zq94.c15650 (.seq zq94.c31302 zq94.c31303))))) zq94.c979)) := by kernel_rfl
theorem zq94.d2.run (N : Nat) (Kn122 : St D0 → Option zq94.R) (v0 : Int) (v1 : ByteArray) (v2 : Int) (v3 : Int) (v4 : Int) : runC zq94.C (zq94.O N) N zq94.c244 244 (mkSt [(0, .one (.int .i64 v0)), (1, .one (.str v1)), (4, .one (.ptr 4 0)), (6, .one (.nl)), (7, .one (.int .i64 v2))] [(4, some (25, [.int .i64 v3, .int .i64 v4]))] : St D0) (zq94.K244 N Kn122) = zq94.d2 N v0 v1 v2 v3 v4 ((fun w0 w1 w2 w3 w4 => Kn122 (mkSt [(0, .one (.int .i64 w0)), (1, .one (.str w1)), (4, .one (.ptr 4 0)), (6, .one (.nl)), (7, .one (.int .i64 w2))] [(4, some (25, [.int .i64 w3, .int .i64 w4]))] : St D0))) ((fun w0 w1 w2 w3 w4 w5 => Kn122 (mkSt [(0, .one (.int .i64 w0)), (1, .one (.str w1)), (4, .one (.ptr 4 0)), (6, .one (.sl true 3 w2)), (7, .one (.int .i64 w3))] [(4, some (25, [.int .i64 w4, .int .i64 w5]))] : St D0))) := by
  rw [zq94.c244_2]; unfold zq94.d2; exact (zq94.o2.run N Kn122 zq94.c979 zq94.c31303 v0 v1 v2 v3 v4).trans (congr (congr rfl (funext fun w0 => funext fun w1 => funext fun w2 => funext fun w3 => funext fun w4 => zq94.d3.run N Kn122 w0 w1 w2 w3 w4)) (funext fun w0 => funext fun w1 => funext fun w2 => funext fun w3 => funext fun w4 => funext fun w5 => zq94.d4.run N Kn122 w0 w1 w2 w3 w4 w5))
def zq94.o7 (N : Nat) (v0 : Int) (v1 : ByteArray) (v2 : List Int) (v3 : Int) (v4 : Bool) (v5 : Int) (v6 : Int) (c5 : Int → ByteArray → (List Int) → Int → Int → Int → Option zq94.R) : Option zq94.R :=
 bif v4 then
  some (0, 0, false)
 else
 bif ((Int.tmod v3 3) == 0) then
  bif (decide (0 ≤ v3)) then
   bif (decide (v3 < (v1.size : Int))) then
    bif (Nat.blt (v2.length + ([(w64 (10 * (w64 ((IntKind.wrap .u8) ((bt v1 v3) - 48)))))] : List Int).length) 17592186044416) then
     c5 v0 v1 (v2 ++ ([(w64 (10 * (w64 ((IntKind.wrap .u8) ((bt v1 v3) - 48)))))] : List Int)) v3 v5 v6
    else
    none
   else
   none
  else
  none
 else
 bif (Nat.blt 0 v2.length) then
  bif (decide (0 ≤ (w64 (((v2.length : Nat) : Int) - 1)))) then
   bif (decide ((w64 (((v2.length : Nat) : Int) - 1)) < ((v2.length : Nat) : Int))) then
    (v2[((w64 (((v2.length : Nat) : Int) - 1)) : Int).toNat]?).bind fun x1 =>
    bif (decide (0 ≤ v3)) then
     bif (decide (v3 < (v1.size : Int))) then
      bif (decide (0 ≤ (w64 (((v2.length : Nat) : Int) - 1)))) then
       bif (decide ((w64 (((v2.length : Nat) : Int) - 1)) < ((v2.length : Nat) : Int))) then
        (v2[((w64 (((v2.length : Nat) : Int) - 1)) : Int).toNat]?).bind fun x2 =>
        bif (Nat.ble v2.length (v2.set ((w64 (((v2.length : Nat) : Int) - 1)) : Int).toNat (w64 (x1 + (w64 ((IntKind.wrap .u8) ((bt v1 v3) - 48)))))).length) then
         c5 v0 v1 ((v2.set ((w64 (((v2.length : Nat) : Int) - 1)) : Int).toNat (w64 (x1 + (w64 ((IntKind.wrap .u8) ((bt v1 v3) - 48)))))).take v2.length) v3 v5 v6
        else
        none
       else
       none
      else
      none
     else
     none
    else
    none
   else
   none
  else
  none
 else
 bif (decide (0 ≤ (w64 ((v2.length : Int) - 1)))) then
  bif (decide ((w64 ((v2.length : Int) - 1)) < (v2.length : Int))) then
   (v2[((w64 ((v2.length : Int) - 1)) : Int).toNat]?).bind fun x3 =>
   bif (decide (0 ≤ v3)) then
    bif (decide (v3 < (v1.size : Int))) then
     bif (decide (0 ≤ (w64 ((v2.length : Int) - 1)))) then
      bif (decide ((w64 ((v2.length : Int) - 1)) < (v2.length : Int))) then
       none
      else
      none
     else
     none
    else
    none
   else
   none
  else
  none
 else
 none
theorem zq94.o7.run (N : Nat) (Kb489 : St D0 → Option zq94.R) (Kn122 : St D0 → Option zq94.R) (v0 : Int) (v1 : ByteArray) (v2 : List Int) (v3 : Int) (v4 : Bool) (v5 : Int) (v6 : Int) : runC zq94.C (zq94.O N) N zq94.c31303 31303 (mkSt [(0, .one (.int .i64 v0)), (1, .one (.str v1)), (4, .one (.ptr 4 0)), (6, .one (.sl true 3 v2)), (7, .one (.int .i64 v3)), (46, .one (.bool v4))] [(4, some (25, [.int .i64 v5, .int .i64 v6]))] : St D0) (blockK 2 (blockK 1 ((fun up => (onN (fun s => zq94.C.tidy 978 s Kb489) up)) ((fun up => (onN (fun s => zq94.C.tidy 122 s ((onN Kn122 up) .normal)) (onN Kn122 up))) (blockK 0 (onN (fun s => zq94.C.tidy 30 s (fun s' => runC zq94.C (zq94.O N) N zq94.c31 31 s' zq94.K0)) zq94.K0)))))) = zq94.o7 N v0 v1 v2 v3 v4 v5 v6 ((fun w0 w1 w2 w3 w4 w5 => Kb489 (mkSt [(0, .one (.int .i64 w0)), (1, .one (.str w1)), (4, .one (.ptr 4 0)), (6, .one (.sl true 3 w2)), (7, .one (.int .i64 w3))] [(4, some (25, [.int .i64 w4, .int .i64 w5]))] : St D0))) := by kernel_rfl
def zq94.d7 (N : Nat) (v0 : Int) (v1 : ByteArray) (v2 : List Int) (v3 : Int) (v4 : Bool) (v5 : Int) (v6 : Int) (c6 : Int → ByteArray → (List Int) → Int → Int → Int → Option zq94.R) : Option zq94.R := zq94.o7 N v0 v1 v2 v3 v4 v5 v6 ((fun w0 w1 w2 w3 w4 w5 => zq94.d5 N w0 w1 w2 w3 w4 w5 c6))
theorem zq94.d7.run (N : Nat) (Kn122 : St D0 → Option zq94.R) (v0 : Int) (v1 : ByteArray) (v2 : List Int) (v3 : Int) (v4 : Bool) (v5 : Int) (v6 : Int) : runC zq94.C (zq94.O N) N zq94.c31303 31303 (mkSt [(0, .one (.int .i64 v0)), (1, .one (.str v1)), (4, .one (.ptr 4 0)), (6, .one (.sl true 3 v2)), (7, .one (.int .i64 v3)), (46, .one (.bool v4))] [(4, some (25, [.int .i64 v5, .int .i64 v6]))] : St D0) (zq94.K31303 N Kn122) = zq94.d7 N v0 v1 v2 v3 v4 v5 v6 ((fun w0 w1 w2 w3 w4 w5 => Kn122 (mkSt [(0, .one (.int .i64 w0)), (1, .one (.str w1)), (4, .one (.ptr 4 0)), (6, .one (.sl true 3 w2)), (7, .one (.int .i64 w3))] [(4, some (25, [.int .i64 w4, .int .i64 w5]))] : St D0))) := by
  unfold zq94.d7; exact (zq94.o7.run N (zq94.B489 N Kn122) Kn122 v0 v1 v2 v3 v4 v5 v6).trans (congr rfl (funext fun w0 => funext fun w1 => funext fun w2 => funext fun w3 => funext fun w4 => funext fun w5 => zq94.d5.run N Kn122 w0 w1 w2 w3 w4 w5))
def zq94.K255 (N : Nat) : Ex → St D0 → Option zq94.R := zq94.K0
def zq94.o10 (N : Nat) (v0 : Int) (v1 : List Int) (v2 : Int) (v3 : Int) (v4 : Int) (v5 : Int) : Option zq94.R :=
 bif (decide (0 < (v1.length : Int))) then
  (v1[(0 : Int).toNat]?).bind fun x1 =>
  bif (decide (1 < (v1.length : Int))) then
   (v1[(1 : Int).toNat]?).bind fun x2 =>
   bif (decide (2 < (v1.length : Int))) then
    (v1[(2 : Int).toNat]?).bind fun x3 =>
    (zq92.g N (w64 ((w64 ((w64 ((w64 ((w64 ((w64 (x1 * 60)) + x2)) * 60)) + x3)) * v3)) + v2)) (w64 ((w64 (v0 * 3600)) * v3))).bind fun r4 =>
    some (r4.1, r4.2.1, r4.2.2)
   else
   none
  else
  none
 else
 none
theorem zq94.o10.run (N : Nat) (v0 : Int) (v1 : List Int) (v2 : Int) (v3 : Int) (v4 : Int) (v5 : Int) : runC zq94.C (zq94.O N) N zq94.c255 255 (mkSt [(0, .one (.int .i64 v0)), (4, .one (.ptr 4 0)), (6, .one (.sl true 3 v1)), (8, .one (.int .i64 v2)), (9, .one (.int .i64 v3))] [(4, some (25, [.int .i64 v4, .int .i64 v5]))] : St D0) zq94.K0 = zq94.o10 N v0 v1 v2 v3 v4 v5 := by kernel_rfl
def zq94.d10 (N : Nat) (v0 : Int) (v1 : List Int) (v2 : Int) (v3 : Int) (v4 : Int) (v5 : Int) : Option zq94.R := zq94.o10 N v0 v1 v2 v3 v4 v5
theorem zq94.d10.run (N : Nat) (v0 : Int) (v1 : List Int) (v2 : Int) (v3 : Int) (v4 : Int) (v5 : Int) : runC zq94.C (zq94.O N) N zq94.c255 255 (mkSt [(0, .one (.int .i64 v0)), (4, .one (.ptr 4 0)), (6, .one (.sl true 3 v1)), (8, .one (.int .i64 v2)), (9, .one (.int .i64 v3))] [(4, some (25, [.int .i64 v4, .int .i64 v5]))] : St D0) (zq94.K255 N) = zq94.d10 N v0 v1 v2 v3 v4 v5 := by
  exact (zq94.o10.run N v0 v1 v2 v3 v4 v5).trans rfl
def zq94.B127 (N : Nat) : St D0 → Option zq94.R := fun s' => runC zq94.C (zq94.O N) N zq94.c255 255 s' (zq94.K255 N)
def zq94.K32607 (N : Nat) : Ex → St D0 → Option zq94.R := (onN (fun s => zq94.C.tidy 254 s (zq94.B127 N)) zq94.K0)
def zq94.o11 (N : Nat) (v0 : Int) (v1 : List Int) (v2 : Int) (v3 : Int) (v4 : Bool) (v5 : Int) (v6 : Int) (c10 : Int → (List Int) → Int → Int → Int → Int → Option zq94.R) : Option zq94.R :=
 bif v4 then
  some (0, 0, false)
 else
 c10 v0 v1 v2 v3 v5 v6
theorem zq94.o11.run (N : Nat) (Kb127 : St D0 → Option zq94.R) (v0 : Int) (v1 : List Int) (v2 : Int) (v3 : Int) (v4 : Bool) (v5 : Int) (v6 : Int) : runC zq94.C (zq94.O N) N zq94.c32607 32607 (mkSt [(0, .one (.int .i64 v0)), (4, .one (.ptr 4 0)), (6, .one (.sl true 3 v1)), (8, .one (.int .i64 v2)), (9, .one (.int .i64 v3)), (126, .one (.bool v4))] [(4, some (25, [.int .i64 v5, .int .i64 v6]))] : St D0) (onN (fun s => zq94.C.tidy 254 s Kb127) zq94.K0) = zq94.o11 N v0 v1 v2 v3 v4 v5 v6 ((fun w0 w1 w2 w3 w4 w5 => Kb127 (mkSt [(0, .one (.int .i64 w0)), (4, .one (.ptr 4 0)), (6, .one (.sl true 3 w1)), (8, .one (.int .i64 w2)), (9, .one (.int .i64 w3))] [(4, some (25, [.int .i64 w4, .int .i64 w5]))] : St D0))) := by kernel_rfl
def zq94.d11 (N : Nat) (v0 : Int) (v1 : List Int) (v2 : Int) (v3 : Int) (v4 : Bool) (v5 : Int) (v6 : Int) : Option zq94.R := zq94.o11 N v0 v1 v2 v3 v4 v5 v6 ((fun w0 w1 w2 w3 w4 w5 => zq94.d10 N w0 w1 w2 w3 w4 w5))
theorem zq94.d11.run (N : Nat) (v0 : Int) (v1 : List Int) (v2 : Int) (v3 : Int) (v4 : Bool) (v5 : Int) (v6 : Int) : runC zq94.C (zq94.O N) N zq94.c32607 32607 (mkSt [(0, .one (.int .i64 v0)), (4, .one (.ptr 4 0)), (6, .one (.sl true 3 v1)), (8, .one (.int .i64 v2)), (9, .one (.int .i64 v3)), (126, .one (.bool v4))] [(4, some (25, [.int .i64 v5, .int .i64 v6]))] : St D0) (zq94.K32607 N) = zq94.d11 N v0 v1 v2 v3 v4 v5 v6 := by
  unfold zq94.d11; exact (zq94.o11.run N (zq94.B127 N) v0 v1 v2 v3 v4 v5 v6).trans (congr rfl (funext fun w0 => funext fun w1 => funext fun w2 => funext fun w3 => funext fun w4 => funext fun w5 => zq94.d10.run N w0 w1 w2 w3 w4 w5))
def zq94.K8149 (N : Nat) : Ex → St D0 → Option zq94.R := (onN (fun s => zq94.C.tidy 4074 s (fun s' => runC zq94.C (zq94.O N) N zq94.c4075 4075 s' (onN (fun s => zq94.C.tidy 254 s (zq94.B127 N)) zq94.K0))) (onN (fun s => zq94.C.tidy 254 s (zq94.B127 N)) zq94.K0))
def zq94.o9 (N : Nat) (v0 : Int) (v1 : List Int) (v2 : List ByteArray) (v3 : Bool) (v4 : Int) (v5 : Int) (c11 : Int → (List Int) → Int → Int → Bool → Int → Int → Option zq94.R) : Option zq94.R :=
 bif v3 then
  some (0, 0, false)
 else
 bif (decide (0 < (v2.length : Int))) then
  (v2[(0 : Int).toNat]?).bind fun x1 =>
  (zq113.g N x1).bind fun r2 =>
  bif (decide (1 < (v2.length : Int))) then
   (v2[(1 : Int).toNat]?).bind fun x3 =>
   (zq113.g N x3).bind fun r4 =>
   bif (decide (r4 < 2)) then
    c11 v0 v1 r2 r4 true v4 v5
   else
   (zq110.g N r2 1 (w64 (r4 - 1))).bind fun r5 =>
   bif (!r5) then
    c11 v0 v1 r2 r4 true v4 v5
   else
   (zq88.g N r2 r4).bind fun r6 =>
   c11 v0 v1 r2 r4 (r6 != 1) v4 v5
  else
  none
 else
 none
theorem zq94.o9.run (N : Nat) (Kb127 : St D0 → Option zq94.R) (H32607 : Code) (v0 : Int) (v1 : List Int) (v2 : List ByteArray) (v3 : Bool) (v4 : Int) (v5 : Int) : runC zq94.C (zq94.O N) N zq94.c8149 8149 (mkSt [(0, .one (.int .i64 v0)), (4, .one (.ptr 4 0)), (6, .one (.sl true 3 v1)), (10, .one (.sl true 9 v2)), (102, .one (.bool v3))] [(4, some (25, [.int .i64 v4, .int .i64 v5]))] : St D0) (onN (fun s => zq94.C.tidy 4074 s (fun s' => runC zq94.C (zq94.O N) N (.seq zq94.c8150 (.seq zq94.c16302 (.seq zq94.c32606 H32607))) 4075 s' (onN (fun s => zq94.C.tidy 254 s Kb127) zq94.K0))) (onN (fun s => zq94.C.tidy 254 s Kb127) zq94.K0)) = zq94.o9 N v0 v1 v2 v3 v4 v5 ((fun w0 w1 w2 w3 w4 w5 w6 => runC zq94.C (zq94.O N) N H32607 32607 (mkSt [(0, .one (.int .i64 w0)), (4, .one (.ptr 4 0)), (6, .one (.sl true 3 w1)), (8, .one (.int .i64 w2)), (9, .one (.int .i64 w3)), (126, .one (.bool w4))] [(4, some (25, [.int .i64 w5, .int .i64 w6]))] : St D0) (onN (fun s => zq94.C.tidy 254 s Kb127) zq94.K0))) := by kernel_rfl
def zq94.d9 (N : Nat) (v0 : Int) (v1 : List Int) (v2 : List ByteArray) (v3 : Bool) (v4 : Int) (v5 : Int) : Option zq94.R := zq94.o9 N v0 v1 v2 v3 v4 v5 ((fun w0 w1 w2 w3 w4 w5 w6 => zq94.d11 N w0 w1 w2 w3 w4 w5 w6))
theorem zq94.d9.run (N : Nat) (v0 : Int) (v1 : List Int) (v2 : List ByteArray) (v3 : Bool) (v4 : Int) (v5 : Int) : runC zq94.C (zq94.O N) N zq94.c8149 8149 (mkSt [(0, .one (.int .i64 v0)), (4, .one (.ptr 4 0)), (6, .one (.sl true 3 v1)), (10, .one (.sl true 9 v2)), (102, .one (.bool v3))] [(4, some (25, [.int .i64 v4, .int .i64 v5]))] : St D0) (zq94.K8149 N) = zq94.d9 N v0 v1 v2 v3 v4 v5 := by
  unfold zq94.d9; exact (zq94.o9.run N (zq94.B127 N) zq94.c32607 v0 v1 v2 v3 v4 v5).trans (congr rfl (funext fun w0 => funext fun w1 => funext fun w2 => funext fun w3 => funext fun w4 => funext fun w5 => funext fun w6 => zq94.d11.run N w0 w1 w2 w3 w4 w5 w6))
def zq94.K125 (N : Nat) : Ex → St D0 → Option zq94.R := (onN (fun s => zq94.C.tidy 62 s (fun s' => runC zq94.C (zq94.O N) N zq94.c63 63 s' zq94.K0)) zq94.K0)
def zq94.o8 (N : Nat) (v0 : Int) (v1 : ByteArray) (v2 : List Int) (v3 : Bool) (v4 : Int) (v5 : Int) (c9 : Int → (List Int) → (List ByteArray) → Bool → Int → Int → Option zq94.R) (c10 : Int → (List Int) → Int → Int → Int → Int → Option zq94.R) : Option zq94.R :=
 bif v3 then
  some (0, 0, false)
 else
 bif (decide ((v1.size : Int) > 8)) then
  bif (decide (0 ≤ (v1.size : Int))) then
   bif (decide ((v1.size : Int) ≤ (v1.size : Int))) then
    bif (decide (9 ≤ (v1.size : Int))) then
     (zq115.g N (v1.extract (9 : Int).toNat ((v1.size : Int) : Int).toNat) 47).bind fun r1 =>
     bif (decide (8 < (v1.size : Int))) then
      bif ((bt v1 8) != 43) then
       c9 v0 v2 r1 true v4 v5
      else
      c9 v0 v2 r1 ((r1.length : Int) != 2) v4 v5
     else
     none
    else
    none
   else
   none
  else
  none
 else
 c10 v0 v2 0 1 v4 v5
theorem zq94.o8.run (N : Nat) (H255 : Code) (H8149 : Code) (v0 : Int) (v1 : ByteArray) (v2 : List Int) (v3 : Bool) (v4 : Int) (v5 : Int) : runC zq94.C (zq94.O N) N zq94.c125 125 (mkSt [(0, .one (.int .i64 v0)), (1, .one (.str v1)), (4, .one (.ptr 4 0)), (6, .one (.sl true 3 v2)), (87, .one (.bool v3))] [(4, some (25, [.int .i64 v4, .int .i64 v5]))] : St D0) (onN (fun s => zq94.C.tidy 62 s (fun s' => runC zq94.C (zq94.O N) N (.seq zq94.c126 (.seq (.seq zq94.c508 (.cond (.tmp 91) (.seq zq94.c2036 (.seq (.seq zq94.c8148 H8149) zq94.c4075)) zq94.c1019)) H255)) 63 s' zq94.K0)) zq94.K0) = zq94.o8 N v0 v1 v2 v3 v4 v5 ((fun w0 w1 w2 w3 w4 w5 => runC zq94.C (zq94.O N) N H8149 8149 (mkSt [(0, .one (.int .i64 w0)), (4, .one (.ptr 4 0)), (6, .one (.sl true 3 w1)), (10, .one (.sl true 9 w2)), (102, .one (.bool w3))] [(4, some (25, [.int .i64 w4, .int .i64 w5]))] : St D0) ((fun up => (onN (fun s => zq94.C.tidy 4074 s (fun s' => runC zq94.C (zq94.O N) N zq94.c4075 4075 s' up)) up)) (onN (fun s => zq94.C.tidy 254 s (fun s' => runC zq94.C (zq94.O N) N H255 255 s' zq94.K0)) zq94.K0)))) ((fun w0 w1 w2 w3 w4 w5 => runC zq94.C (zq94.O N) N H255 255 (mkSt [(0, .one (.int .i64 w0)), (4, .one (.ptr 4 0)), (6, .one (.sl true 3 w1)), (8, .one (.int .i64 w2)), (9, .one (.int .i64 w3))] [(4, some (25, [.int .i64 w4, .int .i64 w5]))] : St D0) zq94.K0)) := by kernel_rfl
def zq94.d8 (N : Nat) (v0 : Int) (v1 : ByteArray) (v2 : List Int) (v3 : Bool) (v4 : Int) (v5 : Int) : Option zq94.R := zq94.o8 N v0 v1 v2 v3 v4 v5 ((fun w0 w1 w2 w3 w4 w5 => zq94.d9 N w0 w1 w2 w3 w4 w5)) ((fun w0 w1 w2 w3 w4 w5 => zq94.d10 N w0 w1 w2 w3 w4 w5))
theorem zq94.d8.run (N : Nat) (v0 : Int) (v1 : ByteArray) (v2 : List Int) (v3 : Bool) (v4 : Int) (v5 : Int) : runC zq94.C (zq94.O N) N zq94.c125 125 (mkSt [(0, .one (.int .i64 v0)), (1, .one (.str v1)), (4, .one (.ptr 4 0)), (6, .one (.sl true 3 v2)), (87, .one (.bool v3))] [(4, some (25, [.int .i64 v4, .int .i64 v5]))] : St D0) (zq94.K125 N) = zq94.d8 N v0 v1 v2 v3 v4 v5 := by
  unfold zq94.d8; exact (zq94.o8.run N zq94.c255 zq94.c8149 v0 v1 v2 v3 v4 v5).trans (congr (congr rfl (funext fun w0 => funext fun w1 => funext fun w2 => funext fun w3 => funext fun w4 => funext fun w5 => zq94.d9.run N w0 w1 w2 w3 w4 w5)) (funext fun w0 => funext fun w1 => funext fun w2 => funext fun w3 => funext fun w4 => funext fun w5 => zq94.d10.run N w0 w1 w2 w3 w4 w5))
def zq94.o6 (N : Nat) (v0 : Int) (v1 : ByteArray) (v2 : List Int) (v3 : Int) (v4 : Int) (v5 : Int) (c5 : Int → ByteArray → (List Int) → Int → Int → Int → Option zq94.R) (c7 : Int → ByteArray → (List Int) → Int → Bool → Int → Int → Option zq94.R) (c8 : Int → ByteArray → (List Int) → Bool → Int → Int → Option zq94.R) : Option zq94.R :=
 bif (decide (v3 < 8)) then
  bif ((Int.tmod v3 3) == 2) then
   bif (decide (0 ≤ v3)) then
    bif (decide (v3 < (v1.size : Int))) then
     bif ((bt v1 v3) != 58) then
      some (0, 0, false)
     else
     c5 v0 v1 v2 v3 v4 v5
    else
    none
   else
   none
  else
  bif (decide (0 ≤ v3)) then
   bif (decide (v3 < (v1.size : Int))) then
    bif (decide ((bt v1 v3) < 48)) then
     c7 v0 v1 v2 v3 true v4 v5
    else
    bif (decide (0 ≤ v3)) then
     bif (decide (v3 < (v1.size : Int))) then
      c7 v0 v1 v2 v3 (decide ((bt v1 v3) > 57)) v4 v5
     else
     none
    else
    none
   else
   none
  else
  none
 else
 bif (decide (0 < (v2.length : Int))) then
  (v2[(0 : Int).toNat]?).bind fun x1 =>
  bif (decide (x1 ≥ v0)) then
   c8 v0 v1 v2 true v4 v5
  else
  bif (decide (1 < (v2.length : Int))) then
   (v2[(1 : Int).toNat]?).bind fun x2 =>
   bif (decide (x2 > 59)) then
    c8 v0 v1 v2 true v4 v5
   else
   bif (decide (2 < (v2.length : Int))) then
    (v2[(2 : Int).toNat]?).bind fun x3 =>
    c8 v0 v1 v2 (decide (x3 > 59)) v4 v5
   else
   none
  else
  none
 else
 none
theorem zq94.o6.run (N : Nat) (Kn122 : St D0 → Option zq94.R) (H125 : Code) (H979 : Code) (H31303 : Code) (v0 : Int) (v1 : ByteArray) (v2 : List Int) (v3 : Int) (v4 : Int) (v5 : Int) : runC zq94.C (zq94.O N) N (.seq zq94.c488 (.seq (.block 1 (.block 2 (.seq zq94.c7824 (.cond (.tmp 37) zq94.c15650 (.seq zq94.c31302 H31303))))) H979)) 244 (mkSt [(0, .one (.int .i64 v0)), (1, .one (.str v1)), (4, .one (.ptr 4 0)), (6, .one (.sl true 3 v2)), (7, .one (.int .i64 v3))] [(4, some (25, [.int .i64 v4, .int .i64 v5]))] : St D0) ((fun up => (onN (fun s => zq94.C.tidy 122 s ((onN Kn122 up) .normal)) (onN Kn122 up))) (blockK 0 (onN (fun s => zq94.C.tidy 30 s (fun s' => runC zq94.C (zq94.O N) N (.seq (.seq zq94.c124 H125) zq94.c63) 31 s' zq94.K0)) zq94.K0))) = zq94.o6 N v0 v1 v2 v3 v4 v5 ((fun w0 w1 w2 w3 w4 w5 => runC zq94.C (zq94.O N) N H979 979 (mkSt [(0, .one (.int .i64 w0)), (1, .one (.str w1)), (4, .one (.ptr 4 0)), (6, .one (.sl true 3 w2)), (7, .one (.int .i64 w3))] [(4, some (25, [.int .i64 w4, .int .i64 w5]))] : St D0) ((fun up => (onN (fun s => zq94.C.tidy 122 s ((onN Kn122 up) .normal)) (onN Kn122 up))) (blockK 0 (onN (fun s => zq94.C.tidy 30 s (fun s' => runC zq94.C (zq94.O N) N (.seq (.seq zq94.c124 H125) zq94.c63) 31 s' zq94.K0)) zq94.K0))))) ((fun w0 w1 w2 w3 w4 w5 w6 => runC zq94.C (zq94.O N) N H31303 31303 (mkSt [(0, .one (.int .i64 w0)), (1, .one (.str w1)), (4, .one (.ptr 4 0)), (6, .one (.sl true 3 w2)), (7, .one (.int .i64 w3)), (46, .one (.bool w4))] [(4, some (25, [.int .i64 w5, .int .i64 w6]))] : St D0) (blockK 2 (blockK 1 ((fun up => (onN (fun s => zq94.C.tidy 978 s (fun s' => runC zq94.C (zq94.O N) N H979 979 s' up)) up)) ((fun up => (onN (fun s => zq94.C.tidy 122 s ((onN Kn122 up) .normal)) (onN Kn122 up))) (blockK 0 (onN (fun s => zq94.C.tidy 30 s (fun s' => runC zq94.C (zq94.O N) N (.seq (.seq zq94.c124 H125) zq94.c63) 31 s' zq94.K0)) zq94.K0)))))))) ((fun w0 w1 w2 w3 w4 w5 => runC zq94.C (zq94.O N) N H125 125 (mkSt [(0, .one (.int .i64 w0)), (1, .one (.str w1)), (4, .one (.ptr 4 0)), (6, .one (.sl true 3 w2)), (87, .one (.bool w3))] [(4, some (25, [.int .i64 w4, .int .i64 w5]))] : St D0) (onN (fun s => zq94.C.tidy 62 s (fun s' => runC zq94.C (zq94.O N) N zq94.c63 63 s' zq94.K0)) zq94.K0))) := by kernel_rfl
def zq94.d6 (N : Nat) (v0 : Int) (v1 : ByteArray) (v2 : List Int) (v3 : Int) (v4 : Int) (v5 : Int) (c6 : Int → ByteArray → (List Int) → Int → Int → Int → Option zq94.R) : Option zq94.R := zq94.o6 N v0 v1 v2 v3 v4 v5 ((fun w0 w1 w2 w3 w4 w5 => zq94.d5 N w0 w1 w2 w3 w4 w5 c6)) ((fun w0 w1 w2 w3 w4 w5 w6 => zq94.d7 N w0 w1 w2 w3 w4 w5 w6 c6)) ((fun w0 w1 w2 w3 w4 w5 => zq94.d8 N w0 w1 w2 w3 w4 w5))
theorem zq94.c244_6 : zq94.c244 = (.seq zq94.c488 (.seq (.block 1 (.block 2 (.seq zq94.c7824 (.cond (.tmp 37) zq94.c15650 (.seq zq94.c31302 zq94.c31303))))) zq94.c979)) := by kernel_rfl
theorem zq94.d6.run (N : Nat) (Kn122 : St D0 → Option zq94.R) (v0 : Int) (v1 : ByteArray) (v2 : List Int) (v3 : Int) (v4 : Int) (v5 : Int) : runC zq94.C (zq94.O N) N zq94.c244 244 (mkSt [(0, .one (.int .i64 v0)), (1, .one (.str v1)), (4, .one (.ptr 4 0)), (6, .one (.sl true 3 v2)), (7, .one (.int .i64 v3))] [(4, some (25, [.int .i64 v4, .int .i64 v5]))] : St D0) (zq94.K244 N Kn122) = zq94.d6 N v0 v1 v2 v3 v4 v5 ((fun w0 w1 w2 w3 w4 w5 => Kn122 (mkSt [(0, .one (.int .i64 w0)), (1, .one (.str w1)), (4, .one (.ptr 4 0)), (6, .one (.sl true 3 w2)), (7, .one (.int .i64 w3))] [(4, some (25, [.int .i64 w4, .int .i64 w5]))] : St D0))) := by
  rw [zq94.c244_6]; unfold zq94.d6; exact (zq94.o6.run N Kn122 zq94.c125 zq94.c979 zq94.c31303 v0 v1 v2 v3 v4 v5).trans (congr (congr (congr rfl (funext fun w0 => funext fun w1 => funext fun w2 => funext fun w3 => funext fun w4 => funext fun w5 => zq94.d5.run N Kn122 w0 w1 w2 w3 w4 w5)) (funext fun w0 => funext fun w1 => funext fun w2 => funext fun w3 => funext fun w4 => funext fun w5 => funext fun w6 => zq94.d7.run N Kn122 w0 w1 w2 w3 w4 w5 w6)) (funext fun w0 => funext fun w1 => funext fun w2 => funext fun w3 => funext fun w4 => funext fun w5 => zq94.d8.run N w0 w1 w2 w3 w4 w5))
def zq94.K122 (N : Nat) : Ex → St D0 → Option zq94.R := (blockK 0 (onN (fun s => zq94.C.tidy 30 s (fun s' => runC zq94.C (zq94.O N) N zq94.c31 31 s' zq94.K0)) zq94.K0))
mutual
def zq94.l2 (N : Nat) : Nat → Int → ByteArray → Int → Int → Int → Option zq94.R
  | 0, _, _, _, _, _ => none
  | n + 1, v0, v1, v2, v3, v4 => zq94.d2 N v0 v1 v2 v3 v4 ((fun w0 w1 w2 w3 w4 => zq94.l2 N n w0 w1 w2 w3 w4)) ((fun w0 w1 w2 w3 w4 w5 => zq94.l6 N n w0 w1 w2 w3 w4 w5))
def zq94.l6 (N : Nat) : Nat → Int → ByteArray → (List Int) → Int → Int → Int → Option zq94.R
  | 0, _, _, _, _, _, _ => none
  | n + 1, v0, v1, v2, v3, v4, v5 => zq94.d6 N v0 v1 v2 v3 v4 v5 ((fun w0 w1 w2 w3 w4 w5 => zq94.l6 N n w0 w1 w2 w3 w4 w5))
end
theorem zq94.loop122 (N : Nat) : ∀ n, (∀ (v0 : Int) (v1 : ByteArray) (v2 : Int) (v3 : Int) (v4 : Int), iter (loopF zq94.C (zq94.O N) N zq94.c244 122) n (mkSt [(0, .one (.int .i64 v0)), (1, .one (.str v1)), (4, .one (.ptr 4 0)), (6, .one (.nl)), (7, .one (.int .i64 v2))] [(4, some (25, [.int .i64 v3, .int .i64 v4]))] : St D0) (zq94.K122 N) = zq94.l2 N n v0 v1 v2 v3 v4) ∧ (∀ (v0 : Int) (v1 : ByteArray) (v2 : List Int) (v3 : Int) (v4 : Int) (v5 : Int), iter (loopF zq94.C (zq94.O N) N zq94.c244 122) n (mkSt [(0, .one (.int .i64 v0)), (1, .one (.str v1)), (4, .one (.ptr 4 0)), (6, .one (.sl true 3 v2)), (7, .one (.int .i64 v3))] [(4, some (25, [.int .i64 v4, .int .i64 v5]))] : St D0) (zq94.K122 N) = zq94.l6 N n v0 v1 v2 v3 v4 v5)
  | 0 => ⟨(fun v0 v1 v2 v3 v4 => rfl), (fun v0 v1 v2 v3 v4 v5 => rfl)⟩
  | n + 1 => ⟨(fun v0 v1 v2 v3 v4 => (zq94.d2.run N (fun s => iter (loopF zq94.C (zq94.O N) N zq94.c244 122) n s (zq94.K122 N)) v0 v1 v2 v3 v4).trans (show _ = zq94.d2 N v0 v1 v2 v3 v4 ((fun w0 w1 w2 w3 w4 => zq94.l2 N n w0 w1 w2 w3 w4)) ((fun w0 w1 w2 w3 w4 w5 => zq94.l6 N n w0 w1 w2 w3 w4 w5)) from (congr (congr rfl (funext fun w0 => funext fun w1 => funext fun w2 => funext fun w3 => funext fun w4 => (zq94.loop122 N n).1 w0 w1 w2 w3 w4)) (funext fun w0 => funext fun w1 => funext fun w2 => funext fun w3 => funext fun w4 => funext fun w5 => (zq94.loop122 N n).2 w0 w1 w2 w3 w4 w5)))), (fun v0 v1 v2 v3 v4 v5 => (zq94.d6.run N (fun s => iter (loopF zq94.C (zq94.O N) N zq94.c244 122) n s (zq94.K122 N)) v0 v1 v2 v3 v4 v5).trans (show _ = zq94.d6 N v0 v1 v2 v3 v4 v5 ((fun w0 w1 w2 w3 w4 w5 => zq94.l6 N n w0 w1 w2 w3 w4 w5)) from (congr rfl (funext fun w0 => funext fun w1 => funext fun w2 => funext fun w3 => funext fun w4 => funext fun w5 => (zq94.loop122 N n).2 w0 w1 w2 w3 w4 w5))))⟩
def zq94.K13 (N : Nat) : Ex → St D0 → Option zq94.R := (onN (fun s => zq94.C.tidy 6 s (fun s' => runC zq94.C (zq94.O N) N zq94.c7 7 s' zq94.K0)) zq94.K0)
def zq94.o1 (N : Nat) (v0 : Int) (v1 : ByteArray) (v2 : Bool) (v3 : Int) (v4 : Int) (c2 : Int → ByteArray → Int → Int → Int → Option zq94.R) : Option zq94.R :=
 bif v2 then
  some (0, 0, false)
 else
 c2 v0 v1 0 v3 v4
theorem zq94.o1.run (N : Nat) (H244 : Code) (v0 : Int) (v1 : ByteArray) (v2 : Bool) (v3 : Int) (v4 : Int) : runC zq94.C (zq94.O N) N zq94.c13 13 (mkSt [(0, .one (.int .i64 v0)), (1, .one (.str v1)), (4, .one (.ptr 4 0)), (18, .one (.bool v2))] [(4, some (25, [.int .i64 v3, .int .i64 v4]))] : St D0) (onN (fun s => zq94.C.tidy 6 s (fun s' => runC zq94.C (zq94.O N) N (.seq zq94.c14 (.seq (.seq zq94.c60 (.block 0 (.loop H244))) zq94.c31)) 7 s' zq94.K0)) zq94.K0) = zq94.o1 N v0 v1 v2 v3 v4 ((fun w0 w1 w2 w3 w4 => iter (loopF zq94.C (zq94.O N) N H244 122) N (mkSt [(0, .one (.int .i64 w0)), (1, .one (.str w1)), (4, .one (.ptr 4 0)), (6, .one (.nl)), (7, .one (.int .i64 w2))] [(4, some (25, [.int .i64 w3, .int .i64 w4]))] : St D0) (blockK 0 (onN (fun s => zq94.C.tidy 30 s (fun s' => runC zq94.C (zq94.O N) N zq94.c31 31 s' zq94.K0)) zq94.K0)))) := by kernel_rfl
def zq94.d1 (N : Nat) (v0 : Int) (v1 : ByteArray) (v2 : Bool) (v3 : Int) (v4 : Int) : Option zq94.R := zq94.o1 N v0 v1 v2 v3 v4 ((fun w0 w1 w2 w3 w4 => zq94.l2 N N w0 w1 w2 w3 w4))
theorem zq94.d1.run (N : Nat) (v0 : Int) (v1 : ByteArray) (v2 : Bool) (v3 : Int) (v4 : Int) : runC zq94.C (zq94.O N) N zq94.c13 13 (mkSt [(0, .one (.int .i64 v0)), (1, .one (.str v1)), (4, .one (.ptr 4 0)), (18, .one (.bool v2))] [(4, some (25, [.int .i64 v3, .int .i64 v4]))] : St D0) (zq94.K13 N) = zq94.d1 N v0 v1 v2 v3 v4 := by
  unfold zq94.d1; exact (zq94.o1.run N zq94.c244 v0 v1 v2 v3 v4).trans (congr rfl (funext fun w0 => funext fun w1 => funext fun w2 => funext fun w3 => funext fun w4 => (zq94.loop122 N N).1 w0 w1 w2 w3 w4))
def zq94.o0 (N : Nat) (a0 : Int) (a1 : ByteArray) (c1 : Int → ByteArray → Bool → Int → Int → Option zq94.R) : Option zq94.R :=
 bif (decide ((a1.size : Int) < 8)) then
  c1 a0 a1 true 0 0
 else
 c1 a0 a1 (decide ((a1.size : Int) > 22)) 0 0
theorem zq94.o0.run (N : Nat) (H13 : Code) (a0 : Int) (a1 : ByteArray) : runC zq94.C (zq94.O N) N (.seq zq94.c2 (.seq (.seq zq94.c12 H13) zq94.c7)) 1 (st0 [.one (.int .i64 a0), .one (.str a1)] [] : St D0) zq94.K0 = zq94.o0 N a0 a1 ((fun w0 w1 w2 w3 w4 => runC zq94.C (zq94.O N) N H13 13 (mkSt [(0, .one (.int .i64 w0)), (1, .one (.str w1)), (4, .one (.ptr 4 0)), (18, .one (.bool w2))] [(4, some (25, [.int .i64 w3, .int .i64 w4]))] : St D0) (onN (fun s => zq94.C.tidy 6 s (fun s' => runC zq94.C (zq94.O N) N zq94.c7 7 s' zq94.K0)) zq94.K0))) := by kernel_rfl
def zq94.g (N : Nat) (a0 : Int) (a1 : ByteArray) : Option zq94.R := zq94.o0 N a0 a1 ((fun w0 w1 w2 w3 w4 => zq94.d1 N w0 w1 w2 w3 w4))
theorem zq94.c1_0 : zq94.c1 = (.seq zq94.c2 (.seq (.seq zq94.c12 zq94.c13) zq94.c7)) := by kernel_rfl
theorem zq94.g.run (N : Nat) (a0 : Int) (a1 : ByteArray) : runC zq94.C (zq94.O N) N zq94.c1 1 (st0 [.one (.int .i64 a0), .one (.str a1)] [] : St D0) zq94.K0 = zq94.g N a0 a1 := by
  rw [zq94.c1_0]; unfold zq94.g; exact (zq94.o0.run N zq94.c13 a0 a1).trans (congr rfl (funext fun w0 => funext fun w1 => funext fun w2 => funext fun w3 => funext fun w4 => zq94.d1.run N w0 w1 w2 w3 w4))
theorem zq94.good (N : Nat) (a0 : Int) (a1 : ByteArray) (r : zq94.R) (h : zq94.g N a0 a1 = some r) : Go.PM.Good Tryz.prog T0 89 [.one (.int .i64 a0), .one (.str a1)] [] (zq94.sig.ret r) (zq94.sig.bs r) :=
  good_fn tabOk0 mixed0 zq94.sig (zq94.E N) Tryz.func89 (by kernel_rfl) (by kernel_rfl) 85070596803467639362531009403438761971 0 0 [(12, [0, 1, 4, 18], [4]), (122, [0, 1, 4, 6, 7], [4]), (124, [0, 1, 4, 6, 87], [4]), (254, [0, 4, 6, 8, 9], [4]), (978, [0, 1, 4, 6, 7], [4]), (8148, [0, 4, 6, 10, 102], [4]), (31302, [0, 1, 4, 6, 7, 46], [4]), (32606, [0, 4, 6, 8, 9, 126], [4])] 237125443187377898191567724995513788308424704 true [(250431, false, 6, [0, 1, 4, 7], [4]), (250431, true, 6, [0, 1, 4, 7], [4])] [(true, [.any, .any]), (false, [.any])] (by kernel_rfl) rfl rfl ((zq94.g.run N a0 a1).trans h)
def zq94.ent (N : Nat) : Ent Tryz.prog T0 := mkEnt 89 [(false, [.any]), (false, [.any])] zq94.sig (fun t => zq94.g N t.1 t.2) (fun t r h => zq94.good N t.1 t.2 r h)
/-! ### zq72 -/
abbrev zq72.R : Type := Int × Int × Bool
abbrev zq72.sig : Sig := ⟨[(false, 1), (false, 1)], [], [.int .i64, .str], [(true, 2), (false, 1)], [], [.int .i64, .int .i64, .bool]⟩
def zq72.C : Cfg D0 := ⟨Tryz.prog, T0, 307, 0, 15, 0, [], 3136, false, []⟩
def zq72.E (N : Nat) : List (Ent Tryz.prog T0) := [zq91.ent N, zq94.ent N]
def zq72.O (N : Nat) : Orc D0 zq72.R := orcOf (zq72.E N)
def zq72.K0 : Ex → St D0 → Option zq72.R := exitK zq72.C Tryz.f31.results.toList [(true, [.any, .any]), (false, [.any])] (decOut zq72.sig)
def zq72.c1 : Code := codeAt (Tryz.f31.body.getD .skip) []
def zq72.o0 (N : Nat) (a0 : Int) (a1 : ByteArray) : Option zq72.R :=
 (zq91.g N a0).bind fun r1 =>
 bif (!r1) then
  some (0, 0, false)
 else
 (zq94.g N a0 a1).bind fun r2 =>
 some (r2.1, r2.2.1, r2.2.2)
theorem zq72.o0.run (N : Nat) (a0 : Int) (a1 : ByteArray) : runC zq72.C (zq72.O N) N zq72.c1 1 (st0 [.one (.int .i64 a0), .one (.str a1)] [] : St D0) zq72.K0 = zq72.o0 N a0 a1 := by kernel_rfl
def zq72.g (N : Nat) (a0 : Int) (a1 : ByteArray) : Option zq72.R := zq72.o0 N a0 a1
theorem zq72.g.run (N : Nat) (a0 : Int) (a1 : ByteArray) : runC zq72.C (zq72.O N) N zq72.c1 1 (st0 [.one (.int .i64 a0), .one (.str a1)] [] : St D0) zq72.K0 = zq72.g N a0 a1 := by
  exact (zq72.o0.run N a0 a1).trans rfl
theorem zq72.good (N : Nat) (a0 : Int) (a1 : ByteArray) (r : zq72.R) (h : zq72.g N a0 a1 = some r) : Go.PM.Good Tryz.prog T0 31 [.one (.int .i64 a0), .one (.str a1)] [] (zq72.sig.ret r) (zq72.sig.bs r) :=
  good_fn tabOk0 mixed0 zq72.sig (zq72.E N) Tryz.func31 (by kernel_rfl) (by kernel_rfl) 307 0 0 [] 3136 false [] [(true, [.any, .any]), (false, [.any])] (by kernel_rfl) rfl rfl ((zq72.g.run N a0 a1).trans h)
def zq72.ent (N : Nat) : Ent Tryz.prog T0 := mkEnt 31 [(false, [.any]), (false, [.any])] zq72.sig (fun t => zq72.g N t.1 t.2) (fun t r h => zq72.good N t.1 t.2 r h)
end Go.Proofs.YtccjoegnkiaibaaGreatDoor.M
namespace Go.Proofs.YtccjoegnkiaibaaGreatDoor.M
open Go Go.PM Go.Proofs.YtccjoegnkiaibaaGreatDoor.P
set_option linter.unusedVariables false
set_option maxRecDepth 100000
open Go.RowKit Go.Lib
/-! ### zq119 -/
abbrev zq119.R : Type := ByteArray × ByteArray × Bool
abbrev zq119.sig : Sig := ⟨[(false, 1), (false, 1)], [], [.str, .str], [(false, 1), (false, 1), (false, 1)], [], [.str, .str, .bool]⟩
theorem zq119.asd {p : Prop} (h : p) : Aside p := h
def zq119.g (N : Nat) (a0 : ByteArray) (a1 : ByteArray) : Option zq119.R := match a1.data.toList with
  | [c] => bif decide (a0.size < 4294967281) then some (if Lib.indexByte a0.data.toList c < 0 then (a0, ⟨#[]⟩, false) else (a0.extract 0 (Lib.indexByte a0.data.toList c).toNat, a0.extract ((Lib.indexByte a0.data.toList c).toNat + 1) a0.size, true)) else none
  | _ => none
set_option maxHeartbeats 2000000 in
theorem zq119.walk0 (a0 : ByteArray) (c : UInt8) (hs : a0.size < 4294967281) (r : ByteArray × ByteArray × Bool) (w : World) (h : (if Lib.indexByte a0.data.toList c < 0 then (a0, ⟨#[]⟩, false) else (a0.extract 0 (Lib.indexByte a0.data.toList c).toNat, a0.extract ((Lib.indexByte a0.data.toList c).toNat + 1) a0.size, true)) = r) :
    Calls Tryz.prog 115 #[.string a0, .string ⟨#[c]⟩] w fun e w' => e = .returned (.tuple #[.string r.1, .string r.2.1, .bool r.2.2]) ∧ Below w.heap.size w w' := by
  have hge := Lib.indexByte_ge a0.data.toList c
  by_cases hn : Lib.indexByte a0.data.toList c < 0
  · rw [if_pos hn] at h
    subst h
    have hix : Lib.indexByte a0.data.toList c = -1 := by omega
    have HI := zq119.asd (fun W => (by have := Tryz.stringslite_Index_one a0 c W; rw [hix] at this; exact this : Calls Tryz.prog 129 #[.string a0, .string ⟨#[c]⟩] W fun e w' => e = .returned (.int .i64 (-1)) ∧ w' = W))
    clear hix hn hge
    go_enter Tryz.func115, Tryz.ntmps115
    go_wp2_with (go_at_call 129; refine (HI.out _).mono ?_; rintro e w' ⟨rfl, rfl⟩)
    go_ret3
    exact ⟨rfl, Below.refl _ _⟩
  · rw [if_neg hn] at h
    subst h
    obtain ⟨i, hi⟩ : ∃ i : Nat, Lib.indexByte a0.data.toList c = i := ⟨(Lib.indexByte a0.data.toList c).toNat, by omega⟩
    have hlt : i < a0.size := by
      have h1 := (Lib.indexByte_some hi).1
      rcases Nat.lt_or_ge i a0.data.toList.length with z | z
      · rw [Array.length_toList] at z; exact z
      · rw [List.getElem?_eq_none z] at h1; cases h1
    have HI := zq119.asd (fun W => (by have := Tryz.stringslite_Index_one a0 c W; rw [hi] at this; exact this : Calls Tryz.prog 129 #[.string a0, .string ⟨#[c]⟩] W fun e w' => e = .returned (.int .i64 (i : Int)) ∧ w' = W))
    rw [hi, Int.toNat_natCast]
    clear hi hn hge
    have c1 : (0 : Int) ≤ ↑i := by omega
    have c2 : (↑i : Int) ≤ ↑a0.size := by omega
    have c3 : (0 : Int) ≤ ↑i + 1 := by omega
    have c4 : (↑i + 1 : Int) ≤ ↑a0.size := by omega
    go_enter Tryz.func115, Tryz.ntmps115
    go_wp2_with (go_at_call 129; refine (HI.out _).mono ?_; rintro e w' ⟨rfl, rfl⟩)
    go_region
    all_goals (try go_wp2)
    all_goals go_ret3
    all_goals exact ⟨rfl, by repeat (first | exact Below.refl _ _ | apply Below.drew)⟩
theorem zq119.walk (a0 : ByteArray) (c : UInt8) (hs : a0.size < 4294967281) (r : ByteArray × ByteArray × Bool) (w : World) (h : (if Lib.indexByte a0.data.toList c < 0 then (a0, ⟨#[]⟩, false) else (a0.extract 0 (Lib.indexByte a0.data.toList c).toNat, a0.extract ((Lib.indexByte a0.data.toList c).toNat + 1) a0.size, true)) = r) :
    Calls Tryz.prog 78 #[.string a0, .string ⟨#[c]⟩] w fun e w' => e = .returned (.tuple #[.string r.1, .string r.2.1, .bool r.2.2]) ∧ Below w.heap.size w w' := by
  have HC := zq119.asd (zq119.walk0 a0 c hs r w h)
  clear h
  go_enter Tryz.func78, Tryz.ntmps78
  go_wp2_with (go_at_call 115; refine HC.out.mono ?_; rintro e w' ⟨rfl, hB⟩; have HB := zq119.asd hB; clear hB)
  go_ret3
  exact ⟨rfl, HB.out⟩
theorem zq119.good (N : Nat) (a0 : ByteArray) (a1 : ByteArray) (r : zq119.R) (h : zq119.g N a0 a1 = some r) : Go.PM.Good Tryz.prog T0 78 [.one (.str a0), .one (.str a1)] [] (zq119.sig.ret r) (zq119.sig.bs r) := by
  obtain ⟨⟨l⟩⟩ := a1
  match l, h with
  | [ch], h =>
    obtain ⟨hc, h⟩ := bif_some (show (bif decide (a0.size < 4294967281) then some (if Lib.indexByte a0.data.toList ch < 0 then (a0, ⟨#[]⟩, false) else (a0.extract 0 (Lib.indexByte a0.data.toList ch).toNat, a0.extract ((Lib.indexByte a0.data.toList ch).toNat + 1) a0.size, true)) else none) = some r from h)
    have hc := of_decide_eq_true hc
    refine good_still (T := T0) ⟨_, Tryz.func78, by kernel_rfl, rfl⟩ [.one (.str a0), .one (.str ⟨#[ch]⟩)] (ret := zq119.sig.ret r) rfl rfl ?_
    intro w C blk vargs hsz hrep hag
    have ev : vargs = #[.string a0, .string ⟨#[ch]⟩] := (args2 hsz).trans (by rw [rep_str (hrep 0), rep_str (hrep 1)])
    rw [ev]
    refine (zq119.walk a0 ch hc r w (Option.some.inj h)).mono ?_
    rintro e w' ⟨rfl, hB⟩
    exact ⟨_, rfl, ⟨_, rfl, .cons (crep1 (ERep.str _)) (.cons (crep1 (ERep.str _)) (.cons (crep1 (ERep.bool _)) .nil))⟩, hB⟩
def zq119.ent (N : Nat) : Ent Tryz.prog T0 := mkEnt 78 [(false, [.any]), (false, [.any])] zq119.sig (fun t => zq119.g N t.1 t.2) (fun t r h => zq119.good N t.1 t.2 r h)

end Go.Proofs.YtccjoegnkiaibaaGreatDoor.M
namespace Go.Proofs.YtccjoegnkiaibaaGreatDoor.M
open Go Go.PM Go.Proofs.YtccjoegnkiaibaaGreatDoor.P
set_option linter.unusedVariables false
set_option maxRecDepth 100000
/-! ### zq16 -/
abbrev zq16.R : Type := Int × Int × Bool
abbrev zq16.sig : Sig := ⟨[(false, 1), (false, 1)], [], [.int .i64, .str], [(true, 2), (false, 1)], [], [.int .i64, .int .i64, .bool]⟩
def zq16.C : Cfg D0 := ⟨Tryz.prog, T0, 713623846363364534323867243649489114482210803, 0, 152, 0, [(12, [0, 1, 4, 31], [4]), (30, [0, 1, 4, 6, 7], [4]), (506, [0, 1, 4, 6, 7, 16, 74, 75, 76], [4]), (508, [0, 1, 4, 6, 7, 16, 113], [4]), (4090, [4, 21, 149], [4, 21]), (7900, [0, 1, 4, 12, 14, 63], [4])], 279136710100675558372219274963812913734746112, false, []⟩
def zq16.E (N : Nat) : List (Ent Tryz.prog T0) := [zq36.ent N, zq119.ent N, zq42.ent N, zq117.ent N, zq46.ent N, zq41.ent N, zq23.ent N]
def zq16.O (N : Nat) : Orc D0 zq16.R := orcOf (zq16.E N)
def zq16.K0 : Ex → St D0 → Option zq16.R := exitK zq16.C Tryz.f25.results.toList [(true, [.any, .any]), (false, [.any])] (decOut zq16.sig)
def zq16.c1 : Code := codeAt (Tryz.f25.body.getD .skip) []
def zq16.c2 : Code := codeAt (Tryz.f25.body.getD .skip) [false]
def zq16.c7 : Code := codeAt (Tryz.f25.body.getD .skip) [true, true]
def zq16.c12 : Code := codeAt (Tryz.f25.body.getD .skip) [true, false, false]
def zq16.c13 : Code := codeAt (Tryz.f25.body.getD .skip) [true, false, true]
def zq16.c14 : Code := codeAt (Tryz.f25.body.getD .skip) [true, true, false]
def zq16.c31 : Code := codeAt (Tryz.f25.body.getD .skip) [true, true, true, true]
def zq16.c60 : Code := codeAt (Tryz.f25.body.getD .skip) [true, true, true, false, false]
def zq16.c62 : Code := codeAt (Tryz.f25.body.getD .skip) [true, true, true, true, false]
def zq16.c122 : Code := codeAt (Tryz.f25.body.getD .skip) [true, true, true, false, true, false]
def zq16.c127 : Code := codeAt (Tryz.f25.body.getD .skip) [true, true, true, true, true, true]
def zq16.c247 : Code := codeAt (Tryz.f25.body.getD .skip) [true, true, true, false, true, true, true]
def zq16.c252 : Code := codeAt (Tryz.f25.body.getD .skip) [true, true, true, true, true, false, false]
def zq16.c255 : Code := codeAt (Tryz.f25.body.getD .skip) [true, true, true, true, true, true, true]
def zq16.c492 : Code := codeAt (Tryz.f25.body.getD .skip) [true, true, true, false, true, true, false, false]
def zq16.c508 : Code := codeAt (Tryz.f25.body.getD .skip) [true, true, true, true, true, true, false, false]
def zq16.c509 : Code := codeAt (Tryz.f25.body.getD .skip) [true, true, true, true, true, true, false, true]
def zq16.c510 : Code := codeAt (Tryz.f25.body.getD .skip) [true, true, true, true, true, true, true, false]
def zq16.c986 : Code := codeAt (Tryz.f25.body.getD .skip) [true, true, true, false, true, true, false, true, false]
def zq16.c1012 : Code := codeAt (Tryz.f25.body.getD .skip) [true, true, true, true, true, false, true, false, false]
def zq16.c1023 : Code := codeAt (Tryz.f25.body.getD .skip) [true, true, true, true, true, true, true, true, true]
def zq16.c1974 : Code := codeAt (Tryz.f25.body.getD .skip) [true, true, true, false, true, true, false, true, true, false]
def zq16.c2044 : Code := codeAt (Tryz.f25.body.getD .skip) [true, true, true, true, true, true, true, true, false, false]
def zq16.c3951 : Code := codeAt (Tryz.f25.body.getD .skip) [true, true, true, false, true, true, false, true, true, true, true]
def zq16.c4090 : Code := codeAt (Tryz.f25.body.getD .skip) [true, true, true, true, true, true, true, true, false, true, false]
def zq16.c4091 : Code := codeAt (Tryz.f25.body.getD .skip) [true, true, true, true, true, true, true, true, false, true, true]
def zq16.c7900 : Code := codeAt (Tryz.f25.body.getD .skip) [true, true, true, false, true, true, false, true, true, true, false, false]
def zq16.c7901 : Code := codeAt (Tryz.f25.body.getD .skip) [true, true, true, false, true, true, false, true, true, true, false, true]
def zq16.K4091 (N : Nat) : Ex → St D0 → Option zq16.R := (onN (fun s => zq16.C.tidy 1022 s (fun s' => runC zq16.C (zq16.O N) N zq16.c1023 1023 s' zq16.K0)) zq16.K0)
def zq16.o6 (N : Nat) (v0 : Bool) (v1 : Int) (v2 : Int) (v3 : Int) (v4 : Int) : Option zq16.R :=
 bif v0 then
  some (0, 0, false)
 else
 some (v3, v4, true)
theorem zq16.o6.run (N : Nat) (v0 : Bool) (v1 : Int) (v2 : Int) (v3 : Int) (v4 : Int) : runC zq16.C (zq16.O N) N zq16.c4091 4091 (mkSt [(4, .one (.ptr 4 0)), (21, .one (.ptr 21 0)), (149, .one (.bool v0))] [(4, some (25, [.int .i64 v1, .int .i64 v2])), (21, some (25, [.int .i64 v3, .int .i64 v4]))] : St D0) (onN (fun s => zq16.C.tidy 1022 s (fun s' => runC zq16.C (zq16.O N) N zq16.c1023 1023 s' zq16.K0)) zq16.K0) = zq16.o6 N v0 v1 v2 v3 v4 := by kernel_rfl
def zq16.d6 (N : Nat) (v0 : Bool) (v1 : Int) (v2 : Int) (v3 : Int) (v4 : Int) : Option zq16.R := zq16.o6 N v0 v1 v2 v3 v4
theorem zq16.d6.run (N : Nat) (v0 : Bool) (v1 : Int) (v2 : Int) (v3 : Int) (v4 : Int) : runC zq16.C (zq16.O N) N zq16.c4091 4091 (mkSt [(4, .one (.ptr 4 0)), (21, .one (.ptr 21 0)), (149, .one (.bool v0))] [(4, some (25, [.int .i64 v1, .int .i64 v2])), (21, some (25, [.int .i64 v3, .int .i64 v4]))] : St D0) (zq16.K4091 N) = zq16.d6 N v0 v1 v2 v3 v4 := by
  exact (zq16.o6.run N v0 v1 v2 v3 v4).trans rfl
def zq16.K509 (N : Nat) : Ex → St D0 → Option zq16.R := (onN (fun s => zq16.C.tidy 254 s (fun s' => runC zq16.C (zq16.O N) N zq16.c255 255 s' zq16.K0)) zq16.K0)
def zq16.o5 (N : Nat) (v0 : Int) (v1 : ByteArray) (v2 : Int) (v3 : Int) (v4 : List Int) (v5 : Bool) (v6 : Int) (v7 : Int) (c6 : Bool → Int → Int → Int → Int → Option zq16.R) : Option zq16.R :=
 bif v5 then
  some (0, 0, false)
 else
 bif (decide (0 < (v4.length : Int))) then
  (v4[(0 : Int).toNat]?).bind fun x1 =>
  bif (decide (1 < (v4.length : Int))) then
   (v4[(1 : Int).toNat]?).bind fun x2 =>
   bif (decide (2 < (v4.length : Int))) then
    (v4[(2 : Int).toNat]?).bind fun x3 =>
    (zq41.g N (w64 ((w64 ((w64 ((w64 ((w64 (x1 * 3600)) + (w64 (x2 * 60)))) + x3)) * v3)) + v2)) (w64 ((w64 (v0 * 3600)) * v3))).bind fun r4 =>
    (zq23.g N v0 r4.1 r4.2).bind fun r5 =>
    bif (!r5.2) then
     c6 true v6 v7 r4.1 r4.2
    else
    c6 (!(r5.1.toList == v1.toList)) v6 v7 r4.1 r4.2
   else
   none
  else
  none
 else
 none
theorem zq16.o5.run (N : Nat) (H4091 : Code) (v0 : Int) (v1 : ByteArray) (v2 : Int) (v3 : Int) (v4 : List Int) (v5 : Bool) (v6 : Int) (v7 : Int) : runC zq16.C (zq16.O N) N zq16.c509 509 (mkSt [(0, .one (.int .i64 v0)), (1, .one (.str v1)), (4, .one (.ptr 4 0)), (6, .one (.int .i64 v2)), (7, .one (.int .i64 v3)), (16, .one (.sl true 3 v4)), (113, .one (.bool v5))] [(4, some (25, [.int .i64 v6, .int .i64 v7]))] : St D0) (onN (fun s => zq16.C.tidy 254 s (fun s' => runC zq16.C (zq16.O N) N (.seq zq16.c510 (.seq (.seq zq16.c2044 (.seq zq16.c4090 H4091)) zq16.c1023)) 255 s' zq16.K0)) zq16.K0) = zq16.o5 N v0 v1 v2 v3 v4 v5 v6 v7 ((fun w0 w1 w2 w3 w4 => runC zq16.C (zq16.O N) N H4091 4091 (mkSt [(4, .one (.ptr 4 0)), (21, .one (.ptr 21 0)), (149, .one (.bool w0))] [(4, some (25, [.int .i64 w1, .int .i64 w2])), (21, some (25, [.int .i64 w3, .int .i64 w4]))] : St D0) (onN (fun s => zq16.C.tidy 1022 s (fun s' => runC zq16.C (zq16.O N) N zq16.c1023 1023 s' zq16.K0)) zq16.K0))) := by kernel_rfl
def zq16.d5 (N : Nat) (v0 : Int) (v1 : ByteArray) (v2 : Int) (v3 : Int) (v4 : List Int) (v5 : Bool) (v6 : Int) (v7 : Int) : Option zq16.R := zq16.o5 N v0 v1 v2 v3 v4 v5 v6 v7 ((fun w0 w1 w2 w3 w4 => zq16.d6 N w0 w1 w2 w3 w4))
theorem zq16.d5.run (N : Nat) (v0 : Int) (v1 : ByteArray) (v2 : Int) (v3 : Int) (v4 : List Int) (v5 : Bool) (v6 : Int) (v7 : Int) : runC zq16.C (zq16.O N) N zq16.c509 509 (mkSt [(0, .one (.int .i64 v0)), (1, .one (.str v1)), (4, .one (.ptr 4 0)), (6, .one (.int .i64 v2)), (7, .one (.int .i64 v3)), (16, .one (.sl true 3 v4)), (113, .one (.bool v5))] [(4, some (25, [.int .i64 v6, .int .i64 v7]))] : St D0) (zq16.K509 N) = zq16.d5 N v0 v1 v2 v3 v4 v5 v6 v7 := by
  unfold zq16.d5; exact (zq16.o5.run N zq16.c4091 v0 v1 v2 v3 v4 v5 v6 v7).trans (congr rfl (funext fun w0 => funext fun w1 => funext fun w2 => funext fun w3 => funext fun w4 => zq16.d6.run N w0 w1 w2 w3 w4))
def zq16.K1012 (N : Nat) (Kn506 : St D0 → Option zq16.R) : Ex → St D0 → Option zq16.R := ((fun up => (onN (fun s => zq16.C.tidy 506 s ((onN Kn506 up) .normal)) (onN Kn506 up))) (blockK 0 (onN (fun s => zq16.C.tidy 126 s (fun s' => runC zq16.C (zq16.O N) N zq16.c127 127 s' zq16.K0)) zq16.K0)))
def zq16.o4 (N : Nat) (v0 : Int) (v1 : ByteArray) (v2 : Int) (v3 : Int) (v4 : List Int) (v5 : List ByteArray) (v6 : Int) (v7 : Int) (v8 : Int) (v9 : Int) (c4 : Int → ByteArray → Int → Int → (List Int) → (List ByteArray) → Int → Int → Int → Int → Option zq16.R) (c5 : Int → ByteArray → Int → Int → (List Int) → Bool → Int → Int → Option zq16.R) : Option zq16.R :=
 bif (decide (v7 < v6)) then
  bif (decide (0 ≤ v7)) then
   bif (decide (v7 < (v5.length : Int))) then
    (v5[(v7 : Int).toNat]?).bind fun x1 =>
    (zq117.g N x1).bind fun r2 =>
    bif (!r2.2) then
     some (0, 0, false)
    else
    bif (Nat.blt (v4.length + ([r2.1] : List Int).length) 17592186044416) then
     c4 v0 v1 v2 v3 (v4 ++ ([r2.1] : List Int)) v5 v6 (w64 (v7 + 1)) v8 v9
    else
    none
   else
   none
  else
  none
 else
 bif (decide (0 < (v4.length : Int))) then
  (v4[(0 : Int).toNat]?).bind fun x3 =>
  (zq46.g N x3 0 (w64 (v0 - 1))).bind fun r4 =>
  bif (!r4) then
   c5 v0 v1 v2 v3 v4 true v8 v9
  else
  bif (decide (1 < (v4.length : Int))) then
   (v4[(1 : Int).toNat]?).bind fun x5 =>
   (zq46.g N x5 0 59).bind fun r6 =>
   bif (!r6) then
    c5 v0 v1 v2 v3 v4 true v8 v9
   else
   bif (decide (2 < (v4.length : Int))) then
    (v4[(2 : Int).toNat]?).bind fun x7 =>
    (zq46.g N x7 0 59).bind fun r8 =>
    c5 v0 v1 v2 v3 v4 (!r8) v8 v9
   else
   none
  else
  none
 else
 none
theorem zq16.o4.run (N : Nat) (Kn506 : St D0 → Option zq16.R) (H509 : Code) (v0 : Int) (v1 : ByteArray) (v2 : Int) (v3 : Int) (v4 : List Int) (v5 : List ByteArray) (v6 : Int) (v7 : Int) (v8 : Int) (v9 : Int) : runC zq16.C (zq16.O N) N zq16.c1012 1012 (mkSt [(0, .one (.int .i64 v0)), (1, .one (.str v1)), (4, .one (.ptr 4 0)), (6, .one (.int .i64 v2)), (7, .one (.int .i64 v3)), (16, .one (.sl true 3 v4)), (74, .one (.sl true 9 v5)), (75, .one (.int .i64 v6)), (76, .one (.int .i64 v7))] [(4, some (25, [.int .i64 v8, .int .i64 v9]))] : St D0) ((fun up => (onN (fun s => zq16.C.tidy 506 s ((onN Kn506 up) .normal)) (onN Kn506 up))) (blockK 0 (onN (fun s => zq16.C.tidy 126 s (fun s' => runC zq16.C (zq16.O N) N (.seq (.seq zq16.c508 H509) zq16.c255) 127 s' zq16.K0)) zq16.K0))) = zq16.o4 N v0 v1 v2 v3 v4 v5 v6 v7 v8 v9 ((fun w0 w1 w2 w3 w4 w5 w6 w7 w8 w9 => Kn506 (mkSt [(0, .one (.int .i64 w0)), (1, .one (.str w1)), (4, .one (.ptr 4 0)), (6, .one (.int .i64 w2)), (7, .one (.int .i64 w3)), (16, .one (.sl true 3 w4)), (74, .one (.sl true 9 w5)), (75, .one (.int .i64 w6)), (76, .one (.int .i64 w7))] [(4, some (25, [.int .i64 w8, .int .i64 w9]))] : St D0))) ((fun w0 w1 w2 w3 w4 w5 w6 w7 => runC zq16.C (zq16.O N) N H509 509 (mkSt [(0, .one (.int .i64 w0)), (1, .one (.str w1)), (4, .one (.ptr 4 0)), (6, .one (.int .i64 w2)), (7, .one (.int .i64 w3)), (16, .one (.sl true 3 w4)), (113, .one (.bool w5))] [(4, some (25, [.int .i64 w6, .int .i64 w7]))] : St D0) (onN (fun s => zq16.C.tidy 254 s (fun s' => runC zq16.C (zq16.O N) N zq16.c255 255 s' zq16.K0)) zq16.K0))) := by kernel_rfl
def zq16.d4 (N : Nat) (v0 : Int) (v1 : ByteArray) (v2 : Int) (v3 : Int) (v4 : List Int) (v5 : List ByteArray) (v6 : Int) (v7 : Int) (v8 : Int) (v9 : Int) (c4 : Int → ByteArray → Int → Int → (List Int) → (List ByteArray) → Int → Int → Int → Int → Option zq16.R) : Option zq16.R := zq16.o4 N v0 v1 v2 v3 v4 v5 v6 v7 v8 v9 c4 ((fun w0 w1 w2 w3 w4 w5 w6 w7 => zq16.d5 N w0 w1 w2 w3 w4 w5 w6 w7))
theorem zq16.d4.run (N : Nat) (Kn506 : St D0 → Option zq16.R) (v0 : Int) (v1 : ByteArray) (v2 : Int) (v3 : Int) (v4 : List Int) (v5 : List ByteArray) (v6 : Int) (v7 : Int) (v8 : Int) (v9 : Int) : runC zq16.C (zq16.O N) N zq16.c1012 1012 (mkSt [(0, .one (.int .i64 v0)), (1, .one (.str v1)), (4, .one (.ptr 4 0)), (6, .one (.int .i64 v2)), (7, .one (.int .i64 v3)), (16, .one (.sl true 3 v4)), (74, .one (.sl true 9 v5)), (75, .one (.int .i64 v6)), (76, .one (.int .i64 v7))] [(4, some (25, [.int .i64 v8, .int .i64 v9]))] : St D0) (zq16.K1012 N Kn506) = zq16.d4 N v0 v1 v2 v3 v4 v5 v6 v7 v8 v9 ((fun w0 w1 w2 w3 w4 w5 w6 w7 w8 w9 => Kn506 (mkSt [(0, .one (.int .i64 w0)), (1, .one (.str w1)), (4, .one (.ptr 4 0)), (6, .one (.int .i64 w2)), (7, .one (.int .i64 w3)), (16, .one (.sl true 3 w4)), (74, .one (.sl true 9 w5)), (75, .one (.int .i64 w6)), (76, .one (.int .i64 w7))] [(4, some (25, [.int .i64 w8, .int .i64 w9]))] : St D0))) := by
  unfold zq16.d4; exact (zq16.o4.run N Kn506 zq16.c509 v0 v1 v2 v3 v4 v5 v6 v7 v8 v9).trans (congr (congr rfl rfl) (funext fun w0 => funext fun w1 => funext fun w2 => funext fun w3 => funext fun w4 => funext fun w5 => funext fun w6 => funext fun w7 => zq16.d5.run N w0 w1 w2 w3 w4 w5 w6 w7))
def zq16.K506 (N : Nat) : Ex → St D0 → Option zq16.R := (blockK 0 (onN (fun s => zq16.C.tidy 126 s (fun s' => runC zq16.C (zq16.O N) N zq16.c127 127 s' zq16.K0)) zq16.K0))
def zq16.l4 (N : Nat) : Nat → Int → ByteArray → Int → Int → (List Int) → (List ByteArray) → Int → Int → Int → Int → Option zq16.R
  | 0, _, _, _, _, _, _, _, _, _, _ => none
  | n + 1, v0, v1, v2, v3, v4, v5, v6, v7, v8, v9 => zq16.d4 N v0 v1 v2 v3 v4 v5 v6 v7 v8 v9 ((fun w0 w1 w2 w3 w4 w5 w6 w7 w8 w9 => zq16.l4 N n w0 w1 w2 w3 w4 w5 w6 w7 w8 w9))
theorem zq16.loop506 (N : Nat) : ∀ n, (∀ (v0 : Int) (v1 : ByteArray) (v2 : Int) (v3 : Int) (v4 : List Int) (v5 : List ByteArray) (v6 : Int) (v7 : Int) (v8 : Int) (v9 : Int), iter (loopF zq16.C (zq16.O N) N zq16.c1012 506) n (mkSt [(0, .one (.int .i64 v0)), (1, .one (.str v1)), (4, .one (.ptr 4 0)), (6, .one (.int .i64 v2)), (7, .one (.int .i64 v3)), (16, .one (.sl true 3 v4)), (74, .one (.sl true 9 v5)), (75, .one (.int .i64 v6)), (76, .one (.int .i64 v7))] [(4, some (25, [.int .i64 v8, .int .i64 v9]))] : St D0) (zq16.K506 N) = zq16.l4 N n v0 v1 v2 v3 v4 v5 v6 v7 v8 v9)
  | 0 => (fun v0 v1 v2 v3 v4 v5 v6 v7 v8 v9 => rfl)
  | n + 1 => (fun v0 v1 v2 v3 v4 v5 v6 v7 v8 v9 => (zq16.d4.run N (fun s => iter (loopF zq16.C (zq16.O N) N zq16.c1012 506) n s (zq16.K506 N)) v0 v1 v2 v3 v4 v5 v6 v7 v8 v9).trans (show _ = zq16.d4 N v0 v1 v2 v3 v4 v5 v6 v7 v8 v9 ((fun w0 w1 w2 w3 w4 w5 w6 w7 w8 w9 => zq16.l4 N n w0 w1 w2 w3 w4 w5 w6 w7 w8 w9)) from (congr rfl (funext fun w0 => funext fun w1 => funext fun w2 => funext fun w3 => funext fun w4 => funext fun w5 => funext fun w6 => funext fun w7 => funext fun w8 => funext fun w9 => (zq16.loop506 N n) w0 w1 w2 w3 w4 w5 w6 w7 w8 w9))))
def zq16.K31 (N : Nat) : Ex → St D0 → Option zq16.R := zq16.K0
def zq16.o3 (N : Nat) (v0 : Int) (v1 : ByteArray) (v2 : Int) (v3 : Int) (v4 : Int) (v5 : Int) (c4 : Int → ByteArray → Int → Int → (List Int) → (List ByteArray) → Int → Int → Int → Int → Option zq16.R) : Option zq16.R :=
 bif (decide (2 ≤ (v1.size : Int))) then
  bif (decide (5 ≤ (v1.size : Int))) then
   bif (decide (8 ≤ (v1.size : Int))) then
    c4 v0 v1 v2 v3 ([] : List Int) ([(v1.extract (0 : Int).toNat (2 : Int).toNat), (v1.extract (3 : Int).toNat (5 : Int).toNat), (v1.extract (6 : Int).toNat (8 : Int).toNat)] : List ByteArray) (([(v1.extract (0 : Int).toNat (2 : Int).toNat), (v1.extract (3 : Int).toNat (5 : Int).toNat), (v1.extract (6 : Int).toNat (8 : Int).toNat)] : List ByteArray).length : Int) 0 v4 v5
   else
   none
  else
  none
 else
 none
theorem zq16.o3.run (N : Nat) (H1012 : Code) (v0 : Int) (v1 : ByteArray) (v2 : Int) (v3 : Int) (v4 : Int) (v5 : Int) : runC zq16.C (zq16.O N) N (.seq zq16.c62 (.seq (.seq zq16.c252 (.block 0 (.loop H1012))) zq16.c127)) 31 (mkSt [(0, .one (.int .i64 v0)), (1, .one (.str v1)), (4, .one (.ptr 4 0)), (6, .one (.int .i64 v2)), (7, .one (.int .i64 v3))] [(4, some (25, [.int .i64 v4, .int .i64 v5]))] : St D0) zq16.K0 = zq16.o3 N v0 v1 v2 v3 v4 v5 ((fun w0 w1 w2 w3 w4 w5 w6 w7 w8 w9 => iter (loopF zq16.C (zq16.O N) N H1012 506) N (mkSt [(0, .one (.int .i64 w0)), (1, .one (.str w1)), (4, .one (.ptr 4 0)), (6, .one (.int .i64 w2)), (7, .one (.int .i64 w3)), (16, .one (.sl true 3 w4)), (74, .one (.sl true 9 w5)), (75, .one (.int .i64 w6)), (76, .one (.int .i64 w7))] [(4, some (25, [.int .i64 w8, .int .i64 w9]))] : St D0) (blockK 0 (onN (fun s => zq16.C.tidy 126 s (fun s' => runC zq16.C (zq16.O N) N zq16.c127 127 s' zq16.K0)) zq16.K0)))) := by kernel_rfl
def zq16.d3 (N : Nat) (v0 : Int) (v1 : ByteArray) (v2 : Int) (v3 : Int) (v4 : Int) (v5 : Int) : Option zq16.R := zq16.o3 N v0 v1 v2 v3 v4 v5 ((fun w0 w1 w2 w3 w4 w5 w6 w7 w8 w9 => zq16.l4 N N w0 w1 w2 w3 w4 w5 w6 w7 w8 w9))
theorem zq16.c31_3 : zq16.c31 = (.seq zq16.c62 (.seq (.seq zq16.c252 (.block 0 (.loop zq16.c1012))) zq16.c127)) := by kernel_rfl
theorem zq16.d3.run (N : Nat) (v0 : Int) (v1 : ByteArray) (v2 : Int) (v3 : Int) (v4 : Int) (v5 : Int) : runC zq16.C (zq16.O N) N zq16.c31 31 (mkSt [(0, .one (.int .i64 v0)), (1, .one (.str v1)), (4, .one (.ptr 4 0)), (6, .one (.int .i64 v2)), (7, .one (.int .i64 v3))] [(4, some (25, [.int .i64 v4, .int .i64 v5]))] : St D0) (zq16.K31 N) = zq16.d3 N v0 v1 v2 v3 v4 v5 := by
  rw [zq16.c31_3]; unfold zq16.d3; exact (zq16.o3.run N zq16.c1012 v0 v1 v2 v3 v4 v5).trans (congr rfl (funext fun w0 => funext fun w1 => funext fun w2 => funext fun w3 => funext fun w4 => funext fun w5 => funext fun w6 => funext fun w7 => funext fun w8 => funext fun w9 => (zq16.loop506 N N) w0 w1 w2 w3 w4 w5 w6 w7 w8 w9))
def zq16.B15 (N : Nat) : St D0 → Option zq16.R := fun s' => runC zq16.C (zq16.O N) N zq16.c31 31 s' (zq16.K31 N)
def zq16.K7901 (N : Nat) : Ex → St D0 → Option zq16.R := ((fun up => (onN (fun s => zq16.C.tidy 3950 s (fun s' => runC zq16.C (zq16.O N) N zq16.c3951 3951 s' up)) up)) (onN (fun s => zq16.C.tidy 30 s (zq16.B15 N)) zq16.K0))
def zq16.o2 (N : Nat) (v0 : Int) (v1 : ByteArray) (v2 : Int) (v3 : Int) (v4 : Bool) (v5 : Int) (v6 : Int) (c3 : Int → ByteArray → Int → Int → Int → Int → Option zq16.R) : Option zq16.R :=
 bif v4 then
  some (0, 0, false)
 else
 c3 v0 v1 v2 v3 v5 v6
theorem zq16.o2.run (N : Nat) (Kb15 : St D0 → Option zq16.R) (v0 : Int) (v1 : ByteArray) (v2 : Int) (v3 : Int) (v4 : Bool) (v5 : Int) (v6 : Int) : runC zq16.C (zq16.O N) N zq16.c7901 7901 (mkSt [(0, .one (.int .i64 v0)), (1, .one (.str v1)), (4, .one (.ptr 4 0)), (12, .one (.int .i64 v2)), (14, .one (.int .i64 v3)), (63, .one (.bool v4))] [(4, some (25, [.int .i64 v5, .int .i64 v6]))] : St D0) (onN (fun s => zq16.C.tidy 3950 s (fun s' => runC zq16.C (zq16.O N) N zq16.c3951 3951 s' (onN (fun s => zq16.C.tidy 30 s Kb15) zq16.K0))) (onN (fun s => zq16.C.tidy 30 s Kb15) zq16.K0)) = zq16.o2 N v0 v1 v2 v3 v4 v5 v6 ((fun w0 w1 w2 w3 w4 w5 => Kb15 (mkSt [(0, .one (.int .i64 w0)), (1, .one (.str w1)), (4, .one (.ptr 4 0)), (6, .one (.int .i64 w2)), (7, .one (.int .i64 w3))] [(4, some (25, [.int .i64 w4, .int .i64 w5]))] : St D0))) := by kernel_rfl
def zq16.d2 (N : Nat) (v0 : Int) (v1 : ByteArray) (v2 : Int) (v3 : Int) (v4 : Bool) (v5 : Int) (v6 : Int) : Option zq16.R := zq16.o2 N v0 v1 v2 v3 v4 v5 v6 ((fun w0 w1 w2 w3 w4 w5 => zq16.d3 N w0 w1 w2 w3 w4 w5))
theorem zq16.d2.run (N : Nat) (v0 : Int) (v1 : ByteArray) (v2 : Int) (v3 : Int) (v4 : Bool) (v5 : Int) (v6 : Int) : runC zq16.C (zq16.O N) N zq16.c7901 7901 (mkSt [(0, .one (.int .i64 v0)), (1, .one (.str v1)), (4, .one (.ptr 4 0)), (12, .one (.int .i64 v2)), (14, .one (.int .i64 v3)), (63, .one (.bool v4))] [(4, some (25, [.int .i64 v5, .int .i64 v6]))] : St D0) (zq16.K7901 N) = zq16.d2 N v0 v1 v2 v3 v4 v5 v6 := by
  unfold zq16.d2; exact (zq16.o2.run N (zq16.B15 N) v0 v1 v2 v3 v4 v5 v6).trans (congr rfl (funext fun w0 => funext fun w1 => funext fun w2 => funext fun w3 => funext fun w4 => funext fun w5 => zq16.d3.run N w0 w1 w2 w3 w4 w5))
def zq16.K13 (N : Nat) : Ex → St D0 → Option zq16.R := (onN (fun s => zq16.C.tidy 6 s (fun s' => runC zq16.C (zq16.O N) N zq16.c7 7 s' zq16.K0)) zq16.K0)
def zq16.o1 (N : Nat) (v0 : Int) (v1 : ByteArray) (v2 : Bool) (v3 : Int) (v4 : Int) (c2 : Int → ByteArray → Int → Int → Bool → Int → Int → Option zq16.R) (c3 : Int → ByteArray → Int → Int → Int → Int → Option zq16.R) : Option zq16.R :=
 bif v2 then
  some (0, 0, false)
 else
 bif (decide (0 ≤ (v1.size : Int))) then
  bif (decide ((v1.size : Int) ≤ (v1.size : Int))) then
   bif (decide (8 ≤ (v1.size : Int))) then
    bif (!((v1.extract (8 : Int).toNat ((v1.size : Int) : Int).toNat).toList == (⟨#[]⟩ : ByteArray).toList)) then
     bif (decide (0 ≤ ((v1.extract (8 : Int).toNat ((v1.size : Int) : Int).toNat).size : Int))) then
      bif (decide (((v1.extract (8 : Int).toNat ((v1.size : Int) : Int).toNat).size : Int) ≤ ((v1.extract (8 : Int).toNat ((v1.size : Int) : Int).toNat).size : Int))) then
       bif (decide (1 ≤ ((v1.extract (8 : Int).toNat ((v1.size : Int) : Int).toNat).size : Int))) then
        (zq119.g N ((v1.extract (8 : Int).toNat ((v1.size : Int) : Int).toNat).extract (1 : Int).toNat (((v1.extract (8 : Int).toNat ((v1.size : Int) : Int).toNat).size : Int) : Int).toNat) (⟨#[47]⟩ : ByteArray)).bind fun r1 =>
        (zq42.g N r1.1 1000000).bind fun r2 =>
        (zq42.g N r1.2.1 1000000).bind fun r3 =>
        bif (!r2.2) then
         c2 v0 v1 r2.1 r3.1 true v3 v4
        else
        bif (!r3.2) then
         c2 v0 v1 r2.1 r3.1 true v3 v4
        else
        c2 v0 v1 r2.1 r3.1 (r3.1 == 0) v3 v4
       else
       none
      else
      none
     else
     none
    else
    c3 v0 v1 0 1 v3 v4
   else
   none
  else
  none
 else
 none
theorem zq16.o1.run (N : Nat) (H31 : Code) (H7901 : Code) (v0 : Int) (v1 : ByteArray) (v2 : Bool) (v3 : Int) (v4 : Int) : runC zq16.C (zq16.O N) N zq16.c13 13 (mkSt [(0, .one (.int .i64 v0)), (1, .one (.str v1)), (4, .one (.ptr 4 0)), (31, .one (.bool v2))] [(4, some (25, [.int .i64 v3, .int .i64 v4]))] : St D0) (onN (fun s => zq16.C.tidy 6 s (fun s' => runC zq16.C (zq16.O N) N (.seq zq16.c14 (.seq (.seq zq16.c60 (.seq zq16.c122 (.cond (.tmp 36) (.seq zq16.c492 (.seq zq16.c986 (.seq zq16.c1974 (.seq (.seq zq16.c7900 H7901) zq16.c3951)))) zq16.c247))) H31)) 7 s' zq16.K0)) zq16.K0) = zq16.o1 N v0 v1 v2 v3 v4 ((fun w0 w1 w2 w3 w4 w5 w6 => runC zq16.C (zq16.O N) N H7901 7901 (mkSt [(0, .one (.int .i64 w0)), (1, .one (.str w1)), (4, .one (.ptr 4 0)), (12, .one (.int .i64 w2)), (14, .one (.int .i64 w3)), (63, .one (.bool w4))] [(4, some (25, [.int .i64 w5, .int .i64 w6]))] : St D0) ((fun up => (onN (fun s => zq16.C.tidy 3950 s (fun s' => runC zq16.C (zq16.O N) N zq16.c3951 3951 s' up)) up)) (onN (fun s => zq16.C.tidy 30 s (fun s' => runC zq16.C (zq16.O N) N H31 31 s' zq16.K0)) zq16.K0)))) ((fun w0 w1 w2 w3 w4 w5 => runC zq16.C (zq16.O N) N H31 31 (mkSt [(0, .one (.int .i64 w0)), (1, .one (.str w1)), (4, .one (.ptr 4 0)), (6, .one (.int .i64 w2)), (7, .one (.int .i64 w3))] [(4, some (25, [.int .i64 w4, .int .i64 w5]))] : St D0) zq16.K0)) := by kernel_rfl
def zq16.d1 (N : Nat) (v0 : Int) (v1 : ByteArray) (v2 : Bool) (v3 : Int) (v4 : Int) : Option zq16.R := zq16.o1 N v0 v1 v2 v3 v4 ((fun w0 w1 w2 w3 w4 w5 w6 => zq16.d2 N w0 w1 w2 w3 w4 w5 w6)) ((fun w0 w1 w2 w3 w4 w5 => zq16.d3 N w0 w1 w2 w3 w4 w5))
theorem zq16.d1.run (N : Nat) (v0 : Int) (v1 : ByteArray) (v2 : Bool) (v3 : Int) (v4 : Int) : runC zq16.C (zq16.O N) N zq16.c13 13 (mkSt [(0, .one (.int .i64 v0)), (1, .one (.str v1)), (4, .one (.ptr 4 0)), (31, .one (.bool v2))] [(4, some (25, [.int .i64 v3, .int .i64 v4]))] : St D0) (zq16.K13 N) = zq16.d1 N v0 v1 v2 v3 v4 := by
  unfold zq16.d1; exact (zq16.o1.run N zq16.c31 zq16.c7901 v0 v1 v2 v3 v4).trans (congr (congr rfl (funext fun w0 => funext fun w1 => funext fun w2 => funext fun w3 => funext fun w4 => funext fun w5 => funext fun w6 => zq16.d2.run N w0 w1 w2 w3 w4 w5 w6)) (funext fun w0 => funext fun w1 => funext fun w2 => funext fun w3 => funext fun w4 => funext fun w5 => zq16.d3.run N w0 w1 w2 w3 w4 w5))
def zq16.o0 (N : Nat) (a0 : Int) (a1 : ByteArray) (c1 : Int → ByteArray → Bool → Int → Int → Option zq16.R) : Option zq16.R :=
 (zq36.g N a0).bind fun r1 =>
 bif (!r1) then
  c1 a0 a1 true 0 0
 else
 c1 a0 a1 (decide ((a1.size : Int) < 8)) 0 0
theorem zq16.o0.run (N : Nat) (H13 : Code) (a0 : Int) (a1 : ByteArray) : runC zq16.C (zq16.O N) N (.seq zq16.c2 (.seq (.seq zq16.c12 H13) zq16.c7)) 1 (st0 [.one (.int .i64 a0), .one (.str a1)] [] : St D0) zq16.K0 = zq16.o0 N a0 a1 ((fun w0 w1 w2 w3 w4 => runC zq16.C (zq16.O N) N H13 13 (mkSt [(0, .one (.int .i64 w0)), (1, .one (.str w1)), (4, .one (.ptr 4 0)), (31, .one (.bool w2))] [(4, some (25, [.int .i64 w3, .int .i64 w4]))] : St D0) (onN (fun s => zq16.C.tidy 6 s (fun s' => runC zq16.C (zq16.O N) N zq16.c7 7 s' zq16.K0)) zq16.K0))) := by kernel_rfl
def zq16.g (N : Nat) (a0 : Int) (a1 : ByteArray) : Option zq16.R := zq16.o0 N a0 a1 ((fun w0 w1 w2 w3 w4 => zq16.d1 N w0 w1 w2 w3 w4))
theorem zq16.c1_0 : zq16.c1 = (.seq zq16.c2 (.seq (.seq zq16.c12 zq16.c13) zq16.c7)) := by kernel_rfl
theorem zq16.g.run (N : Nat) (a0 : Int) (a1 : ByteArray) : runC zq16.C (zq16.O N) N zq16.c1 1 (st0 [.one (.int .i64 a0), .one (.str a1)] [] : St D0) zq16.K0 = zq16.g N a0 a1 := by
  rw [zq16.c1_0]; unfold zq16.g; exact (zq16.o0.run N zq16.c13 a0 a1).trans (congr rfl (funext fun w0 => funext fun w1 => funext fun w2 => funext fun w3 => funext fun w4 => zq16.d1.run N w0 w1 w2 w3 w4))
theorem zq16.good (N : Nat) (a0 : Int) (a1 : ByteArray) (r : zq16.R) (h : zq16.g N a0 a1 = some r) : Go.PM.Good Tryz.prog T0 25 [.one (.int .i64 a0), .one (.str a1)] [] (zq16.sig.ret r) (zq16.sig.bs r) :=
  good_fn tabOk0 mixed0 zq16.sig (zq16.E N) Tryz.func25 (by kernel_rfl) (by kernel_rfl) 713623846363364534323867243649489114482210803 0 0 [(12, [0, 1, 4, 31], [4]), (30, [0, 1, 4, 6, 7], [4]), (506, [0, 1, 4, 6, 7, 16, 74, 75, 76], [4]), (508, [0, 1, 4, 6, 7, 16, 113], [4]), (4090, [4, 21, 149], [4, 21]), (7900, [0, 1, 4, 12, 14, 63], [4])] 279136710100675558372219274963812913734746112 false [] [(true, [.any, .any]), (false, [.any])] (by kernel_rfl) rfl rfl ((zq16.g.run N a0 a1).trans h)
def zq16.ent (N : Nat) : Ent Tryz.prog T0 := mkEnt 25 [(false, [.any]), (false, [.any])] zq16.sig (fun t => zq16.g N t.1 t.2) (fun t r h => zq16.good N t.1 t.2 r h)
/-! ### zq103 -/
abbrev zq103.R : Type := Int × List Int × Int × Int
abbrev zq103.sig : Sig := ⟨[(false, 1)], [(77, 3)], [.ptr 0 0, .sl false 5, .int .i64, .int .u64], [(false, 1)], [(77, 3)], [.int .i64, .sl false 5, .int .i64, .int .u64]⟩
def zq103.C : Cfg D0 := ⟨Tryz.prog, T0, 9007199254749197, 0, 62, 1, [(14, [0, 3], [0])], 36328151978361104, false, []⟩
def zq103.E (N : Nat) : List (Ent Tryz.prog T0) := []
def zq103.O (N : Nat) : Orc D0 zq103.R := orcOf (zq103.E N)
def zq103.K0 : Ex → St D0 → Option zq103.R := exitK zq103.C Tryz.f125.results.toList [(false, [.any])] (decOut zq103.sig)
def zq103.c1 : Code := codeAt (Tryz.f125.body.getD .skip) []
def zq103.c2 : Code := codeAt (Tryz.f125.body.getD .skip) [false]
def zq103.c6 : Code := codeAt (Tryz.f125.body.getD .skip) [true, false]
def zq103.c14 : Code := codeAt (Tryz.f125.body.getD .skip) [true, true, false]
def zq103.c15 : Code := codeAt (Tryz.f125.body.getD .skip) [true, true, true]
def zq103.K15 (N : Nat) : Ex → St D0 → Option zq103.R := zq103.K0
def zq103.o1 (N : Nat) (v0 : Int) (v1 : List Int) (v2 : Int) (v3 : Int) : Option zq103.R :=
 bif (decide ((w64 (v2 + 1)) ≤ (v1.length : Int))) then
  some (v0, v1, (w64 (v2 + 1)), ((IntKind.wrap .u64) (((IntKind.wrap .u64) (((IntKind.wrap .u64) (v3 * 6364136223846793005)) + ((IntKind.wrap .u64) v0))) + 1442695040888963407)))
 else
 some ((w64 (andK .u64 (shrK .u64 ((IntKind.wrap .u64) (((IntKind.wrap .u64) (((IntKind.wrap .u64) (v3 * 6364136223846793005)) + ((IntKind.wrap .u64) v0))) + 1442695040888963407)) 40) 255)), v1, (w64 (v2 + 1)), ((IntKind.wrap .u64) (((IntKind.wrap .u64) (((IntKind.wrap .u64) (v3 * 6364136223846793005)) + ((IntKind.wrap .u64) v0))) + 1442695040888963407)))
theorem zq103.o1.run (N : Nat) (v0 : Int) (v1 : List Int) (v2 : Int) (v3 : Int) : runC zq103.C (zq103.O N) N zq103.c15 15 (mkSt [(0, .one (.ptr 0 0)), (3, .one (.int .i64 v0))] [(0, some (77, [.sl false 5 v1, .int .i64 v2, .int .u64 v3]))] : St D0) zq103.K0 = zq103.o1 N v0 v1 v2 v3 := by kernel_rfl
def zq103.d1 (N : Nat) (v0 : Int) (v1 : List Int) (v2 : Int) (v3 : Int) : Option zq103.R := zq103.o1 N v0 v1 v2 v3
theorem zq103.d1.run (N : Nat) (v0 : Int) (v1 : List Int) (v2 : Int) (v3 : Int) : runC zq103.C (zq103.O N) N zq103.c15 15 (mkSt [(0, .one (.ptr 0 0)), (3, .one (.int .i64 v0))] [(0, some (77, [.sl false 5 v1, .int .i64 v2, .int .u64 v3]))] : St D0) (zq103.K15 N) = zq103.d1 N v0 v1 v2 v3 := by
  exact (zq103.o1.run N v0 v1 v2 v3).trans rfl
def zq103.o0 (N : Nat) (b0_0 : List Int) (b0_1 : Int) (b0_2 : Int) (c1 : Int → (List Int) → Int → Int → Option zq103.R) : Option zq103.R :=
 bif (decide (b0_1 < (b0_0.length : Int))) then
  bif (decide (0 ≤ b0_1)) then
   bif (decide (b0_1 < (b0_0.length : Int))) then
    (b0_0[(b0_1 : Int).toNat]?).bind fun x1 =>
    c1 (w64 x1) b0_0 b0_1 b0_2
   else
   none
  else
  none
 else
 c1 0 b0_0 b0_1 b0_2
theorem zq103.o0.run (N : Nat) (H15 : Code) (b0_0 : List Int) (b0_1 : Int) (b0_2 : Int) : runC zq103.C (zq103.O N) N (.seq zq103.c2 (.seq zq103.c6 (.seq zq103.c14 H15))) 1 (st0 [.one (.ptr 0 0)] [(77, [.sl false 5 b0_0, .int .i64 b0_1, .int .u64 b0_2])] : St D0) zq103.K0 = zq103.o0 N b0_0 b0_1 b0_2 ((fun w0 w1 w2 w3 => runC zq103.C (zq103.O N) N H15 15 (mkSt [(0, .one (.ptr 0 0)), (3, .one (.int .i64 w0))] [(0, some (77, [.sl false 5 w1, .int .i64 w2, .int .u64 w3]))] : St D0) zq103.K0)) := by kernel_rfl
def zq103.g (N : Nat) (b0_0 : List Int) (b0_1 : Int) (b0_2 : Int) : Option zq103.R := zq103.o0 N b0_0 b0_1 b0_2 ((fun w0 w1 w2 w3 => zq103.d1 N w0 w1 w2 w3))
theorem zq103.c1_0 : zq103.c1 = (.seq zq103.c2 (.seq zq103.c6 (.seq zq103.c14 zq103.c15))) := by kernel_rfl
theorem zq103.g.run (N : Nat) (b0_0 : List Int) (b0_1 : Int) (b0_2 : Int) : runC zq103.C (zq103.O N) N zq103.c1 1 (st0 [.one (.ptr 0 0)] [(77, [.sl false 5 b0_0, .int .i64 b0_1, .int .u64 b0_2])] : St D0) zq103.K0 = zq103.g N b0_0 b0_1 b0_2 := by
  rw [zq103.c1_0]; unfold zq103.g; exact (zq103.o0.run N zq103.c15 b0_0 b0_1 b0_2).trans (congr rfl (funext fun w0 => funext fun w1 => funext fun w2 => funext fun w3 => zq103.d1.run N w0 w1 w2 w3))
theorem zq103.good (N : Nat) (b0_0 : List Int) (b0_1 : Int) (b0_2 : Int) (r : zq103.R) (h : zq103.g N b0_0 b0_1 b0_2 = some r) : Go.PM.Good Tryz.prog T0 125 [.one (.ptr 0 0)] [(77, [.sl false 5 b0_0, .int .i64 b0_1, .int .u64 b0_2])] (zq103.sig.ret r) (zq103.sig.bs r) :=
  good_fn tabOk0 mixed0 zq103.sig (zq103.E N) Tryz.func125 (by kernel_rfl) (by kernel_rfl) 9007199254749197 0 1 [(14, [0, 3], [0])] 36328151978361104 false [] [(false, [.any])] (by kernel_rfl) rfl rfl ((zq103.g.run N b0_0 b0_1 b0_2).trans h)
def zq103.ent (N : Nat) : Ent Tryz.prog T0 := mkEnt 125 [(false, [.any])] zq103.sig (fun t => zq103.g N t.2.1 t.2.2.1 t.2.2.2) (fun t r h => zq103.good N t.2.1 t.2.2.1 t.2.2.2 r h)
/-! ### zq105 -/
abbrev zq105.R : Type := Int × List Int × Int × Int
abbrev zq105.sig : Sig := ⟨[(false, 1), (false, 1)], [(77, 3)], [.ptr 0 0, .int .i64, .sl false 5, .int .i64, .int .u64], [(false, 1)], [(77, 3)], [.int .i64, .sl false 5, .int .i64, .int .u64]⟩
def zq105.C : Cfg D0 := ⟨Tryz.prog, T0, 2227, 0, 20, 1, [(30, [1, 5], [0])], 415040, false, []⟩
def zq105.E (N : Nat) : List (Ent Tryz.prog T0) := [zq103.ent N]
def zq105.O (N : Nat) : Orc D0 zq105.R := orcOf (zq105.E N)
def zq105.K0 : Ex → St D0 → Option zq105.R := exitK zq105.C Tryz.f101.results.toList [(false, [.any])] (decOut zq105.sig)
def zq105.c1 : Code := codeAt (Tryz.f101.body.getD .skip) []
def zq105.c2 : Code := codeAt (Tryz.f101.body.getD .skip) [false]
def zq105.c6 : Code := codeAt (Tryz.f101.body.getD .skip) [true, false]
def zq105.c14 : Code := codeAt (Tryz.f101.body.getD .skip) [true, true, false]
def zq105.c30 : Code := codeAt (Tryz.f101.body.getD .skip) [true, true, true, false]
def zq105.c31 : Code := codeAt (Tryz.f101.body.getD .skip) [true, true, true, true]
def zq105.K31 (N : Nat) : Ex → St D0 → Option zq105.R := zq105.K0
def zq105.o1 (N : Nat) (v0 : Int) (v1 : Int) (v2 : List Int) (v3 : Int) (v4 : Int) : Option zq105.R :=
 bif (v0 == 0) then
  none
 else
 some ((Int.tmod v1 v0), v2, v3, v4)
theorem zq105.o1.run (N : Nat) (v0 : Int) (v1 : Int) (v2 : List Int) (v3 : Int) (v4 : Int) : runC zq105.C (zq105.O N) N zq105.c31 31 (mkSt [(1, .one (.int .i64 v0)), (5, .one (.int .i64 v1))] [(0, some (77, [.sl false 5 v2, .int .i64 v3, .int .u64 v4]))] : St D0) zq105.K0 = zq105.o1 N v0 v1 v2 v3 v4 := by kernel_rfl
def zq105.d1 (N : Nat) (v0 : Int) (v1 : Int) (v2 : List Int) (v3 : Int) (v4 : Int) : Option zq105.R := zq105.o1 N v0 v1 v2 v3 v4
theorem zq105.d1.run (N : Nat) (v0 : Int) (v1 : Int) (v2 : List Int) (v3 : Int) (v4 : Int) : runC zq105.C (zq105.O N) N zq105.c31 31 (mkSt [(1, .one (.int .i64 v0)), (5, .one (.int .i64 v1))] [(0, some (77, [.sl false 5 v2, .int .i64 v3, .int .u64 v4]))] : St D0) (zq105.K31 N) = zq105.d1 N v0 v1 v2 v3 v4 := by
  exact (zq105.o1.run N v0 v1 v2 v3 v4).trans rfl
def zq105.o0 (N : Nat) (a1 : Int) (b0_0 : List Int) (b0_1 : Int) (b0_2 : Int) (c1 : Int → Int → (List Int) → Int → Int → Option zq105.R) : Option zq105.R :=
 bif (decide (a1 ≤ 1)) then
  some (0, b0_0, b0_1, b0_2)
 else
 (zq103.g N b0_0 b0_1 b0_2).bind fun r1 =>
 bif (decide (a1 > 200)) then
  (zq103.g N r1.2.1 r1.2.2.1 r1.2.2.2).bind fun r2 =>
  c1 a1 (w64 ((w64 (r1.1 * 256)) + r2.1)) r2.2.1 r2.2.2.1 r2.2.2.2
 else
 c1 a1 r1.1 r1.2.1 r1.2.2.1 r1.2.2.2
theorem zq105.o0.run (N : Nat) (H31 : Code) (a1 : Int) (b0_0 : List Int) (b0_1 : Int) (b0_2 : Int) : runC zq105.C (zq105.O N) N (.seq zq105.c2 (.seq zq105.c6 (.seq zq105.c14 (.seq zq105.c30 H31)))) 1 (st0 [.one (.ptr 0 0), .one (.int .i64 a1)] [(77, [.sl false 5 b0_0, .int .i64 b0_1, .int .u64 b0_2])] : St D0) zq105.K0 = zq105.o0 N a1 b0_0 b0_1 b0_2 ((fun w0 w1 w2 w3 w4 => runC zq105.C (zq105.O N) N H31 31 (mkSt [(1, .one (.int .i64 w0)), (5, .one (.int .i64 w1))] [(0, some (77, [.sl false 5 w2, .int .i64 w3, .int .u64 w4]))] : St D0) zq105.K0)) := by kernel_rfl
def zq105.B15 (N : Nat) : St D0 → Option zq105.R := fun s' => runC zq105.C (zq105.O N) N zq105.c31 31 s' (zq105.K31 N)
def zq105.g (N : Nat) (a1 : Int) (b0_0 : List Int) (b0_1 : Int) (b0_2 : Int) : Option zq105.R := zq105.o0 N a1 b0_0 b0_1 b0_2 ((fun w0 w1 w2 w3 w4 => zq105.d1 N w0 w1 w2 w3 w4))
theorem zq105.c1_0 : zq105.c1 = (.seq zq105.c2 (.seq zq105.c6 (.seq zq105.c14 (.seq zq105.c30 zq105.c31)))) := by kernel_rfl
theorem zq105.g.run (N : Nat) (a1 : Int) (b0_0 : List Int) (b0_1 : Int) (b0_2 : Int) : runC zq105.C (zq105.O N) N zq105.c1 1 (st0 [.one (.ptr 0 0), .one (.int .i64 a1)] [(77, [.sl false 5 b0_0, .int .i64 b0_1, .int .u64 b0_2])] : St D0) zq105.K0 = zq105.g N a1 b0_0 b0_1 b0_2 := by
  rw [zq105.c1_0]; unfold zq105.g; exact (zq105.o0.run N zq105.c31 a1 b0_0 b0_1 b0_2).trans (congr rfl (funext fun w0 => funext fun w1 => funext fun w2 => funext fun w3 => funext fun w4 => zq105.d1.run N w0 w1 w2 w3 w4))
theorem zq105.good (N : Nat) (a1 : Int) (b0_0 : List Int) (b0_1 : Int) (b0_2 : Int) (r : zq105.R) (h : zq105.g N a1 b0_0 b0_1 b0_2 = some r) : Go.PM.Good Tryz.prog T0 101 [.one (.ptr 0 0), .one (.int .i64 a1)] [(77, [.sl false 5 b0_0, .int .i64 b0_1, .int .u64 b0_2])] (zq105.sig.ret r) (zq105.sig.bs r) :=
  good_fn tabOk0 mixed0 zq105.sig (zq105.E N) Tryz.func101 (by kernel_rfl) (by kernel_rfl) 2227 0 1 [(30, [1, 5], [0])] 415040 false [] [(false, [.any])] (by kernel_rfl) rfl rfl ((zq105.g.run N a1 b0_0 b0_1 b0_2).trans h)
def zq105.ent (N : Nat) : Ent Tryz.prog T0 := mkEnt 101 [(false, [.any]), (false, [.any])] zq105.sig (fun t => zq105.g N t.2.1 t.2.2.1 t.2.2.2.1 t.2.2.2.2) (fun t r h => zq105.good N t.2.1 t.2.2.1 t.2.2.2.1 t.2.2.2.2 r h)
/-! ### zq100 -/
abbrev zq100.R : Type := Int × List Int × Int × Int
abbrev zq100.sig : Sig := ⟨[(false, 1), (false, 1)], [(77, 3)], [.ptr 0 0, .sl false 3, .sl false 5, .int .i64, .int .u64], [(false, 1)], [(77, 3)], [.int .i64, .sl false 5, .int .i64, .int .u64]⟩
def zq100.C : Cfg D0 := ⟨Tryz.prog, T0, 19, 0, 12, 1, [], 224, false, []⟩
def zq100.E (N : Nat) : List (Ent Tryz.prog T0) := [zq105.ent N]
def zq100.O (N : Nat) : Orc D0 zq100.R := orcOf (zq100.E N)
def zq100.K0 : Ex → St D0 → Option zq100.R := exitK zq100.C Tryz.f82.results.toList [(false, [.any])] (decOut zq100.sig)
def zq100.c1 : Code := codeAt (Tryz.f82.body.getD .skip) []
def zq100.o0 (N : Nat) (a1 : List Int) (b0_0 : List Int) (b0_1 : Int) (b0_2 : Int) : Option zq100.R :=
 (zq105.g N (a1.length : Int) b0_0 b0_1 b0_2).bind fun r1 =>
 bif (decide (0 ≤ r1.1)) then
  bif (decide (r1.1 < (a1.length : Int))) then
   (a1[(r1.1 : Int).toNat]?).bind fun x2 =>
   some (x2, r1.2.1, r1.2.2.1, r1.2.2.2)
  else
  none
 else
 none
theorem zq100.o0.run (N : Nat) (a1 : List Int) (b0_0 : List Int) (b0_1 : Int) (b0_2 : Int) : runC zq100.C (zq100.O N) N zq100.c1 1 (st0 [.one (.ptr 0 0), .one (.sl false 3 a1)] [(77, [.sl false 5 b0_0, .int .i64 b0_1, .int .u64 b0_2])] : St D0) zq100.K0 = zq100.o0 N a1 b0_0 b0_1 b0_2 := by kernel_rfl
def zq100.g (N : Nat) (a1 : List Int) (b0_0 : List Int) (b0_1 : Int) (b0_2 : Int) : Option zq100.R := zq100.o0 N a1 b0_0 b0_1 b0_2
theorem zq100.g.run (N : Nat) (a1 : List Int) (b0_0 : List Int) (b0_1 : Int) (b0_2 : Int) : runC zq100.C (zq100.O N) N zq100.c1 1 (st0 [.one (.ptr 0 0), .one (.sl false 3 a1)] [(77, [.sl false 5 b0_0, .int .i64 b0_1, .int .u64 b0_2])] : St D0) zq100.K0 = zq100.g N a1 b0_0 b0_1 b0_2 := by
  exact (zq100.o0.run N a1 b0_0 b0_1 b0_2).trans rfl
theorem zq100.good (N : Nat) (a1 : List Int) (b0_0 : List Int) (b0_1 : Int) (b0_2 : Int) (r : zq100.R) (h : zq100.g N a1 b0_0 b0_1 b0_2 = some r) : Go.PM.Good Tryz.prog T0 82 [.one (.ptr 0 0), .one (.sl false 3 a1)] [(77, [.sl false 5 b0_0, .int .i64 b0_1, .int .u64 b0_2])] (zq100.sig.ret r) (zq100.sig.bs r) :=
  good_fn tabOk0 mixed0 zq100.sig (zq100.E N) Tryz.func82 (by kernel_rfl) (by kernel_rfl) 19 0 1 [] 224 false [] [(false, [.any])] (by kernel_rfl) rfl rfl ((zq100.g.run N a1 b0_0 b0_1 b0_2).trans h)
def zq100.ent (N : Nat) : Ent Tryz.prog T0 := mkEnt 82 [(false, [.any]), (false, [.ro 3])] zq100.sig (fun t => zq100.g N t.2.1 t.2.2.1 t.2.2.2.1 t.2.2.2.2) (fun t r h => zq100.good N t.2.1 t.2.2.1 t.2.2.2.1 t.2.2.2.2 r h)
/-! ### zq104 -/
abbrev zq104.R : Type := Bool × List Int × Int × Int
abbrev zq104.sig : Sig := ⟨[(false, 1), (false, 1)], [(77, 3)], [.ptr 0 0, .int .i64, .sl false 5, .int .i64, .int .u64], [(false, 1)], [(77, 3)], [.bool, .sl false 5, .int .i64, .int .u64]⟩
def zq104.C : Cfg D0 := ⟨Tryz.prog, T0, 19, 0, 9, 1, [], 96, false, []⟩
def zq104.E (N : Nat) : List (Ent Tryz.prog T0) := [zq105.ent N]
def zq104.O (N : Nat) : Orc D0 zq104.R := orcOf (zq104.E N)
def zq104.K0 : Ex → St D0 → Option zq104.R := exitK zq104.C Tryz.f87.results.toList [(false, [.any])] (decOut zq104.sig)
def zq104.c1 : Code := codeAt (Tryz.f87.body.getD .skip) []
def zq104.o0 (N : Nat) (a1 : Int) (b0_0 : List Int) (b0_1 : Int) (b0_2 : Int) : Option zq104.R :=
 (zq105.g N a1 b0_0 b0_1 b0_2).bind fun r1 =>
 some ((r1.1 == 0), r1.2.1, r1.2.2.1, r1.2.2.2)
theorem zq104.o0.run (N : Nat) (a1 : Int) (b0_0 : List Int) (b0_1 : Int) (b0_2 : Int) : runC zq104.C (zq104.O N) N zq104.c1 1 (st0 [.one (.ptr 0 0), .one (.int .i64 a1)] [(77, [.sl false 5 b0_0, .int .i64 b0_1, .int .u64 b0_2])] : St D0) zq104.K0 = zq104.o0 N a1 b0_0 b0_1 b0_2 := by kernel_rfl
def zq104.g (N : Nat) (a1 : Int) (b0_0 : List Int) (b0_1 : Int) (b0_2 : Int) : Option zq104.R := zq104.o0 N a1 b0_0 b0_1 b0_2
theorem zq104.g.run (N : Nat) (a1 : Int) (b0_0 : List Int) (b0_1 : Int) (b0_2 : Int) : runC zq104.C (zq104.O N) N zq104.c1 1 (st0 [.one (.ptr 0 0), .one (.int .i64 a1)] [(77, [.sl false 5 b0_0, .int .i64 b0_1, .int .u64 b0_2])] : St D0) zq104.K0 = zq104.g N a1 b0_0 b0_1 b0_2 := by
  exact (zq104.o0.run N a1 b0_0 b0_1 b0_2).trans rfl
theorem zq104.good (N : Nat) (a1 : Int) (b0_0 : List Int) (b0_1 : Int) (b0_2 : Int) (r : zq104.R) (h : zq104.g N a1 b0_0 b0_1 b0_2 = some r) : Go.PM.Good Tryz.prog T0 87 [.one (.ptr 0 0), .one (.int .i64 a1)] [(77, [.sl false 5 b0_0, .int .i64 b0_1, .int .u64 b0_2])] (zq104.sig.ret r) (zq104.sig.bs r) :=
  good_fn tabOk0 mixed0 zq104.sig (zq104.E N) Tryz.func87 (by kernel_rfl) (by kernel_rfl) 19 0 1 [] 96 false [] [(false, [.any])] (by kernel_rfl) rfl rfl ((zq104.g.run N a1 b0_0 b0_1 b0_2).trans h)
def zq104.ent (N : Nat) : Ent Tryz.prog T0 := mkEnt 87 [(false, [.any]), (false, [.any])] zq104.sig (fun t => zq104.g N t.2.1 t.2.2.1 t.2.2.2.1 t.2.2.2.2) (fun t r h => zq104.good N t.2.1 t.2.2.1 t.2.2.2.1 t.2.2.2.2 r h)
/-! ### zq111 -/
abbrev zq111.R : Type := Int
abbrev zq111.sig : Sig := ⟨[(false, 1), (false, 1)], [], [.int .i64, .int .i64], [(false, 1)], [], [.int .i64]⟩
def zq111.C : Cfg D0 := ⟨Tryz.prog, T0, 147, 0, 10, 0, [], 96, false, []⟩
def zq111.E (N : Nat) : List (Ent Tryz.prog T0) := []
def zq111.O (N : Nat) : Orc D0 zq111.R := orcOf (zq111.E N)
def zq111.K0 : Ex → St D0 → Option zq111.R := exitK zq111.C Tryz.f124.results.toList [(false, [.any])] (decOut zq111.sig)
def zq111.c1 : Code := codeAt (Tryz.f124.body.getD .skip) []
def zq111.o0 (N : Nat) (a0 : Int) (a1 : Int) : Option zq111.R :=
 bif (decide (a0 > a1)) then
  some (a0)
 else
 some (a1)
theorem zq111.o0.run (N : Nat) (a0 : Int) (a1 : Int) : runC zq111.C (zq111.O N) N zq111.c1 1 (st0 [.one (.int .i64 a0), .one (.int .i64 a1)] [] : St D0) zq111.K0 = zq111.o0 N a0 a1 := by kernel_rfl
def zq111.g (N : Nat) (a0 : Int) (a1 : Int) : Option zq111.R := zq111.o0 N a0 a1
theorem zq111.g.run (N : Nat) (a0 : Int) (a1 : Int) : runC zq111.C (zq111.O N) N zq111.c1 1 (st0 [.one (.int .i64 a0), .one (.int .i64 a1)] [] : St D0) zq111.K0 = zq111.g N a0 a1 := by
  exact (zq111.o0.run N a0 a1).trans rfl
theorem zq111.good (N : Nat) (a0 : Int) (a1 : Int) (r : zq111.R) (h : zq111.g N a0 a1 = some r) : Go.PM.Good Tryz.prog T0 124 [.one (.int .i64 a0), .one (.int .i64 a1)] [] (zq111.sig.ret r) (zq111.sig.bs r) :=
  good_fn tabOk0 mixed0 zq111.sig (zq111.E N) Tryz.func124 (by kernel_rfl) (by kernel_rfl) 147 0 0 [] 96 false [] [(false, [.any])] (by kernel_rfl) rfl rfl ((zq111.g.run N a0 a1).trans h)
def zq111.ent (N : Nat) : Ent Tryz.prog T0 := mkEnt 124 [(false, [.any]), (false, [.any])] zq111.sig (fun t => zq111.g N t.1 t.2) (fun t r h => zq111.good N t.1 t.2 r h)
/-! ### zq102 -/
abbrev zq102.R : Type := Int × List Int × Int × Int
abbrev zq102.sig : Sig := ⟨[(false, 1)], [(77, 3)], [.ptr 0 0, .sl false 5, .int .i64, .int .u64], [(false, 1)], [(77, 3)], [.int .i64, .sl false 5, .int .i64, .int .u64]⟩
def zq102.C : Cfg D0 := ⟨Tryz.prog, T0, 5, 0, 6, 1, [], 8, false, []⟩
def zq102.E (N : Nat) : List (Ent Tryz.prog T0) := [zq100.ent N]
def zq102.O (N : Nat) : Orc D0 zq102.R := orcOf (zq102.E N)
def zq102.K0 : Ex → St D0 → Option zq102.R := exitK zq102.C Tryz.f56.results.toList [(false, [.any])] (decOut zq102.sig)
def zq102.c1 : Code := codeAt (Tryz.f56.body.getD .skip) []
def zq102.o0 (N : Nat) (b0_0 : List Int) (b0_1 : Int) (b0_2 : Int) : Option zq102.R :=
 (zq100.g N ([12, 24, 10, 12, 24, 6, 2, 3, 5, 12, 1, 25, 0] : List Int) b0_0 b0_1 b0_2).bind fun r1 =>
 some (r1.1, r1.2.1, r1.2.2.1, r1.2.2.2)
theorem zq102.o0.run (N : Nat) (b0_0 : List Int) (b0_1 : Int) (b0_2 : Int) : runC zq102.C (zq102.O N) N zq102.c1 1 (st0 [.one (.ptr 0 0)] [(77, [.sl false 5 b0_0, .int .i64 b0_1, .int .u64 b0_2])] : St D0) zq102.K0 = zq102.o0 N b0_0 b0_1 b0_2 := by kernel_rfl
def zq102.g (N : Nat) (b0_0 : List Int) (b0_1 : Int) (b0_2 : Int) : Option zq102.R := zq102.o0 N b0_0 b0_1 b0_2
theorem zq102.g.run (N : Nat) (b0_0 : List Int) (b0_1 : Int) (b0_2 : Int) : runC zq102.C (zq102.O N) N zq102.c1 1 (st0 [.one (.ptr 0 0)] [(77, [.sl false 5 b0_0, .int .i64 b0_1, .int .u64 b0_2])] : St D0) zq102.K0 = zq102.g N b0_0 b0_1 b0_2 := by
  exact (zq102.o0.run N b0_0 b0_1 b0_2).trans rfl
theorem zq102.good (N : Nat) (b0_0 : List Int) (b0_1 : Int) (b0_2 : Int) (r : zq102.R) (h : zq102.g N b0_0 b0_1 b0_2 = some r) : Go.PM.Good Tryz.prog T0 56 [.one (.ptr 0 0)] [(77, [.sl false 5 b0_0, .int .i64 b0_1, .int .u64 b0_2])] (zq102.sig.ret r) (zq102.sig.bs r) :=
  good_fn tabOk0 mixed0 zq102.sig (zq102.E N) Tryz.func56 (by kernel_rfl) (by kernel_rfl) 5 0 1 [] 8 false [] [(false, [.any])] (by kernel_rfl) rfl rfl ((zq102.g.run N b0_0 b0_1 b0_2).trans h)
def zq102.ent (N : Nat) : Ent Tryz.prog T0 := mkEnt 56 [(false, [.any])] zq102.sig (fun t => zq102.g N t.2.1 t.2.2.1 t.2.2.2) (fun t r h => zq102.good N t.2.1 t.2.2.1 t.2.2.2 r h)
/-! ### zq108 -/
abbrev zq108.R : Type := Int × Int × List Int × Int × Int
abbrev zq108.sig : Sig := ⟨[(false, 1)], [(77, 3)], [.ptr 0 0, .sl false 5, .int .i64, .int .u64], [(true, 2)], [(77, 3)], [.int .i64, .int .i64, .sl false 5, .int .i64, .int .u64]⟩
def zq108.C : Cfg D0 := ⟨Tryz.prog, T0, 61, 0, 24, 1, [], 722688, false, []⟩
def zq108.E (N : Nat) : List (Ent Tryz.prog T0) := [zq105.ent N, zq92.ent N]
def zq108.O (N : Nat) : Orc D0 zq108.R := orcOf (zq108.E N)
def zq108.K0 : Ex → St D0 → Option zq108.R := exitK zq108.C Tryz.f86.results.toList [(true, [.any, .any])] (decOut zq108.sig)
def zq108.c1 : Code := codeAt (Tryz.f86.body.getD .skip) []
def zq108.o0 (N : Nat) (b0_0 : List Int) (b0_1 : Int) (b0_2 : Int) : Option zq108.R :=
 (zq105.g N (([1, 2, 3, 4, 6, 8, 11, 12, 13, 24, 60, 143, 720, 719, 7, 5] : List Int).length : Int) b0_0 b0_1 b0_2).bind fun r1 =>
 bif (decide (0 ≤ r1.1)) then
  bif (decide (r1.1 < (([1, 2, 3, 4, 6, 8, 11, 12, 13, 24, 60, 143, 720, 719, 7, 5] : List Int).length : Int))) then
   (([1, 2, 3, 4, 6, 8, 11, 12, 13, 24, 60, 143, 720, 719, 7, 5] : List Int)[(r1.1 : Int).toNat]?).bind fun x2 =>
   (zq105.g N x2 r1.2.1 r1.2.2.1 r1.2.2.2).bind fun r3 =>
   (zq92.g N r3.1 x2).bind fun r4 =>
   some (r4.1, r4.2.1, r3.2.1, r3.2.2.1, r3.2.2.2)
  else
  none
 else
 none
theorem zq108.o0.run (N : Nat) (b0_0 : List Int) (b0_1 : Int) (b0_2 : Int) : runC zq108.C (zq108.O N) N zq108.c1 1 (st0 [.one (.ptr 0 0)] [(77, [.sl false 5 b0_0, .int .i64 b0_1, .int .u64 b0_2])] : St D0) zq108.K0 = zq108.o0 N b0_0 b0_1 b0_2 := by kernel_rfl
def zq108.g (N : Nat) (b0_0 : List Int) (b0_1 : Int) (b0_2 : Int) : Option zq108.R := zq108.o0 N b0_0 b0_1 b0_2
theorem zq108.g.run (N : Nat) (b0_0 : List Int) (b0_1 : Int) (b0_2 : Int) : runC zq108.C (zq108.O N) N zq108.c1 1 (st0 [.one (.ptr 0 0)] [(77, [.sl false 5 b0_0, .int .i64 b0_1, .int .u64 b0_2])] : St D0) zq108.K0 = zq108.g N b0_0 b0_1 b0_2 := by
  exact (zq108.o0.run N b0_0 b0_1 b0_2).trans rfl
theorem zq108.good (N : Nat) (b0_0 : List Int) (b0_1 : Int) (b0_2 : Int) (r : zq108.R) (h : zq108.g N b0_0 b0_1 b0_2 = some r) : Go.PM.Good Tryz.prog T0 86 [.one (.ptr 0 0)] [(77, [.sl false 5 b0_0, .int .i64 b0_1, .int .u64 b0_2])] (zq108.sig.ret r) (zq108.sig.bs r) :=
  good_fn tabOk0 mixed0 zq108.sig (zq108.E N) Tryz.func86 (by kernel_rfl) (by kernel_rfl) 61 0 1 [] 722688 false [] [(true, [.any, .any])] (by kernel_rfl) rfl rfl ((zq108.g.run N b0_0 b0_1 b0_2).trans h)
def zq108.ent (N : Nat) : Ent Tryz.prog T0 := mkEnt 86 [(false, [.any])] zq108.sig (fun t => zq108.g N t.2.1 t.2.2.1 t.2.2.2) (fun t r h => zq108.good N t.2.1 t.2.2.1 t.2.2.2 r h)
/-! ### zq109 -/
abbrev zq109.R : Type := Int × Int × List Int × Int × Int
abbrev zq109.sig : Sig := ⟨[(false, 1)], [(77, 3)], [.ptr 0 0, .sl false 5, .int .i64, .int .u64], [(true, 2)], [(77, 3)], [.int .i64, .int .i64, .sl false 5, .int .i64, .int .u64]⟩
def zq109.C : Cfg D0 := ⟨Tryz.prog, T0, 1065013, 0, 28, 1, [], 71369864, false, []⟩
def zq109.E (N : Nat) : List (Ent Tryz.prog T0) := [zq105.ent N, zq100.ent N, zq108.ent N]
def zq109.O (N : Nat) : Orc D0 zq109.R := orcOf (zq109.E N)
def zq109.K0 : Ex → St D0 → Option zq109.R := exitK zq109.C Tryz.f57.results.toList [(true, [.any, .any])] (decOut zq109.sig)
def zq109.c1 : Code := codeAt (Tryz.f57.body.getD .skip) []
def zq109.o0 (N : Nat) (b0_0 : List Int) (b0_1 : Int) (b0_2 : Int) : Option zq109.R :=
 (zq105.g N 16 b0_0 b0_1 b0_2).bind fun r1 =>
 bif (r1.1 == 0) then
  (zq100.g N ([(-1), 0, 2, 5, 4611686018427387904] : List Int) r1.2.1 r1.2.2.1 r1.2.2.2).bind fun r2 =>
  (zq100.g N ([0, 1, 2, 4, 1000000, 1000001, (-3)] : List Int) r2.2.1 r2.2.2.1 r2.2.2.2).bind fun r3 =>
  some (r2.1, r3.1, r3.2.1, r3.2.2.1, r3.2.2.2)
 else
 bif (r1.1 == 1) then
  (zq100.g N ([1, 999999, 7] : List Int) r1.2.1 r1.2.2.1 r1.2.2.2).bind fun r4 =>
  some (r4.1, 1000000, r4.2.1, r4.2.2.1, r4.2.2.2)
 else
 bif (r1.1 == 2) then
  (zq105.g N 900000 r1.2.1 r1.2.2.1 r1.2.2.2).bind fun r5 =>
  some ((w64 (1 + r5.1)), 999983, r5.2.1, r5.2.2.1, r5.2.2.2)
 else
 (zq108.g N r1.2.1 r1.2.2.1 r1.2.2.2).bind fun r6 =>
 some (r6.1, r6.2.1, r6.2.2.1, r6.2.2.2.1, r6.2.2.2.2)
theorem zq109.o0.run (N : Nat) (b0_0 : List Int) (b0_1 : Int) (b0_2 : Int) : runC zq109.C (zq109.O N) N zq109.c1 1 (st0 [.one (.ptr 0 0)] [(77, [.sl false 5 b0_0, .int .i64 b0_1, .int .u64 b0_2])] : St D0) zq109.K0 = zq109.o0 N b0_0 b0_1 b0_2 := by kernel_rfl
def zq109.g (N : Nat) (b0_0 : List Int) (b0_1 : Int) (b0_2 : Int) : Option zq109.R := zq109.o0 N b0_0 b0_1 b0_2
theorem zq109.g.run (N : Nat) (b0_0 : List Int) (b0_1 : Int) (b0_2 : Int) : runC zq109.C (zq109.O N) N zq109.c1 1 (st0 [.one (.ptr 0 0)] [(77, [.sl false 5 b0_0, .int .i64 b0_1, .int .u64 b0_2])] : St D0) zq109.K0 = zq109.g N b0_0 b0_1 b0_2 := by
  exact (zq109.o0.run N b0_0 b0_1 b0_2).trans rfl
theorem zq109.good (N : Nat) (b0_0 : List Int) (b0_1 : Int) (b0_2 : Int) (r : zq109.R) (h : zq109.g N b0_0 b0_1 b0_2 = some r) : Go.PM.Good Tryz.prog T0 57 [.one (.ptr 0 0)] [(77, [.sl false 5 b0_0, .int .i64 b0_1, .int .u64 b0_2])] (zq109.sig.ret r) (zq109.sig.bs r) :=
  good_fn tabOk0 mixed0 zq109.sig (zq109.E N) Tryz.func57 (by kernel_rfl) (by kernel_rfl) 1065013 0 1 [] 71369864 false [] [(true, [.any, .any])] (by kernel_rfl) rfl rfl ((zq109.g.run N b0_0 b0_1 b0_2).trans h)
def zq109.ent (N : Nat) : Ent Tryz.prog T0 := mkEnt 57 [(false, [.any])] zq109.sig (fun t => zq109.g N t.2.1 t.2.2.1 t.2.2.2) (fun t r h => zq109.good N t.2.1 t.2.2.1 t.2.2.2 r h)
/-! ### zq59 -/
abbrev zq59.R : Type := Int × Int × Int
abbrev zq59.sig : Sig := ⟨[(false, 1)], [], [.sl false 5], [(false, 1), (true, 2)], [], [.int .i64, .int .i64, .int .i64]⟩
def zq59.C : Cfg D0 := ⟨Tryz.prog, T0, 29, 0, 12, 0, [], 1280, false, []⟩
def zq59.E (N : Nat) : List (Ent Tryz.prog T0) := [zq102.ent N, zq109.ent N]
def zq59.O (N : Nat) : Orc D0 zq59.R := orcOf (zq59.E N)
def zq59.K0 : Ex → St D0 → Option zq59.R := exitK zq59.C Tryz.f6.results.toList [(false, [.any]), (true, [.any, .any])] (decOut zq59.sig)
def zq59.c1 : Code := codeAt (Tryz.f6.body.getD .skip) []
def zq59.o0 (N : Nat) (a0 : List Int) : Option zq59.R :=
 (zq102.g N a0 0 0).bind fun r1 =>
 (zq109.g N r1.2.1 r1.2.2.1 r1.2.2.2).bind fun r2 =>
 some (r1.1, r2.1, r2.2.1)
theorem zq59.o0.run (N : Nat) (a0 : List Int) : runC zq59.C (zq59.O N) N zq59.c1 1 (st0 [.one (.sl false 5 a0)] [] : St D0) zq59.K0 = zq59.o0 N a0 := by kernel_rfl
def zq59.g (N : Nat) (a0 : List Int) : Option zq59.R := zq59.o0 N a0
theorem zq59.g.run (N : Nat) (a0 : List Int) : runC zq59.C (zq59.O N) N zq59.c1 1 (st0 [.one (.sl false 5 a0)] [] : St D0) zq59.K0 = zq59.g N a0 := by
  exact (zq59.o0.run N a0).trans rfl
theorem zq59.good (N : Nat) (a0 : List Int) (r : zq59.R) (h : zq59.g N a0 = some r) : Go.PM.Good Tryz.prog T0 6 [.one (.sl false 5 a0)] [] (zq59.sig.ret r) (zq59.sig.bs r) :=
  good_fn tabOk0 mixed0 zq59.sig (zq59.E N) Tryz.func6 (by kernel_rfl) (by kernel_rfl) 29 0 0 [] 1280 false [] [(false, [.any]), (true, [.any, .any])] (by kernel_rfl) rfl rfl ((zq59.g.run N a0).trans h)
def zq59.ent (N : Nat) : Ent Tryz.prog T0 := mkEnt 6 [(false, [.ro 5])] zq59.sig (fun t => zq59.g N t) (fun t r h => zq59.good N t r h)
/-! ### zq66 -/
abbrev zq66.R : Type := Int × Int × Int × Int
abbrev zq66.sig : Sig := ⟨[(false, 1)], [], [.sl false 5], [(false, 1), (false, 1), (false, 1), (false, 1)], [], [.int .i64, .int .i64, .int .i64, .int .i64]⟩
def zq66.C : Cfg D0 := ⟨Tryz.prog, T0, 125, 0, 21, 0, [], 300032, false, []⟩
def zq66.E (N : Nat) : List (Ent Tryz.prog T0) := [zq102.ent N, zq100.ent N]
def zq66.O (N : Nat) : Orc D0 zq66.R := orcOf (zq66.E N)
def zq66.K0 : Ex → St D0 → Option zq66.R := exitK zq66.C Tryz.f27.results.toList [(false, [.any]), (false, [.any]), (false, [.any]), (false, [.any])] (decOut zq66.sig)
def zq66.c1 : Code := codeAt (Tryz.f27.body.getD .skip) []
def zq66.o0 (N : Nat) (a0 : List Int) : Option zq66.R :=
 (zq102.g N a0 0 0).bind fun r1 =>
 (zq100.g N ([0, 1, 5, 11, 12, 23, 24, (-1)] : List Int) r1.2.1 r1.2.2.1 r1.2.2.2).bind fun r2 =>
 (zq100.g N ([0, 1, 30, 59, 60, (-1)] : List Int) r2.2.1 r2.2.2.1 r2.2.2.2).bind fun r3 =>
 (zq100.g N ([0, 1, 30, 59, 60, (-1)] : List Int) r3.2.1 r3.2.2.1 r3.2.2.2).bind fun r4 =>
 some (r1.1, r2.1, r3.1, r4.1)
theorem zq66.o0.run (N : Nat) (a0 : List Int) : runC zq66.C (zq66.O N) N zq66.c1 1 (st0 [.one (.sl false 5 a0)] [] : St D0) zq66.K0 = zq66.o0 N a0 := by kernel_rfl
def zq66.g (N : Nat) (a0 : List Int) : Option zq66.R := zq66.o0 N a0
theorem zq66.g.run (N : Nat) (a0 : List Int) : runC zq66.C (zq66.O N) N zq66.c1 1 (st0 [.one (.sl false 5 a0)] [] : St D0) zq66.K0 = zq66.g N a0 := by
  exact (zq66.o0.run N a0).trans rfl
theorem zq66.good (N : Nat) (a0 : List Int) (r : zq66.R) (h : zq66.g N a0 = some r) : Go.PM.Good Tryz.prog T0 27 [.one (.sl false 5 a0)] [] (zq66.sig.ret r) (zq66.sig.bs r) :=
  good_fn tabOk0 mixed0 zq66.sig (zq66.E N) Tryz.func27 (by kernel_rfl) (by kernel_rfl) 125 0 0 [] 300032 false [] [(false, [.any]), (false, [.any]), (false, [.any]), (false, [.any])] (by kernel_rfl) rfl rfl ((zq66.g.run N a0).trans h)
def zq66.ent (N : Nat) : Ent Tryz.prog T0 := mkEnt 27 [(false, [.ro 5])] zq66.sig (fun t => zq66.g N t) (fun t r h => zq66.good N t r h)
/-! ### zq107 -/
abbrev zq107.R : Type := ByteArray × List Int × Int × Int
abbrev zq107.sig : Sig := ⟨[(false, 1), (false, 1), (false, 1)], [(77, 3)], [.ptr 0 0, .str, .str, .sl false 5, .int .i64, .int .u64], [(false, 1)], [(77, 3)], [.str, .sl false 5, .int .i64, .int .u64]⟩
def zq107.C : Cfg D0 := ⟨Tryz.prog, T0, 36046423565272007, 0, 68, 1, [(26, [0, 1, 2, 7], [0]), (104, [0, 1, 2, 7], [0]), (210, [0, 1, 2, 7], [0])], 15427856452832797696, false, []⟩
def zq107.E (N : Nat) : List (Ent Tryz.prog T0) := [zq105.ent N]
def zq107.O (N : Nat) : Orc D0 zq107.R := orcOf (zq107.E N)
def zq107.K0 : Ex → St D0 → Option zq107.R := exitK zq107.C Tryz.f88.results.toList [(false, [.any])] (decOut zq107.sig)
def zq107.c1 : Code := codeAt (Tryz.f88.body.getD .skip) []
def zq107.c2 : Code := codeAt (Tryz.f88.body.getD .skip) [false]
def zq107.c7 : Code := codeAt (Tryz.f88.body.getD .skip) [true, true]
def zq107.c12 : Code := codeAt (Tryz.f88.body.getD .skip) [true, false, false]
def zq107.c52 : Code := codeAt (Tryz.f88.body.getD .skip) [true, false, true, false, false]
def zq107.c104 : Code := codeAt (Tryz.f88.body.getD .skip) [true, false, true, false, false, false]
def zq107.c105 : Code := codeAt (Tryz.f88.body.getD .skip) [true, false, true, false, false, true]
def zq107.c210 : Code := codeAt (Tryz.f88.body.getD .skip) [true, false, true, false, false, true, false]
def zq107.c211 : Code := codeAt (Tryz.f88.body.getD .skip) [true, false, true, false, false, true, true]
def zq107.K211 (N : Nat) (Kn26 : St D0 → Option zq107.R) : Ex → St D0 → Option zq107.R := ((fun up => (onN (fun s => zq107.C.tidy 26 s ((onN Kn26 up) .normal)) (onN Kn26 up))) (blockK 0 (onN (fun s => zq107.C.tidy 6 s (fun s' => runC zq107.C (zq107.O N) N zq107.c7 7 s' zq107.K0)) zq107.K0)))
def zq107.o3 (N : Nat) (v0 : ByteArray) (v1 : ByteArray) (v2 : Int) (v3 : List Int) (v4 : Int) (v5 : Int) (c1 : ByteArray → ByteArray → Int → (List Int) → Int → Int → Option zq107.R) : Option zq107.R :=
 c1 v0 v1 (w64 (v2 - 1)) v3 v4 v5
theorem zq107.o3.run (N : Nat) (Kn26 : St D0 → Option zq107.R) (v0 : ByteArray) (v1 : ByteArray) (v2 : Int) (v3 : List Int) (v4 : Int) (v5 : Int) : runC zq107.C (zq107.O N) N zq107.c211 211 (mkSt [(0, .one (.ptr 0 0)), (1, .one (.str v0)), (2, .one (.str v1)), (7, .one (.int .i64 v2))] [(0, some (77, [.sl false 5 v3, .int .i64 v4, .int .u64 v5]))] : St D0) ((fun up => (onN (fun s => zq107.C.tidy 26 s ((onN Kn26 up) .normal)) (onN Kn26 up))) (blockK 0 (onN (fun s => zq107.C.tidy 6 s (fun s' => runC zq107.C (zq107.O N) N zq107.c7 7 s' zq107.K0)) zq107.K0))) = zq107.o3 N v0 v1 v2 v3 v4 v5 ((fun w0 w1 w2 w3 w4 w5 => Kn26 (mkSt [(0, .one (.ptr 0 0)), (1, .one (.str w0)), (2, .one (.str w1)), (7, .one (.int .i64 w2))] [(0, some (77, [.sl false 5 w3, .int .i64 w4, .int .u64 w5]))] : St D0))) := by kernel_rfl
def zq107.d3 (N : Nat) (v0 : ByteArray) (v1 : ByteArray) (v2 : Int) (v3 : List Int) (v4 : Int) (v5 : Int) (c1 : ByteArray → ByteArray → Int → (List Int) → Int → Int → Option zq107.R) : Option zq107.R := zq107.o3 N v0 v1 v2 v3 v4 v5 c1
theorem zq107.d3.run (N : Nat) (Kn26 : St D0 → Option zq107.R) (v0 : ByteArray) (v1 : ByteArray) (v2 : Int) (v3 : List Int) (v4 : Int) (v5 : Int) : runC zq107.C (zq107.O N) N zq107.c211 211 (mkSt [(0, .one (.ptr 0 0)), (1, .one (.str v0)), (2, .one (.str v1)), (7, .one (.int .i64 v2))] [(0, some (77, [.sl false 5 v3, .int .i64 v4, .int .u64 v5]))] : St D0) (zq107.K211 N Kn26) = zq107.d3 N v0 v1 v2 v3 v4 v5 ((fun w0 w1 w2 w3 w4 w5 => Kn26 (mkSt [(0, .one (.ptr 0 0)), (1, .one (.str w0)), (2, .one (.str w1)), (7, .one (.int .i64 w2))] [(0, some (77, [.sl false 5 w3, .int .i64 w4, .int .u64 w5]))] : St D0))) := by
  exact (zq107.o3.run N Kn26 v0 v1 v2 v3 v4 v5).trans rfl
def zq107.K105 (N : Nat) (Kn26 : St D0 → Option zq107.R) : Ex → St D0 → Option zq107.R := ((fun up => (onN (fun s => zq107.C.tidy 26 s ((onN Kn26 up) .normal)) (onN Kn26 up))) (blockK 0 (onN (fun s => zq107.C.tidy 6 s (fun s' => runC zq107.C (zq107.O N) N zq107.c7 7 s' zq107.K0)) zq107.K0)))
def zq107.o2 (N : Nat) (v0 : ByteArray) (v1 : ByteArray) (v2 : Int) (v3 : List Int) (v4 : Int) (v5 : Int) (c3 : ByteArray → ByteArray → Int → (List Int) → Int → Int → Option zq107.R) : Option zq107.R :=
 (zq105.g N (v0.size : Int) v3 v4 v5).bind fun r1 =>
 (zq105.g N (v1.size : Int) r1.2.1 r1.2.2.1 r1.2.2.2).bind fun r2 =>
 bif (decide (0 ≤ r2.1)) then
  bif (decide (r2.1 < (v1.size : Int))) then
   (numsO T0 5 ([(bt v1 r2.1)] : List Int)).bind fun r3 =>
   (zq105.g N 3 r2.2.1 r2.2.2.1 r2.2.2.2).bind fun r4 =>
   bif (r4.1 == 0) then
    bif (decide (0 ≤ r1.1)) then
     bif (decide (r1.1 ≤ (v0.size : Int))) then
      bif (decide (0 ≤ r1.1)) then
       bif (Nat.ble ((v0.extract (0 : Int).toNat (r1.1 : Int).toNat).size + (strOfNums r3).size) 9223372036854775807) then
        bif (decide (0 ≤ (v0.size : Int))) then
         bif (decide ((v0.size : Int) ≤ (v0.size : Int))) then
          bif (decide (0 ≤ r1.1)) then
           bif (decide (r1.1 ≤ (v0.size : Int))) then
            bif (Nat.ble (((v0.extract (0 : Int).toNat (r1.1 : Int).toNat) ++ (strOfNums r3)).size + (v0.extract (r1.1 : Int).toNat ((v0.size : Int) : Int).toNat).size) 9223372036854775807) then
             c3 (((v0.extract (0 : Int).toNat (r1.1 : Int).toNat) ++ (strOfNums r3)) ++ (v0.extract (r1.1 : Int).toNat ((v0.size : Int) : Int).toNat)) v1 v2 r4.2.1 r4.2.2.1 r4.2.2.2
            else
            none
           else
           none
          else
          none
         else
         none
        else
        none
       else
       none
      else
      none
     else
     none
    else
    none
   else
   bif (r4.1 == 1) then
    bif (decide (0 ≤ r1.1)) then
     bif (decide (r1.1 ≤ (v0.size : Int))) then
      bif (decide (0 ≤ r1.1)) then
       bif (Nat.ble ((v0.extract (0 : Int).toNat (r1.1 : Int).toNat).size + (strOfNums r3).size) 9223372036854775807) then
        bif (decide (0 ≤ (v0.size : Int))) then
         bif (decide ((v0.size : Int) ≤ (v0.size : Int))) then
          bif (decide (0 ≤ (w64 (r1.1 + 1)))) then
           bif (decide ((w64 (r1.1 + 1)) ≤ (v0.size : Int))) then
            bif (Nat.ble (((v0.extract (0 : Int).toNat (r1.1 : Int).toNat) ++ (strOfNums r3)).size + (v0.extract ((w64 (r1.1 + 1)) : Int).toNat ((v0.size : Int) : Int).toNat).size) 9223372036854775807) then
             c3 (((v0.extract (0 : Int).toNat (r1.1 : Int).toNat) ++ (strOfNums r3)) ++ (v0.extract ((w64 (r1.1 + 1)) : Int).toNat ((v0.size : Int) : Int).toNat)) v1 v2 r4.2.1 r4.2.2.1 r4.2.2.2
            else
            none
           else
           none
          else
          none
         else
         none
        else
        none
       else
       none
      else
      none
     else
     none
    else
    none
   else
   bif (decide (0 ≤ r1.1)) then
    bif (decide (r1.1 ≤ (v0.size : Int))) then
     bif (decide (0 ≤ r1.1)) then
      bif (decide (0 ≤ (v0.size : Int))) then
       bif (decide ((v0.size : Int) ≤ (v0.size : Int))) then
        bif (decide (0 ≤ (w64 (r1.1 + 1)))) then
         bif (decide ((w64 (r1.1 + 1)) ≤ (v0.size : Int))) then
          bif (Nat.ble ((v0.extract (0 : Int).toNat (r1.1 : Int).toNat).size + (v0.extract ((w64 (r1.1 + 1)) : Int).toNat ((v0.size : Int) : Int).toNat).size) 9223372036854775807) then
           c3 ((v0.extract (0 : Int).toNat (r1.1 : Int).toNat) ++ (v0.extract ((w64 (r1.1 + 1)) : Int).toNat ((v0.size : Int) : Int).toNat)) v1 v2 r4.2.1 r4.2.2.1 r4.2.2.2
          else
          none
         else
         none
        else
        none
       else
       none
      else
      none
     else
     none
    else
    none
   else
   none
  else
  none
 else
 none
theorem zq107.o2.run (N : Nat) (Kn26 : St D0 → Option zq107.R) (H211 : Code) (v0 : ByteArray) (v1 : ByteArray) (v2 : Int) (v3 : List Int) (v4 : Int) (v5 : Int) : runC zq107.C (zq107.O N) N (.seq zq107.c210 H211) 105 (mkSt [(0, .one (.ptr 0 0)), (1, .one (.str v0)), (2, .one (.str v1)), (7, .one (.int .i64 v2))] [(0, some (77, [.sl false 5 v3, .int .i64 v4, .int .u64 v5]))] : St D0) ((fun up => (onN (fun s => zq107.C.tidy 26 s ((onN Kn26 up) .normal)) (onN Kn26 up))) (blockK 0 (onN (fun s => zq107.C.tidy 6 s (fun s' => runC zq107.C (zq107.O N) N zq107.c7 7 s' zq107.K0)) zq107.K0))) = zq107.o2 N v0 v1 v2 v3 v4 v5 ((fun w0 w1 w2 w3 w4 w5 => runC zq107.C (zq107.O N) N H211 211 (mkSt [(0, .one (.ptr 0 0)), (1, .one (.str w0)), (2, .one (.str w1)), (7, .one (.int .i64 w2))] [(0, some (77, [.sl false 5 w3, .int .i64 w4, .int .u64 w5]))] : St D0) ((fun up => (onN (fun s => zq107.C.tidy 26 s ((onN Kn26 up) .normal)) (onN Kn26 up))) (blockK 0 (onN (fun s => zq107.C.tidy 6 s (fun s' => runC zq107.C (zq107.O N) N zq107.c7 7 s' zq107.K0)) zq107.K0))))) := by kernel_rfl
def zq107.d2 (N : Nat) (v0 : ByteArray) (v1 : ByteArray) (v2 : Int) (v3 : List Int) (v4 : Int) (v5 : Int) (c1 : ByteArray → ByteArray → Int → (List Int) → Int → Int → Option zq107.R) : Option zq107.R := zq107.o2 N v0 v1 v2 v3 v4 v5 ((fun w0 w1 w2 w3 w4 w5 => zq107.d3 N w0 w1 w2 w3 w4 w5 c1))
theorem zq107.c105_2 : zq107.c105 = (.seq zq107.c210 zq107.c211) := by kernel_rfl
theorem zq107.d2.run (N : Nat) (Kn26 : St D0 → Option zq107.R) (v0 : ByteArray) (v1 : ByteArray) (v2 : Int) (v3 : List Int) (v4 : Int) (v5 : Int) : runC zq107.C (zq107.O N) N zq107.c105 105 (mkSt [(0, .one (.ptr 0 0)), (1, .one (.str v0)), (2, .one (.str v1)), (7, .one (.int .i64 v2))] [(0, some (77, [.sl false 5 v3, .int .i64 v4, .int .u64 v5]))] : St D0) (zq107.K105 N Kn26) = zq107.d2 N v0 v1 v2 v3 v4 v5 ((fun w0 w1 w2 w3 w4 w5 => Kn26 (mkSt [(0, .one (.ptr 0 0)), (1, .one (.str w0)), (2, .one (.str w1)), (7, .one (.int .i64 w2))] [(0, some (77, [.sl false 5 w3, .int .i64 w4, .int .u64 w5]))] : St D0))) := by
  rw [zq107.c105_2]; unfold zq107.d2; exact (zq107.o2.run N Kn26 zq107.c211 v0 v1 v2 v3 v4 v5).trans (congr rfl (funext fun w0 => funext fun w1 => funext fun w2 => funext fun w3 => funext fun w4 => funext fun w5 => zq107.d3.run N Kn26 w0 w1 w2 w3 w4 w5))
def zq107.K52 (N : Nat) (Kn26 : St D0 → Option zq107.R) : Ex → St D0 → Option zq107.R := ((fun up => (onN (fun s => zq107.C.tidy 26 s ((onN Kn26 up) .normal)) (onN Kn26 up))) (blockK 0 (onN (fun s => zq107.C.tidy 6 s (fun s' => runC zq107.C (zq107.O N) N zq107.c7 7 s' zq107.K0)) zq107.K0)))
def zq107.o1 (N : Nat) (v0 : ByteArray) (v1 : ByteArray) (v2 : Int) (v3 : List Int) (v4 : Int) (v5 : Int) (c2 : ByteArray → ByteArray → Int → (List Int) → Int → Int → Option zq107.R) : Option zq107.R :=
 bif (decide (v2 > 0)) then
  bif (decide ((v0.size : Int) > 0)) then
   c2 v0 v1 v2 v3 v4 v5
  else
  some (v0, v3, v4, v5)
 else
 some (v0, v3, v4, v5)
theorem zq107.o1.run (N : Nat) (Kn26 : St D0 → Option zq107.R) (H105 : Code) (v0 : ByteArray) (v1 : ByteArray) (v2 : Int) (v3 : List Int) (v4 : Int) (v5 : Int) : runC zq107.C (zq107.O N) N (.seq zq107.c104 H105) 52 (mkSt [(0, .one (.ptr 0 0)), (1, .one (.str v0)), (2, .one (.str v1)), (7, .one (.int .i64 v2))] [(0, some (77, [.sl false 5 v3, .int .i64 v4, .int .u64 v5]))] : St D0) ((fun up => (onN (fun s => zq107.C.tidy 26 s ((onN Kn26 up) .normal)) (onN Kn26 up))) (blockK 0 (onN (fun s => zq107.C.tidy 6 s (fun s' => runC zq107.C (zq107.O N) N zq107.c7 7 s' zq107.K0)) zq107.K0))) = zq107.o1 N v0 v1 v2 v3 v4 v5 ((fun w0 w1 w2 w3 w4 w5 => runC zq107.C (zq107.O N) N H105 105 (mkSt [(0, .one (.ptr 0 0)), (1, .one (.str w0)), (2, .one (.str w1)), (7, .one (.int .i64 w2))] [(0, some (77, [.sl false 5 w3, .int .i64 w4, .int .u64 w5]))] : St D0) ((fun up => (onN (fun s => zq107.C.tidy 26 s ((onN Kn26 up) .normal)) (onN Kn26 up))) (blockK 0 (onN (fun s => zq107.C.tidy 6 s (fun s' => runC zq107.C (zq107.O N) N zq107.c7 7 s' zq107.K0)) zq107.K0))))) := by kernel_rfl
def zq107.d1 (N : Nat) (v0 : ByteArray) (v1 : ByteArray) (v2 : Int) (v3 : List Int) (v4 : Int) (v5 : Int) (c1 : ByteArray → ByteArray → Int → (List Int) → Int → Int → Option zq107.R) : Option zq107.R := zq107.o1 N v0 v1 v2 v3 v4 v5 ((fun w0 w1 w2 w3 w4 w5 => zq107.d2 N w0 w1 w2 w3 w4 w5 c1))
theorem zq107.c52_1 : zq107.c52 = (.seq zq107.c104 zq107.c105) := by kernel_rfl
theorem zq107.d1.run (N : Nat) (Kn26 : St D0 → Option zq107.R) (v0 : ByteArray) (v1 : ByteArray) (v2 : Int) (v3 : List Int) (v4 : Int) (v5 : Int) : runC zq107.C (zq107.O N) N zq107.c52 52 (mkSt [(0, .one (.ptr 0 0)), (1, .one (.str v0)), (2, .one (.str v1)), (7, .one (.int .i64 v2))] [(0, some (77, [.sl false 5 v3, .int .i64 v4, .int .u64 v5]))] : St D0) (zq107.K52 N Kn26) = zq107.d1 N v0 v1 v2 v3 v4 v5 ((fun w0 w1 w2 w3 w4 w5 => Kn26 (mkSt [(0, .one (.ptr 0 0)), (1, .one (.str w0)), (2, .one (.str w1)), (7, .one (.int .i64 w2))] [(0, some (77, [.sl false 5 w3, .int .i64 w4, .int .u64 w5]))] : St D0))) := by
  rw [zq107.c52_1]; unfold zq107.d1; exact (zq107.o1.run N Kn26 zq107.c105 v0 v1 v2 v3 v4 v5).trans (congr rfl (funext fun w0 => funext fun w1 => funext fun w2 => funext fun w3 => funext fun w4 => funext fun w5 => zq107.d2.run N Kn26 w0 w1 w2 w3 w4 w5))
def zq107.K26 (N : Nat) : Ex → St D0 → Option zq107.R := (blockK 0 (onN (fun s => zq107.C.tidy 6 s (fun s' => runC zq107.C (zq107.O N) N zq107.c7 7 s' zq107.K0)) zq107.K0))
def zq107.l1 (N : Nat) : Nat → ByteArray → ByteArray → Int → (List Int) → Int → Int → Option zq107.R
  | 0, _, _, _, _, _, _ => none
  | n + 1, v0, v1, v2, v3, v4, v5 => zq107.d1 N v0 v1 v2 v3 v4 v5 ((fun w0 w1 w2 w3 w4 w5 => zq107.l1 N n w0 w1 w2 w3 w4 w5))
theorem zq107.loop26 (N : Nat) : ∀ n, (∀ (v0 : ByteArray) (v1 : ByteArray) (v2 : Int) (v3 : List Int) (v4 : Int) (v5 : Int), iter (loopF zq107.C (zq107.O N) N zq107.c52 26) n (mkSt [(0, .one (.ptr 0 0)), (1, .one (.str v0)), (2, .one (.str v1)), (7, .one (.int .i64 v2))] [(0, some (77, [.sl false 5 v3, .int .i64 v4, .int .u64 v5]))] : St D0) (zq107.K26 N) = zq107.l1 N n v0 v1 v2 v3 v4 v5)
  | 0 => (fun v0 v1 v2 v3 v4 v5 => rfl)
  | n + 1 => (fun v0 v1 v2 v3 v4 v5 => (zq107.d1.run N (fun s => iter (loopF zq107.C (zq107.O N) N zq107.c52 26) n s (zq107.K26 N)) v0 v1 v2 v3 v4 v5).trans (show _ = zq107.d1 N v0 v1 v2 v3 v4 v5 ((fun w0 w1 w2 w3 w4 w5 => zq107.l1 N n w0 w1 w2 w3 w4 w5)) from (congr rfl (funext fun w0 => funext fun w1 => funext fun w2 => funext fun w3 => funext fun w4 => funext fun w5 => (zq107.loop26 N n) w0 w1 w2 w3 w4 w5))))
def zq107.o0 (N : Nat) (a1 : ByteArray) (a2 : ByteArray) (b0_0 : List Int) (b0_1 : Int) (b0_2 : Int) (c1 : ByteArray → ByteArray → Int → (List Int) → Int → Int → Option zq107.R) : Option zq107.R :=
 (zq105.g N 2 b0_0 b0_1 b0_2).bind fun r1 =>
 c1 a1 a2 (w64 (1 + r1.1)) r1.2.1 r1.2.2.1 r1.2.2.2
theorem zq107.o0.run (N : Nat) (H52 : Code) (a1 : ByteArray) (a2 : ByteArray) (b0_0 : List Int) (b0_1 : Int) (b0_2 : Int) : runC zq107.C (zq107.O N) N (.seq zq107.c2 (.seq (.seq zq107.c12 (.block 0 (.loop H52))) zq107.c7)) 1 (st0 [.one (.ptr 0 0), .one (.str a1), .one (.str a2)] [(77, [.sl false 5 b0_0, .int .i64 b0_1, .int .u64 b0_2])] : St D0) zq107.K0 = zq107.o0 N a1 a2 b0_0 b0_1 b0_2 ((fun w0 w1 w2 w3 w4 w5 => iter (loopF zq107.C (zq107.O N) N H52 26) N (mkSt [(0, .one (.ptr 0 0)), (1, .one (.str w0)), (2, .one (.str w1)), (7, .one (.int .i64 w2))] [(0, some (77, [.sl false 5 w3, .int .i64 w4, .int .u64 w5]))] : St D0) (blockK 0 (onN (fun s => zq107.C.tidy 6 s (fun s' => runC zq107.C (zq107.O N) N zq107.c7 7 s' zq107.K0)) zq107.K0)))) := by kernel_rfl
def zq107.g (N : Nat) (a1 : ByteArray) (a2 : ByteArray) (b0_0 : List Int) (b0_1 : Int) (b0_2 : Int) : Option zq107.R := zq107.o0 N a1 a2 b0_0 b0_1 b0_2 ((fun w0 w1 w2 w3 w4 w5 => zq107.l1 N N w0 w1 w2 w3 w4 w5))
theorem zq107.c1_0 : zq107.c1 = (.seq zq107.c2 (.seq (.seq zq107.c12 (.block 0 (.loop zq107.c52))) zq107.c7)) := by kernel_rfl
theorem zq107.g.run (N : Nat) (a1 : ByteArray) (a2 : ByteArray) (b0_0 : List Int) (b0_1 : Int) (b0_2 : Int) : runC zq107.C (zq107.O N) N zq107.c1 1 (st0 [.one (.ptr 0 0), .one (.str a1), .one (.str a2)] [(77, [.sl false 5 b0_0, .int .i64 b0_1, .int .u64 b0_2])] : St D0) zq107.K0 = zq107.g N a1 a2 b0_0 b0_1 b0_2 := by
  rw [zq107.c1_0]; unfold zq107.g; exact (zq107.o0.run N zq107.c52 a1 a2 b0_0 b0_1 b0_2).trans (congr rfl (funext fun w0 => funext fun w1 => funext fun w2 => funext fun w3 => funext fun w4 => funext fun w5 => (zq107.loop26 N N) w0 w1 w2 w3 w4 w5))
theorem zq107.good (N : Nat) (a1 : ByteArray) (a2 : ByteArray) (b0_0 : List Int) (b0_1 : Int) (b0_2 : Int) (r : zq107.R) (h : zq107.g N a1 a2 b0_0 b0_1 b0_2 = some r) : Go.PM.Good Tryz.prog T0 88 [.one (.ptr 0 0), .one (.str a1), .one (.str a2)] [(77, [.sl false 5 b0_0, .int .i64 b0_1, .int .u64 b0_2])] (zq107.sig.ret r) (zq107.sig.bs r) :=
  good_fn tabOk0 mixed0 zq107.sig (zq107.E N) Tryz.func88 (by kernel_rfl) (by kernel_rfl) 36046423565272007 0 1 [(26, [0, 1, 2, 7], [0]), (104, [0, 1, 2, 7], [0]), (210, [0, 1, 2, 7], [0])] 15427856452832797696 false [] [(false, [.any])] (by kernel_rfl) rfl rfl ((zq107.g.run N a1 a2 b0_0 b0_1 b0_2).trans h)
def zq107.ent (N : Nat) : Ent Tryz.prog T0 := mkEnt 88 [(false, [.any]), (false, [.any]), (false, [.any])] zq107.sig (fun t => zq107.g N t.2.1 t.2.2.1 t.2.2.2.1 t.2.2.2.2.1 t.2.2.2.2.2) (fun t r h => zq107.good N t.2.1 t.2.2.1 t.2.2.2.1 t.2.2.2.2.1 t.2.2.2.2.2 r h)
/-! ### zq62 -/
abbrev zq62.R : Type := Int × ByteArray
abbrev zq62.sig : Sig := ⟨[(false, 1)], [], [.sl false 5], [(false, 1), (false, 1)], [], [.int .i64, .str]⟩
def zq62.C : Cfg D0 := ⟨Tryz.prog, T0, 8519933, 0, 30, 0, [], 105424896, false, []⟩
def zq62.E (N : Nat) : List (Ent Tryz.prog T0) := [zq102.ent N, zq108.ent N, zq91.ent N, zq95.ent N, zq104.ent N, zq107.ent N]
def zq62.O (N : Nat) : Orc D0 zq62.R := orcOf (zq62.E N)
def zq62.K0 : Ex → St D0 → Option zq62.R := exitK zq62.C Tryz.f30.results.toList [(false, [.any]), (false, [.any])] (decOut zq62.sig)
def zq62.c1 : Code := codeAt (Tryz.f30.body.getD .skip) []
def zq62.o0 (N : Nat) (a0 : List Int) : Option zq62.R :=
 (zq102.g N a0 0 0).bind fun r1 =>
 (zq108.g N r1.2.1 r1.2.2.1 r1.2.2.2).bind fun r2 =>
 (zq91.g N r1.1).bind fun r3 =>
 bif (!r3) then
  some (r1.1, (⟨#[48, 48, 58, 48, 48, 58, 48, 48]⟩ : ByteArray))
 else
 (zq95.g N r1.1 r2.1 r2.2.1).bind fun r4 =>
 (zq104.g N 3 r2.2.2.1 r2.2.2.2.1 r2.2.2.2.2).bind fun r5 =>
 bif r5.1 then
  (zq107.g N r4 (⟨#[48, 49, 50, 57, 58, 43, 47, 120]⟩ : ByteArray) r5.2.1 r5.2.2.1 r5.2.2.2).bind fun r6 =>
  some (r1.1, r6.1)
 else
 some (r1.1, r4)
theorem zq62.o0.run (N : Nat) (a0 : List Int) : runC zq62.C (zq62.O N) N zq62.c1 1 (st0 [.one (.sl false 5 a0)] [] : St D0) zq62.K0 = zq62.o0 N a0 := by kernel_rfl
def zq62.g (N : Nat) (a0 : List Int) : Option zq62.R := zq62.o0 N a0
theorem zq62.g.run (N : Nat) (a0 : List Int) : runC zq62.C (zq62.O N) N zq62.c1 1 (st0 [.one (.sl false 5 a0)] [] : St D0) zq62.K0 = zq62.g N a0 := by
  exact (zq62.o0.run N a0).trans rfl
theorem zq62.good (N : Nat) (a0 : List Int) (r : zq62.R) (h : zq62.g N a0 = some r) : Go.PM.Good Tryz.prog T0 30 [.one (.sl false 5 a0)] [] (zq62.sig.ret r) (zq62.sig.bs r) :=
  good_fn tabOk0 mixed0 zq62.sig (zq62.E N) Tryz.func30 (by kernel_rfl) (by kernel_rfl) 8519933 0 0 [] 105424896 false [] [(false, [.any]), (false, [.any])] (by kernel_rfl) rfl rfl ((zq62.g.run N a0).trans h)
def zq62.ent (N : Nat) : Ent Tryz.prog T0 := mkEnt 30 [(false, [.ro 5])] zq62.sig (fun t => zq62.g N t) (fun t r h => zq62.good N t r h)
/-! ### zq22 -/
abbrev zq22.R : Type := Int × Int × Bool
abbrev zq22.sig : Sig := ⟨[(false, 1), (false, 1), (false, 1), (false, 1)], [], [.int .i64, .int .i64, .int .i64, .int .i64], [(true, 2), (false, 1)], [], [.int .i64, .int .i64, .bool]⟩
def zq22.C : Cfg D0 := ⟨Tryz.prog, T0, 536871695, 0, 41, 0, [(12, [0, 1, 2, 3, 8, 29], [8])], 354404058112, false, []⟩
def zq22.E (N : Nat) : List (Ent Tryz.prog T0) := [zq36.ent N, zq46.ent N, zq41.ent N]
def zq22.O (N : Nat) : Orc D0 zq22.R := orcOf (zq22.E N)
def zq22.K0 : Ex → St D0 → Option zq22.R := exitK zq22.C Tryz.f28.results.toList [(true, [.any, .any]), (false, [.any])] (decOut zq22.sig)
def zq22.c1 : Code := codeAt (Tryz.f28.body.getD .skip) []
def zq22.c2 : Code := codeAt (Tryz.f28.body.getD .skip) [false]
def zq22.c7 : Code := codeAt (Tryz.f28.body.getD .skip) [true, true]
def zq22.c12 : Code := codeAt (Tryz.f28.body.getD .skip) [true, false, false]
def zq22.c13 : Code := codeAt (Tryz.f28.body.getD .skip) [true, false, true]
def zq22.K13 (N : Nat) : Ex → St D0 → Option zq22.R := (onN (fun s => zq22.C.tidy 6 s (fun s' => runC zq22.C (zq22.O N) N zq22.c7 7 s' zq22.K0)) zq22.K0)
def zq22.o1 (N : Nat) (v0 : Int) (v1 : Int) (v2 : Int) (v3 : Int) (v4 : Bool) (v5 : Int) (v6 : Int) : Option zq22.R :=
 bif v4 then
  some (0, 0, false)
 else
 (zq41.g N (w64 ((w64 ((w64 (v1 * 3600)) + (w64 (v2 * 60)))) + v3)) (w64 (v0 * 3600))).bind fun r1 =>
 some (r1.1, r1.2, true)
theorem zq22.o1.run (N : Nat) (v0 : Int) (v1 : Int) (v2 : Int) (v3 : Int) (v4 : Bool) (v5 : Int) (v6 : Int) : runC zq22.C (zq22.O N) N zq22.c13 13 (mkSt [(0, .one (.int .i64 v0)), (1, .one (.int .i64 v1)), (2, .one (.int .i64 v2)), (3, .one (.int .i64 v3)), (8, .one (.ptr 8 0)), (29, .one (.bool v4))] [(8, some (25, [.int .i64 v5, .int .i64 v6]))] : St D0) (onN (fun s => zq22.C.tidy 6 s (fun s' => runC zq22.C (zq22.O N) N zq22.c7 7 s' zq22.K0)) zq22.K0) = zq22.o1 N v0 v1 v2 v3 v4 v5 v6 := by kernel_rfl
def zq22.d1 (N : Nat) (v0 : Int) (v1 : Int) (v2 : Int) (v3 : Int) (v4 : Bool) (v5 : Int) (v6 : Int) : Option zq22.R := zq22.o1 N v0 v1 v2 v3 v4 v5 v6
theorem zq22.d1.run (N : Nat) (v0 : Int) (v1 : Int) (v2 : Int) (v3 : Int) (v4 : Bool) (v5 : Int) (v6 : Int) : runC zq22.C (zq22.O N) N zq22.c13 13 (mkSt [(0, .one (.int .i64 v0)), (1, .one (.int .i64 v1)), (2, .one (.int .i64 v2)), (3, .one (.int .i64 v3)), (8, .one (.ptr 8 0)), (29, .one (.bool v4))] [(8, some (25, [.int .i64 v5, .int .i64 v6]))] : St D0) (zq22.K13 N) = zq22.d1 N v0 v1 v2 v3 v4 v5 v6 := by
  exact (zq22.o1.run N v0 v1 v2 v3 v4 v5 v6).trans rfl
def zq22.o0 (N : Nat) (a0 : Int) (a1 : Int) (a2 : Int) (a3 : Int) (c1 : Int → Int → Int → Int → Bool → Int → Int → Option zq22.R) : Option zq22.R :=
 (zq36.g N a0).bind fun r1 =>
 bif (!r1) then
  c1 a0 a1 a2 a3 true 0 0
 else
 (zq46.g N a1 0 (w64 (a0 - 1))).bind fun r2 =>
 bif (!r2) then
  c1 a0 a1 a2 a3 true 0 0
 else
 (zq46.g N a2 0 59).bind fun r3 =>
 bif (!r3) then
  c1 a0 a1 a2 a3 true 0 0
 else
 (zq46.g N a3 0 59).bind fun r4 =>
 c1 a0 a1 a2 a3 (!r4) 0 0
theorem zq22.o0.run (N : Nat) (H13 : Code) (a0 : Int) (a1 : Int) (a2 : Int) (a3 : Int) : runC zq22.C (zq22.O N) N (.seq zq22.c2 (.seq (.seq zq22.c12 H13) zq22.c7)) 1 (st0 [.one (.int .i64 a0), .one (.int .i64 a1), .one (.int .i64 a2), .one (.int .i64 a3)] [] : St D0) zq22.K0 = zq22.o0 N a0 a1 a2 a3 ((fun w0 w1 w2 w3 w4 w5 w6 => runC zq22.C (zq22.O N) N H13 13 (mkSt [(0, .one (.int .i64 w0)), (1, .one (.int .i64 w1)), (2, .one (.int .i64 w2)), (3, .one (.int .i64 w3)), (8, .one (.ptr 8 0)), (29, .one (.bool w4))] [(8, some (25, [.int .i64 w5, .int .i64 w6]))] : St D0) (onN (fun s => zq22.C.tidy 6 s (fun s' => runC zq22.C (zq22.O N) N zq22.c7 7 s' zq22.K0)) zq22.K0))) := by kernel_rfl
def zq22.g (N : Nat) (a0 : Int) (a1 : Int) (a2 : Int) (a3 : Int) : Option zq22.R := zq22.o0 N a0 a1 a2 a3 ((fun w0 w1 w2 w3 w4 w5 w6 => zq22.d1 N w0 w1 w2 w3 w4 w5 w6))
theorem zq22.c1_0 : zq22.c1 = (.seq zq22.c2 (.seq (.seq zq22.c12 zq22.c13) zq22.c7)) := by kernel_rfl
theorem zq22.g.run (N : Nat) (a0 : Int) (a1 : Int) (a2 : Int) (a3 : Int) : runC zq22.C (zq22.O N) N zq22.c1 1 (st0 [.one (.int .i64 a0), .one (.int .i64 a1), .one (.int .i64 a2), .one (.int .i64 a3)] [] : St D0) zq22.K0 = zq22.g N a0 a1 a2 a3 := by
  rw [zq22.c1_0]; unfold zq22.g; exact (zq22.o0.run N zq22.c13 a0 a1 a2 a3).trans (congr rfl (funext fun w0 => funext fun w1 => funext fun w2 => funext fun w3 => funext fun w4 => funext fun w5 => funext fun w6 => zq22.d1.run N w0 w1 w2 w3 w4 w5 w6))
theorem zq22.good (N : Nat) (a0 : Int) (a1 : Int) (a2 : Int) (a3 : Int) (r : zq22.R) (h : zq22.g N a0 a1 a2 a3 = some r) : Go.PM.Good Tryz.prog T0 28 [.one (.int .i64 a0), .one (.int .i64 a1), .one (.int .i64 a2), .one (.int .i64 a3)] [] (zq22.sig.ret r) (zq22.sig.bs r) :=
  good_fn tabOk0 mixed0 zq22.sig (zq22.E N) Tryz.func28 (by kernel_rfl) (by kernel_rfl) 536871695 0 0 [(12, [0, 1, 2, 3, 8, 29], [8])] 354404058112 false [] [(true, [.any, .any]), (false, [.any])] (by kernel_rfl) rfl rfl ((zq22.g.run N a0 a1 a2 a3).trans h)
def zq22.ent (N : Nat) : Ent Tryz.prog T0 := mkEnt 28 [(false, [.any]), (false, [.any]), (false, [.any]), (false, [.any])] zq22.sig (fun t => zq22.g N t.1 t.2.1 t.2.2.1 t.2.2.2) (fun t r h => zq22.good N t.1 t.2.1 t.2.2.1 t.2.2.2 r h)
/-! ### zq96 -/
abbrev zq96.R : Type := Int × Int
abbrev zq96.sig : Sig := ⟨[(false, 1), (false, 1), (false, 1), (false, 1)], [], [.int .i64, .int .i64, .int .i64, .int .i64], [(true, 2)], [], [.int .i64, .int .i64]⟩
def zq96.C : Cfg D0 := ⟨Tryz.prog, T0, 783, 0, 25, 0, [], 675840, false, []⟩
def zq96.E (N : Nat) : List (Ent Tryz.prog T0) := [zq92.ent N]
def zq96.O (N : Nat) : Orc D0 zq96.R := orcOf (zq96.E N)
def zq96.K0 : Ex → St D0 → Option zq96.R := exitK zq96.C Tryz.f85.results.toList [(true, [.any, .any])] (decOut zq96.sig)
def zq96.c1 : Code := codeAt (Tryz.f85.body.getD .skip) []
def zq96.o0 (N : Nat) (a0 : Int) (a1 : Int) (a2 : Int) (a3 : Int) : Option zq96.R :=
 (zq92.g N (w64 ((w64 ((w64 ((w64 (a1 * 60)) + a2)) * 60)) + a3)) (w64 (a0 * 3600))).bind fun r1 =>
 some (r1.1, r1.2.1)
theorem zq96.o0.run (N : Nat) (a0 : Int) (a1 : Int) (a2 : Int) (a3 : Int) : runC zq96.C (zq96.O N) N zq96.c1 1 (st0 [.one (.int .i64 a0), .one (.int .i64 a1), .one (.int .i64 a2), .one (.int .i64 a3)] [] : St D0) zq96.K0 = zq96.o0 N a0 a1 a2 a3 := by kernel_rfl
def zq96.g (N : Nat) (a0 : Int) (a1 : Int) (a2 : Int) (a3 : Int) : Option zq96.R := zq96.o0 N a0 a1 a2 a3
theorem zq96.g.run (N : Nat) (a0 : Int) (a1 : Int) (a2 : Int) (a3 : Int) : runC zq96.C (zq96.O N) N zq96.c1 1 (st0 [.one (.int .i64 a0), .one (.int .i64 a1), .one (.int .i64 a2), .one (.int .i64 a3)] [] : St D0) zq96.K0 = zq96.g N a0 a1 a2 a3 := by
  exact (zq96.o0.run N a0 a1 a2 a3).trans rfl
theorem zq96.good (N : Nat) (a0 : Int) (a1 : Int) (a2 : Int) (a3 : Int) (r : zq96.R) (h : zq96.g N a0 a1 a2 a3 = some r) : Go.PM.Good Tryz.prog T0 85 [.one (.int .i64 a0), .one (.int .i64 a1), .one (.int .i64 a2), .one (.int .i64 a3)] [] (zq96.sig.ret r) (zq96.sig.bs r) :=
  good_fn tabOk0 mixed0 zq96.sig (zq96.E N) Tryz.func85 (by kernel_rfl) (by kernel_rfl) 783 0 0 [] 675840 false [] [(true, [.any, .any])] (by kernel_rfl) rfl rfl ((zq96.g.run N a0 a1 a2 a3).trans h)
def zq96.ent (N : Nat) : Ent Tryz.prog T0 := mkEnt 85 [(false, [.any]), (false, [.any]), (false, [.any]), (false, [.any])] zq96.sig (fun t => zq96.g N t.1 t.2.1 t.2.2.1 t.2.2.2) (fun t r h => zq96.good N t.1 t.2.1 t.2.2.1 t.2.2.2 r h)
/-! ### zq78 -/
abbrev zq78.R : Type := Int × Int × Bool
abbrev zq78.sig : Sig := ⟨[(false, 1), (false, 1), (false, 1), (false, 1)], [], [.int .i64, .int .i64, .int .i64, .int .i64], [(true, 2), (false, 1)], [], [.int .i64, .int .i64, .bool]⟩
def zq78.C : Cfg D0 := ⟨Tryz.prog, T0, 536871695, 0, 36, 0, [(12, [0, 1, 2, 3, 8, 29], [8])], 32281510912, false, []⟩
def zq78.E (N : Nat) : List (Ent Tryz.prog T0) := [zq91.ent N, zq110.ent N, zq96.ent N]
def zq78.O (N : Nat) : Orc D0 zq78.R := orcOf (zq78.E N)
def zq78.K0 : Ex → St D0 → Option zq78.R := exitK zq78.C Tryz.f29.results.toList [(true, [.any, .any]), (false, [.any])] (decOut zq78.sig)
def zq78.c1 : Code := codeAt (Tryz.f29.body.getD .skip) []
def zq78.c2 : Code := codeAt (Tryz.f29.body.getD .skip) [false]
def zq78.c7 : Code := codeAt (Tryz.f29.body.getD .skip) [true, true]
def zq78.c12 : Code := codeAt (Tryz.f29.body.getD .skip) [true, false, false]
def zq78.c13 : Code := codeAt (Tryz.f29.body.getD .skip) [true, false, true]
def zq78.K13 (N : Nat) : Ex → St D0 → Option zq78.R := (onN (fun s => zq78.C.tidy 6 s (fun s' => runC zq78.C (zq78.O N) N zq78.c7 7 s' zq78.K0)) zq78.K0)
def zq78.o1 (N : Nat) (v0 : Int) (v1 : Int) (v2 : Int) (v3 : Int) (v4 : Bool) (v5 : Int) (v6 : Int) : Option zq78.R :=
 bif v4 then
  some (0, 0, false)
 else
 (zq96.g N v0 v1 v2 v3).bind fun r1 =>
 some (r1.1, r1.2, true)
theorem zq78.o1.run (N : Nat) (v0 : Int) (v1 : Int) (v2 : Int) (v3 : Int) (v4 : Bool) (v5 : Int) (v6 : Int) : runC zq78.C (zq78.O N) N zq78.c13 13 (mkSt [(0, .one (.int .i64 v0)), (1, .one (.int .i64 v1)), (2, .one (.int .i64 v2)), (3, .one (.int .i64 v3)), (8, .one (.ptr 8 0)), (29, .one (.bool v4))] [(8, some (25, [.int .i64 v5, .int .i64 v6]))] : St D0) (onN (fun s => zq78.C.tidy 6 s (fun s' => runC zq78.C (zq78.O N) N zq78.c7 7 s' zq78.K0)) zq78.K0) = zq78.o1 N v0 v1 v2 v3 v4 v5 v6 := by kernel_rfl
def zq78.d1 (N : Nat) (v0 : Int) (v1 : Int) (v2 : Int) (v3 : Int) (v4 : Bool) (v5 : Int) (v6 : Int) : Option zq78.R := zq78.o1 N v0 v1 v2 v3 v4 v5 v6
theorem zq78.d1.run (N : Nat) (v0 : Int) (v1 : Int) (v2 : Int) (v3 : Int) (v4 : Bool) (v5 : Int) (v6 : Int) : runC zq78.C (zq78.O N) N zq78.c13 13 (mkSt [(0, .one (.int .i64 v0)), (1, .one (.int .i64 v1)), (2, .one (.int .i64 v2)), (3, .one (.int .i64 v3)), (8, .one (.ptr 8 0)), (29, .one (.bool v4))] [(8, some (25, [.int .i64 v5, .int .i64 v6]))] : St D0) (zq78.K13 N) = zq78.d1 N v0 v1 v2 v3 v4 v5 v6 := by
  exact (zq78.o1.run N v0 v1 v2 v3 v4 v5 v6).trans rfl
def zq78.o0 (N : Nat) (a0 : Int) (a1 : Int) (a2 : Int) (a3 : Int) (c1 : Int → Int → Int → Int → Bool → Int → Int → Option zq78.R) : Option zq78.R :=
 (zq91.g N a0).bind fun r1 =>
 bif (!r1) then
  c1 a0 a1 a2 a3 true 0 0
 else
 (zq110.g N a1 0 (w64 (a0 - 1))).bind fun r2 =>
 bif (!r2) then
  c1 a0 a1 a2 a3 true 0 0
 else
 (zq110.g N a2 0 59).bind fun r3 =>
 bif (!r3) then
  c1 a0 a1 a2 a3 true 0 0
 else
 (zq110.g N a3 0 59).bind fun r4 =>
 c1 a0 a1 a2 a3 (!r4) 0 0
theorem zq78.o0.run (N : Nat) (H13 : Code) (a0 : Int) (a1 : Int) (a2 : Int) (a3 : Int) : runC zq78.C (zq78.O N) N (.seq zq78.c2 (.seq (.seq zq78.c12 H13) zq78.c7)) 1 (st0 [.one (.int .i64 a0), .one (.int .i64 a1), .one (.int .i64 a2), .one (.int .i64 a3)] [] : St D0) zq78.K0 = zq78.o0 N a0 a1 a2 a3 ((fun w0 w1 w2 w3 w4 w5 w6 => runC zq78.C (zq78.O N) N H13 13 (mkSt [(0, .one (.int .i64 w0)), (1, .one (.int .i64 w1)), (2, .one (.int .i64 w2)), (3, .one (.int .i64 w3)), (8, .one (.ptr 8 0)), (29, .one (.bool w4))] [(8, some (25, [.int .i64 w5, .int .i64 w6]))] : St D0) (onN (fun s => zq78.C.tidy 6 s (fun s' => runC zq78.C (zq78.O N) N zq78.c7 7 s' zq78.K0)) zq78.K0))) := by kernel_rfl
def zq78.g (N : Nat) (a0 : Int) (a1 : Int) (a2 : Int) (a3 : Int) : Option zq78.R := zq78.o0 N a0 a1 a2 a3 ((fun w0 w1 w2 w3 w4 w5 w6 => zq78.d1 N w0 w1 w2 w3 w4 w5 w6))
theorem zq78.c1_0 : zq78.c1 = (.seq zq78.c2 (.seq (.seq zq78.c12 zq78.c13) zq78.c7)) := by kernel_rfl
theorem zq78.g.run (N : Nat) (a0 : Int) (a1 : Int) (a2 : Int) (a3 : Int) : runC zq78.C (zq78.O N) N zq78.c1 1 (st0 [.one (.int .i64 a0), .one (.int .i64 a1), .one (.int .i64 a2), .one (.int .i64 a3)] [] : St D0) zq78.K0 = zq78.g N a0 a1 a2 a3 := by
  rw [zq78.c1_0]; unfold zq78.g; exact (zq78.o0.run N zq78.c13 a0 a1 a2 a3).trans (congr rfl (funext fun w0 => funext fun w1 => funext fun w2 => funext fun w3 => funext fun w4 => funext fun w5 => funext fun w6 => zq78.d1.run N w0 w1 w2 w3 w4 w5 w6))
theorem zq78.good (N : Nat) (a0 : Int) (a1 : Int) (a2 : Int) (a3 : Int) (r : zq78.R) (h : zq78.g N a0 a1 a2 a3 = some r) : Go.PM.Good Tryz.prog T0 29 [.one (.int .i64 a0), .one (.int .i64 a1), .one (.int .i64 a2), .one (.int .i64 a3)] [] (zq78.sig.ret r) (zq78.sig.bs r) :=
  good_fn tabOk0 mixed0 zq78.sig (zq78.E N) Tryz.func29 (by kernel_rfl) (by kernel_rfl) 536871695 0 0 [(12, [0, 1, 2, 3, 8, 29], [8])] 32281510912 false [] [(true, [.any, .any]), (false, [.any])] (by kernel_rfl) rfl rfl ((zq78.g.run N a0 a1 a2 a3).trans h)
def zq78.ent (N : Nat) : Ent Tryz.prog T0 := mkEnt 29 [(false, [.any]), (false, [.any]), (false, [.any]), (false, [.any])] zq78.sig (fun t => zq78.g N t.1 t.2.1 t.2.2.1 t.2.2.2) (fun t r h => zq78.good N t.1 t.2.1 t.2.2.1 t.2.2.2 r h)
/-! ### zq52 -/
abbrev zq52.R : Type := Bool
abbrev zq52.sig : Sig := ⟨[(false, 1), (false, 1)], [], [.sl false 25, .sl false 25], [(false, 1)], [], [.bool]⟩
def zq52.C : Cfg D0 := ⟨Tryz.prog, T0, 16806963, 0, 26, 0, [(58, [0, 1, 12, 13], [])], 3344704, false, []⟩
def zq52.E (N : Nat) : List (Ent Tryz.prog T0) := []
def zq52.O (N : Nat) : Orc D0 zq52.R := orcOf (zq52.E N)
def zq52.K0 : Ex → St D0 → Option zq52.R := exitK zq52.C Tryz.f23.results.toList [(false, [.any])] (decOut zq52.sig)
def zq52.c1 : Code := codeAt (Tryz.f23.body.getD .skip) []
def zq52.c2 : Code := codeAt (Tryz.f23.body.getD .skip) [false]
def zq52.c6 : Code := codeAt (Tryz.f23.body.getD .skip) [true, false]
def zq52.c15 : Code := codeAt (Tryz.f23.body.getD .skip) [true, true, true]
def zq52.c28 : Code := codeAt (Tryz.f23.body.getD .skip) [true, true, false, false]
def zq52.c116 : Code := codeAt (Tryz.f23.body.getD .skip) [true, true, false, true, false, false]
def zq52.K116 (N : Nat) (Kn58 : St D0 → Option zq52.R) : Ex → St D0 → Option zq52.R := ((fun up => (onN (fun s => zq52.C.tidy 58 s ((onN Kn58 up) .normal)) (onN Kn58 up))) (blockK 0 (onN (fun s => zq52.C.tidy 14 s (fun s' => runC zq52.C (zq52.O N) N zq52.c15 15 s' zq52.K0)) zq52.K0)))
def zq52.o1 (N : Nat) (v0 : List S25) (v1 : List S25) (v2 : Int) (v3 : Int) (c1 : (List S25) → (List S25) → Int → Int → Option zq52.R) : Option zq52.R :=
 bif (decide (v3 < v2)) then
  bif (decide (0 ≤ v3)) then
   bif (decide (v3 < (v0.length : Int))) then
    (v0[(v3 : Int).toNat]?).bind fun x1 =>
    bif (decide (0 ≤ v3)) then
     bif (decide (v3 < (v1.length : Int))) then
      (v1[(v3 : Int).toNat]?).bind fun x2 =>
      bif (!((x1.f0 == x2.f0) && ((x1.f1 == x2.f1) && true))) then
       some (false)
      else
      c1 v0 v1 v2 (w64 (v3 + 1))
     else
     none
    else
    none
   else
   none
  else
  none
 else
 some (true)
theorem zq52.o1.run (N : Nat) (Kn58 : St D0 → Option zq52.R) (v0 : List S25) (v1 : List S25) (v2 : Int) (v3 : Int) : runC zq52.C (zq52.O N) N zq52.c116 116 (mkSt [(0, .one (.sl false 25 v0)), (1, .one (.sl false 25 v1)), (12, .one (.int .i64 v2)), (13, .one (.int .i64 v3))] [] : St D0) ((fun up => (onN (fun s => zq52.C.tidy 58 s ((onN Kn58 up) .normal)) (onN Kn58 up))) (blockK 0 (onN (fun s => zq52.C.tidy 14 s (fun s' => runC zq52.C (zq52.O N) N zq52.c15 15 s' zq52.K0)) zq52.K0))) = zq52.o1 N v0 v1 v2 v3 ((fun w0 w1 w2 w3 => Kn58 (mkSt [(0, .one (.sl false 25 w0)), (1, .one (.sl false 25 w1)), (12, .one (.int .i64 w2)), (13, .one (.int .i64 w3))] [] : St D0))) := by kernel_rfl
def zq52.d1 (N : Nat) (v0 : List S25) (v1 : List S25) (v2 : Int) (v3 : Int) (c1 : (List S25) → (List S25) → Int → Int → Option zq52.R) : Option zq52.R := zq52.o1 N v0 v1 v2 v3 c1
theorem zq52.d1.run (N : Nat) (Kn58 : St D0 → Option zq52.R) (v0 : List S25) (v1 : List S25) (v2 : Int) (v3 : Int) : runC zq52.C (zq52.O N) N zq52.c116 116 (mkSt [(0, .one (.sl false 25 v0)), (1, .one (.sl false 25 v1)), (12, .one (.int .i64 v2)), (13, .one (.int .i64 v3))] [] : St D0) (zq52.K116 N Kn58) = zq52.d1 N v0 v1 v2 v3 ((fun w0 w1 w2 w3 => Kn58 (mkSt [(0, .one (.sl false 25 w0)), (1, .one (.sl false 25 w1)), (12, .one (.int .i64 w2)), (13, .one (.int .i64 w3))] [] : St D0))) := by
  exact (zq52.o1.run N Kn58 v0 v1 v2 v3).trans rfl
def zq52.K58 (N : Nat) : Ex → St D0 → Option zq52.R := (blockK 0 (onN (fun s => zq52.C.tidy 14 s (fun s' => runC zq52.C (zq52.O N) N zq52.c15 15 s' zq52.K0)) zq52.K0))
def zq52.l1 (N : Nat) : Nat → (List S25) → (List S25) → Int → Int → Option zq52.R
  | 0, _, _, _, _ => none
  | n + 1, v0, v1, v2, v3 => zq52.d1 N v0 v1 v2 v3 ((fun w0 w1 w2 w3 => zq52.l1 N n w0 w1 w2 w3))
theorem zq52.loop58 (N : Nat) : ∀ n, (∀ (v0 : List S25) (v1 : List S25) (v2 : Int) (v3 : Int), iter (loopF zq52.C (zq52.O N) N zq52.c116 58) n (mkSt [(0, .one (.sl false 25 v0)), (1, .one (.sl false 25 v1)), (12, .one (.int .i64 v2)), (13, .one (.int .i64 v3))] [] : St D0) (zq52.K58 N) = zq52.l1 N n v0 v1 v2 v3)
  | 0 => (fun v0 v1 v2 v3 => rfl)
  | n + 1 => (fun v0 v1 v2 v3 => (zq52.d1.run N (fun s => iter (loopF zq52.C (zq52.O N) N zq52.c116 58) n s (zq52.K58 N)) v0 v1 v2 v3).trans (show _ = zq52.d1 N v0 v1 v2 v3 ((fun w0 w1 w2 w3 => zq52.l1 N n w0 w1 w2 w3)) from (congr rfl (funext fun w0 => funext fun w1 => funext fun w2 => funext fun w3 => (zq52.loop58 N n) w0 w1 w2 w3))))
def zq52.o0 (N : Nat) (a0 : List S25) (a1 : List S25) (c1 : (List S25) → (List S25) → Int → Int → Option zq52.R) : Option zq52.R :=
 bif ((a0.length : Int) != (a1.length : Int)) then
  some (false)
 else
 c1 a0 a1 (a0.length : Int) 0
theorem zq52.o0.run (N : Nat) (H116 : Code) (a0 : List S25) (a1 : List S25) : runC zq52.C (zq52.O N) N (.seq zq52.c2 (.seq zq52.c6 (.seq (.seq zq52.c28 (.block 0 (.loop H116))) zq52.c15))) 1 (st0 [.one (.sl false 25 a0), .one (.sl false 25 a1)] [] : St D0) zq52.K0 = zq52.o0 N a0 a1 ((fun w0 w1 w2 w3 => iter (loopF zq52.C (zq52.O N) N H116 58) N (mkSt [(0, .one (.sl false 25 w0)), (1, .one (.sl false 25 w1)), (12, .one (.int .i64 w2)), (13, .one (.int .i64 w3))] [] : St D0) (blockK 0 (onN (fun s => zq52.C.tidy 14 s (fun s' => runC zq52.C (zq52.O N) N zq52.c15 15 s' zq52.K0)) zq52.K0)))) := by kernel_rfl
def zq52.g (N : Nat) (a0 : List S25) (a1 : List S25) : Option zq52.R := zq52.o0 N a0 a1 ((fun w0 w1 w2 w3 => zq52.l1 N N w0 w1 w2 w3))
theorem zq52.c1_0 : zq52.c1 = (.seq zq52.c2 (.seq zq52.c6 (.seq (.seq zq52.c28 (.block 0 (.loop zq52.c116))) zq52.c15))) := by kernel_rfl
theorem zq52.g.run (N : Nat) (a0 : List S25) (a1 : List S25) : runC zq52.C (zq52.O N) N zq52.c1 1 (st0 [.one (.sl false 25 a0), .one (.sl false 25 a1)] [] : St D0) zq52.K0 = zq52.g N a0 a1 := by
  rw [zq52.c1_0]; unfold zq52.g; exact (zq52.o0.run N zq52.c116 a0 a1).trans (congr rfl (funext fun w0 => funext fun w1 => funext fun w2 => funext fun w3 => (zq52.loop58 N N) w0 w1 w2 w3))
theorem zq52.good (N : Nat) (a0 : List S25) (a1 : List S25) (r : zq52.R) (h : zq52.g N a0 a1 = some r) : Go.PM.Good Tryz.prog T0 23 [.one (.sl false 25 a0), .one (.sl false 25 a1)] [] (zq52.sig.ret r) (zq52.sig.bs r) :=
  good_fn tabOk0 mixed0 zq52.sig (zq52.E N) Tryz.func23 (by kernel_rfl) (by kernel_rfl) 16806963 0 0 [(58, [0, 1, 12, 13], [])] 3344704 false [] [(false, [.any])] (by kernel_rfl) rfl rfl ((zq52.g.run N a0 a1).trans h)
def zq52.ent (N : Nat) : Ent Tryz.prog T0 := mkEnt 23 [(false, [.ro 25]), (false, [.ro 25])] zq52.sig (fun t => zq52.g N t.1 t.2) (fun t r h => zq52.good N t.1 t.2 r h)
/-! ### zq49 -/
abbrev zq49.R : Type := Bool
abbrev zq49.sig : Sig := ⟨[(false, 1)], [], [.sl false 25], [(false, 1)], [], [.bool]⟩
def zq49.C : Cfg D0 := ⟨Tryz.prog, T0, 17179869325, 0, 35, 0, [(26, [0, 3], [])], 415436080, false, []⟩
def zq49.E (N : Nat) : List (Ent Tryz.prog T0) := []
def zq49.O (N : Nat) : Orc D0 zq49.R := orcOf (zq49.E N)
def zq49.K0 : Ex → St D0 → Option zq49.R := exitK zq49.C Tryz.f26.results.toList [(false, [.any])] (decOut zq49.sig)
def zq49.c1 : Code := codeAt (Tryz.f26.body.getD .skip) []
def zq49.c2 : Code := codeAt (Tryz.f26.body.getD .skip) [false]
def zq49.c7 : Code := codeAt (Tryz.f26.body.getD .skip) [true, true]
def zq49.c12 : Code := codeAt (Tryz.f26.body.getD .skip) [true, false, false]
def zq49.c52 : Code := codeAt (Tryz.f26.body.getD .skip) [true, false, true, false, false]
def zq49.K52 (N : Nat) (Kn26 : St D0 → Option zq49.R) : Ex → St D0 → Option zq49.R := ((fun up => (onN (fun s => zq49.C.tidy 26 s ((onN Kn26 up) .normal)) (onN Kn26 up))) (blockK 0 (onN (fun s => zq49.C.tidy 6 s (fun s' => runC zq49.C (zq49.O N) N zq49.c7 7 s' zq49.K0)) zq49.K0)))
def zq49.o1 (N : Nat) (v0 : List S25) (v1 : Int) (c1 : (List S25) → Int → Option zq49.R) : Option zq49.R :=
 bif (decide (v1 < (v0.length : Int))) then
  bif (decide (0 ≤ (w64 (v1 - 1)))) then
   bif (decide ((w64 (v1 - 1)) < (v0.length : Int))) then
    (v0[((w64 (v1 - 1)) : Int).toNat]?).bind fun x1 =>
    bif (decide (0 ≤ v1)) then
     bif (decide (v1 < (v0.length : Int))) then
      (v0[(v1 : Int).toNat]?).bind fun x2 =>
      bif (decide (0 ≤ v1)) then
       bif (decide (v1 < (v0.length : Int))) then
        (v0[(v1 : Int).toNat]?).bind fun x3 =>
        bif (decide (0 ≤ (w64 (v1 - 1)))) then
         bif (decide ((w64 (v1 - 1)) < (v0.length : Int))) then
          (v0[((w64 (v1 - 1)) : Int).toNat]?).bind fun x4 =>
          bif (decide ((w64 (x1.f0 * x2.f1)) ≥ (w64 (x3.f0 * x4.f1)))) then
           some (false)
          else
          c1 v0 (w64 (v1 + 1))
         else
         none
        else
        none
       else
       none
      else
      none
     else
     none
    else
    none
   else
   none
  else
  none
 else
 some (true)
theorem zq49.o1.run (N : Nat) (Kn26 : St D0 → Option zq49.R) (v0 : List S25) (v1 : Int) : runC zq49.C (zq49.O N) N zq49.c52 52 (mkSt [(0, .one (.sl false 25 v0)), (3, .one (.int .i64 v1))] [] : St D0) ((fun up => (onN (fun s => zq49.C.tidy 26 s ((onN Kn26 up) .normal)) (onN Kn26 up))) (blockK 0 (onN (fun s => zq49.C.tidy 6 s (fun s' => runC zq49.C (zq49.O N) N zq49.c7 7 s' zq49.K0)) zq49.K0))) = zq49.o1 N v0 v1 ((fun w0 w1 => Kn26 (mkSt [(0, .one (.sl false 25 w0)), (3, .one (.int .i64 w1))] [] : St D0))) := by kernel_rfl
def zq49.d1 (N : Nat) (v0 : List S25) (v1 : Int) (c1 : (List S25) → Int → Option zq49.R) : Option zq49.R := zq49.o1 N v0 v1 c1
theorem zq49.d1.run (N : Nat) (Kn26 : St D0 → Option zq49.R) (v0 : List S25) (v1 : Int) : runC zq49.C (zq49.O N) N zq49.c52 52 (mkSt [(0, .one (.sl false 25 v0)), (3, .one (.int .i64 v1))] [] : St D0) (zq49.K52 N Kn26) = zq49.d1 N v0 v1 ((fun w0 w1 => Kn26 (mkSt [(0, .one (.sl false 25 w0)), (3, .one (.int .i64 w1))] [] : St D0))) := by
  exact (zq49.o1.run N Kn26 v0 v1).trans rfl
def zq49.K26 (N : Nat) : Ex → St D0 → Option zq49.R := (blockK 0 (onN (fun s => zq49.C.tidy 6 s (fun s' => runC zq49.C (zq49.O N) N zq49.c7 7 s' zq49.K0)) zq49.K0))
def zq49.l1 (N : Nat) : Nat → (List S25) → Int → Option zq49.R
  | 0, _, _ => none
  | n + 1, v0, v1 => zq49.d1 N v0 v1 ((fun w0 w1 => zq49.l1 N n w0 w1))
theorem zq49.loop26 (N : Nat) : ∀ n, (∀ (v0 : List S25) (v1 : Int), iter (loopF zq49.C (zq49.O N) N zq49.c52 26) n (mkSt [(0, .one (.sl false 25 v0)), (3, .one (.int .i64 v1))] [] : St D0) (zq49.K26 N) = zq49.l1 N n v0 v1)
  | 0 => (fun v0 v1 => rfl)
  | n + 1 => (fun v0 v1 => (zq49.d1.run N (fun s => iter (loopF zq49.C (zq49.O N) N zq49.c52 26) n s (zq49.K26 N)) v0 v1).trans (show _ = zq49.d1 N v0 v1 ((fun w0 w1 => zq49.l1 N n w0 w1)) from (congr rfl (funext fun w0 => funext fun w1 => (zq49.loop26 N n) w0 w1))))
def zq49.o0 (N : Nat) (a0 : List S25) (c1 : (List S25) → Int → Option zq49.R) : Option zq49.R :=
 c1 a0 1
theorem zq49.o0.run (N : Nat) (H52 : Code) (a0 : List S25) : runC zq49.C (zq49.O N) N (.seq zq49.c2 (.seq (.seq zq49.c12 (.block 0 (.loop H52))) zq49.c7)) 1 (st0 [.one (.sl false 25 a0)] [] : St D0) zq49.K0 = zq49.o0 N a0 ((fun w0 w1 => iter (loopF zq49.C (zq49.O N) N H52 26) N (mkSt [(0, .one (.sl false 25 w0)), (3, .one (.int .i64 w1))] [] : St D0) (blockK 0 (onN (fun s => zq49.C.tidy 6 s (fun s' => runC zq49.C (zq49.O N) N zq49.c7 7 s' zq49.K0)) zq49.K0)))) := by kernel_rfl
def zq49.g (N : Nat) (a0 : List S25) : Option zq49.R := zq49.o0 N a0 ((fun w0 w1 => zq49.l1 N N w0 w1))
theorem zq49.c1_0 : zq49.c1 = (.seq zq49.c2 (.seq (.seq zq49.c12 (.block 0 (.loop zq49.c52))) zq49.c7)) := by kernel_rfl
theorem zq49.g.run (N : Nat) (a0 : List S25) : runC zq49.C (zq49.O N) N zq49.c1 1 (st0 [.one (.sl false 25 a0)] [] : St D0) zq49.K0 = zq49.g N a0 := by
  rw [zq49.c1_0]; unfold zq49.g; exact (zq49.o0.run N zq49.c52 a0).trans (congr rfl (funext fun w0 => funext fun w1 => (zq49.loop26 N N) w0 w1))
theorem zq49.good (N : Nat) (a0 : List S25) (r : zq49.R) (h : zq49.g N a0 = some r) : Go.PM.Good Tryz.prog T0 26 [.one (.sl false 25 a0)] [] (zq49.sig.ret r) (zq49.sig.bs r) :=
  good_fn tabOk0 mixed0 zq49.sig (zq49.E N) Tryz.func26 (by kernel_rfl) (by kernel_rfl) 17179869325 0 0 [(26, [0, 3], [])] 415436080 false [] [(false, [.any])] (by kernel_rfl) rfl rfl ((zq49.g.run N a0).trans h)
def zq49.ent (N : Nat) : Ent Tryz.prog T0 := mkEnt 26 [(false, [.ro 25])] zq49.sig (fun t => zq49.g N t) (fun t r h => zq49.good N t r h)
/-! ### zq38 -/
abbrev zq38.R : Type := Bool
abbrev zq38.sig : Sig := ⟨[(false, 1), (false, 1)], [], [.int .i64, .int .i64], [(false, 1)], [], [.bool]⟩
def zq38.C : Cfg D0 := ⟨Tryz.prog, T0, 19, 0, 23, 0, [], 399648, false, []⟩
def zq38.E (N : Nat) : List (Ent Tryz.prog T0) := [zq46.ent N]
def zq38.O (N : Nat) : Orc D0 zq38.R := orcOf (zq38.E N)
def zq38.K0 : Ex → St D0 → Option zq38.R := exitK zq38.C Tryz.f120.results.toList [(false, [.any])] (decOut zq38.sig)
def zq38.c1 : Code := codeAt (Tryz.f120.body.getD .skip) []
def zq38.o0 (N : Nat) (a0 : Int) (a1 : Int) : Option zq38.R :=
 bif (a0 == 0) then
  some (true)
 else
 bif (decide (a1 > 0)) then
  (zq46.g N a0 (w64 (a1 + 1)) 10000).bind fun r1 =>
  bif r1 then
   bif (a1 == 0) then
    none
   else
   some (((Int.tmod a0 a1) == 0))
  else
  some (false)
 else
 some (false)
theorem zq38.o0.run (N : Nat) (a0 : Int) (a1 : Int) : runC zq38.C (zq38.O N) N zq38.c1 1 (st0 [.one (.int .i64 a0), .one (.int .i64 a1)] [] : St D0) zq38.K0 = zq38.o0 N a0 a1 := by kernel_rfl
def zq38.g (N : Nat) (a0 : Int) (a1 : Int) : Option zq38.R := zq38.o0 N a0 a1
theorem zq38.g.run (N : Nat) (a0 : Int) (a1 : Int) : runC zq38.C (zq38.O N) N zq38.c1 1 (st0 [.one (.int .i64 a0), .one (.int .i64 a1)] [] : St D0) zq38.K0 = zq38.g N a0 a1 := by
  exact (zq38.o0.run N a0 a1).trans rfl
theorem zq38.good (N : Nat) (a0 : Int) (a1 : Int) (r : zq38.R) (h : zq38.g N a0 a1 = some r) : Go.PM.Good Tryz.prog T0 120 [.one (.int .i64 a0), .one (.int .i64 a1)] [] (zq38.sig.ret r) (zq38.sig.bs r) :=
  good_fn tabOk0 mixed0 zq38.sig (zq38.E N) Tryz.func120 (by kernel_rfl) (by kernel_rfl) 19 0 0 [] 399648 false [] [(false, [.any])] (by kernel_rfl) rfl rfl ((zq38.g.run N a0 a1).trans h)
def zq38.ent (N : Nat) : Ent Tryz.prog T0 := mkEnt 120 [(false, [.any]), (false, [.any])] zq38.sig (fun t => zq38.g N t.1 t.2) (fun t r h => zq38.good N t.1 t.2 r h)
/-! ### zq6 -/
abbrev zq6.R : Type := Bool
abbrev zq6.sig : Sig := ⟨[(true, 3)], [], [.int .i64, .int .i64, .int .i64], [(false, 1)], [], [.bool]⟩
def zq6.C : Cfg D0 := ⟨Tryz.prog, T0, 7, 0, 20, 0, [], 0, false, []⟩
def zq6.E (N : Nat) : List (Ent Tryz.prog T0) := [zq46.ent N, zq38.ent N]
def zq6.O (N : Nat) : Orc D0 zq6.R := orcOf (zq6.E N)
def zq6.K0 : Ex → St D0 → Option zq6.R := exitK zq6.C Tryz.f92.results.toList [(false, [.any])] (decOut zq6.sig)
def zq6.c1 : Code := codeAt (Tryz.f92.body.getD .skip) []
def zq6.o0 (N : Nat) (a0_0 : Int) (a0_1 : Int) (a0_2 : Int) : Option zq6.R :=
 (zq46.g N a0_0 1 10000).bind fun r1 =>
 bif r1 then
  (zq38.g N a0_1 a0_0).bind fun r2 =>
  bif r2 then
   (zq38.g N a0_2 a0_1).bind fun r3 =>
   some (r3)
  else
  some (false)
 else
 some (false)
theorem zq6.o0.run (N : Nat) (a0_0 : Int) (a0_1 : Int) (a0_2 : Int) : runC zq6.C (zq6.O N) N zq6.c1 1 (st0 [.agg [.int .i64 a0_0, .int .i64 a0_1, .int .i64 a0_2]] [] : St D0) zq6.K0 = zq6.o0 N a0_0 a0_1 a0_2 := by kernel_rfl
def zq6.g (N : Nat) (a0_0 : Int) (a0_1 : Int) (a0_2 : Int) : Option zq6.R := zq6.o0 N a0_0 a0_1 a0_2
theorem zq6.g.run (N : Nat) (a0_0 : Int) (a0_1 : Int) (a0_2 : Int) : runC zq6.C (zq6.O N) N zq6.c1 1 (st0 [.agg [.int .i64 a0_0, .int .i64 a0_1, .int .i64 a0_2]] [] : St D0) zq6.K0 = zq6.g N a0_0 a0_1 a0_2 := by
  exact (zq6.o0.run N a0_0 a0_1 a0_2).trans rfl
theorem zq6.good (N : Nat) (a0_0 : Int) (a0_1 : Int) (a0_2 : Int) (r : zq6.R) (h : zq6.g N a0_0 a0_1 a0_2 = some r) : Go.PM.Good Tryz.prog T0 92 [.agg [.int .i64 a0_0, .int .i64 a0_1, .int .i64 a0_2]] [] (zq6.sig.ret r) (zq6.sig.bs r) :=
  good_fn tabOk0 mixed0 zq6.sig (zq6.E N) Tryz.func92 (by kernel_rfl) (by kernel_rfl) 7 0 0 [] 0 false [] [(false, [.any])] (by kernel_rfl) rfl rfl ((zq6.g.run N a0_0 a0_1 a0_2).trans h)
def zq6.ent (N : Nat) : Ent Tryz.prog T0 := mkEnt 92 [(true, [.any, .any, .any])] zq6.sig (fun t => zq6.g N t.1 t.2.1 t.2.2) (fun t r h => zq6.good N t.1 t.2.1 t.2.2 r h)
/-! ### zq37 -/
abbrev zq37.R : Type := Bool
abbrev zq37.sig : Sig := ⟨[(false, 1), (false, 1)], [], [.int .i64, .int .i64], [(false, 1)], [], [.bool]⟩
def zq37.C : Cfg D0 := ⟨Tryz.prog, T0, 19, 0, 13, 0, [], 800, false, []⟩
def zq37.E (N : Nat) : List (Ent Tryz.prog T0) := [zq46.ent N]
def zq37.O (N : Nat) : Orc D0 zq37.R := orcOf (zq37.E N)
def zq37.K0 : Ex → St D0 → Option zq37.R := exitK zq37.C Tryz.f93.results.toList [(false, [.any])] (decOut zq37.sig)
def zq37.c1 : Code := codeAt (Tryz.f93.body.getD .skip) []
def zq37.o0 (N : Nat) (a0 : Int) (a1 : Int) : Option zq37.R :=
 (zq46.g N a1 1 100000).bind fun r1 =>
 bif r1 then
  (zq46.g N a0 1 (w64 (a1 - 1))).bind fun r2 =>
  some (r2)
 else
 some (false)
theorem zq37.o0.run (N : Nat) (a0 : Int) (a1 : Int) : runC zq37.C (zq37.O N) N zq37.c1 1 (st0 [.one (.int .i64 a0), .one (.int .i64 a1)] [] : St D0) zq37.K0 = zq37.o0 N a0 a1 := by kernel_rfl
def zq37.g (N : Nat) (a0 : Int) (a1 : Int) : Option zq37.R := zq37.o0 N a0 a1
theorem zq37.g.run (N : Nat) (a0 : Int) (a1 : Int) : runC zq37.C (zq37.O N) N zq37.c1 1 (st0 [.one (.int .i64 a0), .one (.int .i64 a1)] [] : St D0) zq37.K0 = zq37.g N a0 a1 := by
  exact (zq37.o0.run N a0 a1).trans rfl
theorem zq37.good (N : Nat) (a0 : Int) (a1 : Int) (r : zq37.R) (h : zq37.g N a0 a1 = some r) : Go.PM.Good Tryz.prog T0 93 [.one (.int .i64 a0), .one (.int .i64 a1)] [] (zq37.sig.ret r) (zq37.sig.bs r) :=
  good_fn tabOk0 mixed0 zq37.sig (zq37.E N) Tryz.func93 (by kernel_rfl) (by kernel_rfl) 19 0 0 [] 800 false [] [(false, [.any])] (by kernel_rfl) rfl rfl ((zq37.g.run N a0 a1).trans h)
def zq37.ent (N : Nat) : Ent Tryz.prog T0 := mkEnt 93 [(false, [.any]), (false, [.any])] zq37.sig (fun t => zq37.g N t.1 t.2) (fun t r h => zq37.good N t.1 t.2 r h)
/-! ### zq8 -/
abbrev zq8.R : Type := Int
abbrev zq8.sig : Sig := ⟨[(true, 3)], [], [.int .i64, .int .i64, .int .i64], [(false, 1)], [], [.int .i64]⟩
def zq8.C : Cfg D0 := ⟨Tryz.prog, T0, 527, 0, 17, 0, [], 0, false, []⟩
def zq8.E (N : Nat) : List (Ent Tryz.prog T0) := []
def zq8.O (N : Nat) : Orc D0 zq8.R := orcOf (zq8.E N)
def zq8.K0 : Ex → St D0 → Option zq8.R := exitK zq8.C Tryz.f99.results.toList [(false, [.any])] (decOut zq8.sig)
def zq8.c1 : Code := codeAt (Tryz.f99.body.getD .skip) []
def zq8.o0 (N : Nat) (a0_0 : Int) (a0_1 : Int) (a0_2 : Int) : Option zq8.R :=
 bif (decide (a0_2 > 0)) then
  some (a0_2)
 else
 bif (decide (a0_1 > 0)) then
  some (a0_1)
 else
 some (a0_0)
theorem zq8.o0.run (N : Nat) (a0_0 : Int) (a0_1 : Int) (a0_2 : Int) : runC zq8.C (zq8.O N) N zq8.c1 1 (st0 [.agg [.int .i64 a0_0, .int .i64 a0_1, .int .i64 a0_2]] [] : St D0) zq8.K0 = zq8.o0 N a0_0 a0_1 a0_2 := by kernel_rfl
def zq8.g (N : Nat) (a0_0 : Int) (a0_1 : Int) (a0_2 : Int) : Option zq8.R := zq8.o0 N a0_0 a0_1 a0_2
theorem zq8.g.run (N : Nat) (a0_0 : Int) (a0_1 : Int) (a0_2 : Int) : runC zq8.C (zq8.O N) N zq8.c1 1 (st0 [.agg [.int .i64 a0_0, .int .i64 a0_1, .int .i64 a0_2]] [] : St D0) zq8.K0 = zq8.g N a0_0 a0_1 a0_2 := by
  exact (zq8.o0.run N a0_0 a0_1 a0_2).trans rfl
theorem zq8.good (N : Nat) (a0_0 : Int) (a0_1 : Int) (a0_2 : Int) (r : zq8.R) (h : zq8.g N a0_0 a0_1 a0_2 = some r) : Go.PM.Good Tryz.prog T0 99 [.agg [.int .i64 a0_0, .int .i64 a0_1, .int .i64 a0_2]] [] (zq8.sig.ret r) (zq8.sig.bs r) :=
  good_fn tabOk0 mixed0 zq8.sig (zq8.E N) Tryz.func99 (by kernel_rfl) (by kernel_rfl) 527 0 0 [] 0 false [] [(false, [.any])] (by kernel_rfl) rfl rfl ((zq8.g.run N a0_0 a0_1 a0_2).trans h)
def zq8.ent (N : Nat) : Ent Tryz.prog T0 := mkEnt 99 [(true, [.any, .any, .any])] zq8.sig (fun t => zq8.g N t.1 t.2.1 t.2.2) (fun t r h => zq8.good N t.1 t.2.1 t.2.2 r h)
/-! ### zq9 -/
abbrev zq9.R : Type := Int
abbrev zq9.sig : Sig := ⟨[(true, 3), (false, 1)], [], [.int .i64, .int .i64, .int .i64, .int .i64], [(false, 1)], [], [.int .i64]⟩
def zq9.C : Cfg D0 := ⟨Tryz.prog, T0, 2101303, 0, 29, 0, [(14, [1, 2, 5], [2]), (30, [5], [])], 12607552, false, []⟩
def zq9.E (N : Nat) : List (Ent Tryz.prog T0) := []
def zq9.O (N : Nat) : Orc D0 zq9.R := orcOf (zq9.E N)
def zq9.K0 : Ex → St D0 → Option zq9.R := exitK zq9.C Tryz.f100.results.toList [(false, [.any])] (decOut zq9.sig)
def zq9.c1 : Code := codeAt (Tryz.f100.body.getD .skip) []
def zq9.c2 : Code := codeAt (Tryz.f100.body.getD .skip) [false]
def zq9.c6 : Code := codeAt (Tryz.f100.body.getD .skip) [true, false]
def zq9.c14 : Code := codeAt (Tryz.f100.body.getD .skip) [true, true, false]
def zq9.c15 : Code := codeAt (Tryz.f100.body.getD .skip) [true, true, true]
def zq9.c30 : Code := codeAt (Tryz.f100.body.getD .skip) [true, true, true, false]
def zq9.c31 : Code := codeAt (Tryz.f100.body.getD .skip) [true, true, true, true]
def zq9.K31 (N : Nat) : Ex → St D0 → Option zq9.R := zq9.K0
def zq9.o2 (N : Nat) (v0 : Int) : Option zq9.R :=
 some (v0)
theorem zq9.o2.run (N : Nat) (v0 : Int) : runC zq9.C (zq9.O N) N zq9.c31 31 (mkSt [(5, .one (.int .i64 v0))] [] : St D0) zq9.K0 = zq9.o2 N v0 := by kernel_rfl
def zq9.d2 (N : Nat) (v0 : Int) : Option zq9.R := zq9.o2 N v0
theorem zq9.d2.run (N : Nat) (v0 : Int) : runC zq9.C (zq9.O N) N zq9.c31 31 (mkSt [(5, .one (.int .i64 v0))] [] : St D0) (zq9.K31 N) = zq9.d2 N v0 := by
  exact (zq9.o2.run N v0).trans rfl
def zq9.K15 (N : Nat) : Ex → St D0 → Option zq9.R := zq9.K0
def zq9.o1 (N : Nat) (v0 : Int) (v1 : Int) (v2 : Int) (v3 : Int) (v4 : Int) (c2 : Int → Option zq9.R) : Option zq9.R :=
 bif (decide (v4 > 0)) then
  bif (v4 == 0) then
   none
  else
  c2 (w64 (v1 + (w64 (Int.tdiv v0 v4))))
 else
 c2 v1
theorem zq9.o1.run (N : Nat) (H31 : Code) (v0 : Int) (v1 : Int) (v2 : Int) (v3 : Int) (v4 : Int) : runC zq9.C (zq9.O N) N (.seq zq9.c30 H31) 15 (mkSt [(1, .one (.int .i64 v0)), (2, .one (.ptr 2 0)), (5, .one (.int .i64 v1))] [(2, some (47, [.int .i64 v2, .int .i64 v3, .int .i64 v4]))] : St D0) zq9.K0 = zq9.o1 N v0 v1 v2 v3 v4 ((fun w0 => runC zq9.C (zq9.O N) N H31 31 (mkSt [(5, .one (.int .i64 w0))] [] : St D0) zq9.K0)) := by kernel_rfl
def zq9.B15 (N : Nat) : St D0 → Option zq9.R := fun s' => runC zq9.C (zq9.O N) N zq9.c31 31 s' (zq9.K31 N)
def zq9.d1 (N : Nat) (v0 : Int) (v1 : Int) (v2 : Int) (v3 : Int) (v4 : Int) : Option zq9.R := zq9.o1 N v0 v1 v2 v3 v4 ((fun w0 => zq9.d2 N w0))
theorem zq9.c15_1 : zq9.c15 = (.seq zq9.c30 zq9.c31) := by kernel_rfl
theorem zq9.d1.run (N : Nat) (v0 : Int) (v1 : Int) (v2 : Int) (v3 : Int) (v4 : Int) : runC zq9.C (zq9.O N) N zq9.c15 15 (mkSt [(1, .one (.int .i64 v0)), (2, .one (.ptr 2 0)), (5, .one (.int .i64 v1))] [(2, some (47, [.int .i64 v2, .int .i64 v3, .int .i64 v4]))] : St D0) (zq9.K15 N) = zq9.d1 N v0 v1 v2 v3 v4 := by
  rw [zq9.c15_1]; unfold zq9.d1; exact (zq9.o1.run N zq9.c31 v0 v1 v2 v3 v4).trans (congr rfl (funext fun w0 => zq9.d2.run N w0))
def zq9.o0 (N : Nat) (a0_0 : Int) (a0_1 : Int) (a0_2 : Int) (a1 : Int) (c1 : Int → Int → Int → Int → Int → Option zq9.R) : Option zq9.R :=
 bif (a0_0 == 0) then
  none
 else
 bif (decide (a0_1 > 0)) then
  bif (a0_1 == 0) then
   none
  else
  c1 a1 (w64 ((w64 (Int.tdiv a1 a0_0)) - (w64 (Int.tdiv a1 a0_1)))) a0_0 a0_1 a0_2
 else
 c1 a1 (w64 (Int.tdiv a1 a0_0)) a0_0 a0_1 a0_2
theorem zq9.o0.run (N : Nat) (H15 : Code) (a0_0 : Int) (a0_1 : Int) (a0_2 : Int) (a1 : Int) : runC zq9.C (zq9.O N) N (.seq zq9.c2 (.seq zq9.c6 (.seq zq9.c14 H15))) 1 (st0 [.agg [.int .i64 a0_0, .int .i64 a0_1, .int .i64 a0_2], .one (.int .i64 a1)] [] : St D0) zq9.K0 = zq9.o0 N a0_0 a0_1 a0_2 a1 ((fun w0 w1 w2 w3 w4 => runC zq9.C (zq9.O N) N H15 15 (mkSt [(1, .one (.int .i64 w0)), (2, .one (.ptr 2 0)), (5, .one (.int .i64 w1))] [(2, some (47, [.int .i64 w2, .int .i64 w3, .int .i64 w4]))] : St D0) zq9.K0)) := by kernel_rfl
def zq9.g (N : Nat) (a0_0 : Int) (a0_1 : Int) (a0_2 : Int) (a1 : Int) : Option zq9.R := zq9.o0 N a0_0 a0_1 a0_2 a1 ((fun w0 w1 w2 w3 w4 => zq9.d1 N w0 w1 w2 w3 w4))
theorem zq9.c1_0 : zq9.c1 = (.seq zq9.c2 (.seq zq9.c6 (.seq zq9.c14 zq9.c15))) := by kernel_rfl
theorem zq9.g.run (N : Nat) (a0_0 : Int) (a0_1 : Int) (a0_2 : Int) (a1 : Int) : runC zq9.C (zq9.O N) N zq9.c1 1 (st0 [.agg [.int .i64 a0_0, .int .i64 a0_1, .int .i64 a0_2], .one (.int .i64 a1)] [] : St D0) zq9.K0 = zq9.g N a0_0 a0_1 a0_2 a1 := by
  rw [zq9.c1_0]; unfold zq9.g; exact (zq9.o0.run N zq9.c15 a0_0 a0_1 a0_2 a1).trans (congr rfl (funext fun w0 => funext fun w1 => funext fun w2 => funext fun w3 => funext fun w4 => zq9.d1.run N w0 w1 w2 w3 w4))
theorem zq9.good (N : Nat) (a0_0 : Int) (a0_1 : Int) (a0_2 : Int) (a1 : Int) (r : zq9.R) (h : zq9.g N a0_0 a0_1 a0_2 a1 = some r) : Go.PM.Good Tryz.prog T0 100 [.agg [.int .i64 a0_0, .int .i64 a0_1, .int .i64 a0_2], .one (.int .i64 a1)] [] (zq9.sig.ret r) (zq9.sig.bs r) :=
  good_fn tabOk0 mixed0 zq9.sig (zq9.E N) Tryz.func100 (by kernel_rfl) (by kernel_rfl) 2101303 0 0 [(14, [1, 2, 5], [2]), (30, [5], [])] 12607552 false [] [(false, [.any])] (by kernel_rfl) rfl rfl ((zq9.g.run N a0_0 a0_1 a0_2 a1).trans h)
def zq9.ent (N : Nat) : Ent Tryz.prog T0 := mkEnt 100 [(true, [.any, .any, .any]), (false, [.any])] zq9.sig (fun t => zq9.g N t.1 t.2.1 t.2.2.1 t.2.2.2) (fun t r h => zq9.good N t.1 t.2.1 t.2.2.1 t.2.2.2 r h)
/-! ### zq40 -/
abbrev zq40.R : Type := Int × Int
abbrev zq40.sig : Sig := ⟨[(false, 1), (false, 1)], [], [.int .i64, .int .i64], [(false, 1), (false, 1)], [], [.int .i64, .int .i64]⟩
def zq40.C : Cfg D0 := ⟨Tryz.prog, T0, 115, 0, 16, 0, [], 28032, false, []⟩
def zq40.E (N : Nat) : List (Ent Tryz.prog T0) := [zq33.ent N]
def zq40.O (N : Nat) : Orc D0 zq40.R := orcOf (zq40.E N)
def zq40.K0 : Ex → St D0 → Option zq40.R := exitK zq40.C Tryz.f121.results.toList [(false, [.any]), (false, [.any])] (decOut zq40.sig)
def zq40.c1 : Code := codeAt (Tryz.f121.body.getD .skip) []
def zq40.o0 (N : Nat) (a0 : Int) (a1 : Int) : Option zq40.R :=
 (zq33.g N a0 a1).bind fun r1 =>
 bif (r1 == 0) then
  none
 else
 bif (r1 == 0) then
  none
 else
 some ((w64 (Int.tdiv a0 r1)), (w64 (Int.tdiv a1 r1)))
theorem zq40.o0.run (N : Nat) (a0 : Int) (a1 : Int) : runC zq40.C (zq40.O N) N zq40.c1 1 (st0 [.one (.int .i64 a0), .one (.int .i64 a1)] [] : St D0) zq40.K0 = zq40.o0 N a0 a1 := by kernel_rfl
def zq40.g (N : Nat) (a0 : Int) (a1 : Int) : Option zq40.R := zq40.o0 N a0 a1
theorem zq40.g.run (N : Nat) (a0 : Int) (a1 : Int) : runC zq40.C (zq40.O N) N zq40.c1 1 (st0 [.one (.int .i64 a0), .one (.int .i64 a1)] [] : St D0) zq40.K0 = zq40.g N a0 a1 := by
  exact (zq40.o0.run N a0 a1).trans rfl
theorem zq40.good (N : Nat) (a0 : Int) (a1 : Int) (r : zq40.R) (h : zq40.g N a0 a1 = some r) : Go.PM.Good Tryz.prog T0 121 [.one (.int .i64 a0), .one (.int .i64 a1)] [] (zq40.sig.ret r) (zq40.sig.bs r) :=
  good_fn tabOk0 mixed0 zq40.sig (zq40.E N) Tryz.func121 (by kernel_rfl) (by kernel_rfl) 115 0 0 [] 28032 false [] [(false, [.any]), (false, [.any])] (by kernel_rfl) rfl rfl ((zq40.g.run N a0 a1).trans h)
def zq40.ent (N : Nat) : Ent Tryz.prog T0 := mkEnt 121 [(false, [.any]), (false, [.any])] zq40.sig (fun t => zq40.g N t.1 t.2) (fun t r h => zq40.good N t.1 t.2 r h)
/-! ### zq10 -/
abbrev zq10.R : Type := Int × Int
abbrev zq10.sig : Sig := ⟨[(true, 3), (false, 1), (false, 1)], [], [.int .i64, .int .i64, .int .i64, .int .i64, .int .i64], [(false, 1), (false, 1)], [], [.int .i64, .int .i64]⟩
def zq10.C : Cfg D0 := ⟨Tryz.prog, T0, 207, 0, 26, 0, [], 2117632, false, []⟩
def zq10.E (N : Nat) : List (Ent Tryz.prog T0) := [zq8.ent N, zq9.ent N, zq40.ent N]
def zq10.O (N : Nat) : Orc D0 zq10.R := orcOf (zq10.E N)
def zq10.K0 : Ex → St D0 → Option zq10.R := exitK zq10.C Tryz.f94.results.toList [(false, [.any]), (false, [.any])] (decOut zq10.sig)
def zq10.c1 : Code := codeAt (Tryz.f94.body.getD .skip) []
def zq10.o0 (N : Nat) (a0_0 : Int) (a0_1 : Int) (a0_2 : Int) (a1 : Int) (a2 : Int) : Option zq10.R :=
 (zq8.g N a0_0 a0_1 a0_2).bind fun r1 =>
 (zq9.g N a0_0 a0_1 a0_2 r1).bind fun r2 =>
 (zq8.g N a0_0 a0_1 a0_2).bind fun r3 =>
 (zq8.g N a0_0 a0_1 a0_2).bind fun r4 =>
 (zq40.g N (w64 ((w64 (r2 * a2)) - (w64 (a1 * r3)))) (w64 (r4 * a2))).bind fun r5 =>
 some (r5.1, r5.2)
theorem zq10.o0.run (N : Nat) (a0_0 : Int) (a0_1 : Int) (a0_2 : Int) (a1 : Int) (a2 : Int) : runC zq10.C (zq10.O N) N zq10.c1 1 (st0 [.agg [.int .i64 a0_0, .int .i64 a0_1, .int .i64 a0_2], .one (.int .i64 a1), .one (.int .i64 a2)] [] : St D0) zq10.K0 = zq10.o0 N a0_0 a0_1 a0_2 a1 a2 := by kernel_rfl
def zq10.g (N : Nat) (a0_0 : Int) (a0_1 : Int) (a0_2 : Int) (a1 : Int) (a2 : Int) : Option zq10.R := zq10.o0 N a0_0 a0_1 a0_2 a1 a2
theorem zq10.g.run (N : Nat) (a0_0 : Int) (a0_1 : Int) (a0_2 : Int) (a1 : Int) (a2 : Int) : runC zq10.C (zq10.O N) N zq10.c1 1 (st0 [.agg [.int .i64 a0_0, .int .i64 a0_1, .int .i64 a0_2], .one (.int .i64 a1), .one (.int .i64 a2)] [] : St D0) zq10.K0 = zq10.g N a0_0 a0_1 a0_2 a1 a2 := by
  exact (zq10.o0.run N a0_0 a0_1 a0_2 a1 a2).trans rfl
theorem zq10.good (N : Nat) (a0_0 : Int) (a0_1 : Int) (a0_2 : Int) (a1 : Int) (a2 : Int) (r : zq10.R) (h : zq10.g N a0_0 a0_1 a0_2 a1 a2 = some r) : Go.PM.Good Tryz.prog T0 94 [.agg [.int .i64 a0_0, .int .i64 a0_1, .int .i64 a0_2], .one (.int .i64 a1), .one (.int .i64 a2)] [] (zq10.sig.ret r) (zq10.sig.bs r) :=
  good_fn tabOk0 mixed0 zq10.sig (zq10.E N) Tryz.func94 (by kernel_rfl) (by kernel_rfl) 207 0 0 [] 2117632 false [] [(false, [.any]), (false, [.any])] (by kernel_rfl) rfl rfl ((zq10.g.run N a0_0 a0_1 a0_2 a1 a2).trans h)
def zq10.ent (N : Nat) : Ent Tryz.prog T0 := mkEnt 94 [(true, [.any, .any, .any]), (false, [.any]), (false, [.any])] zq10.sig (fun t => zq10.g N t.1 t.2.1 t.2.2.1 t.2.2.2.1 t.2.2.2.2) (fun t r h => zq10.good N t.1 t.2.1 t.2.2.1 t.2.2.2.1 t.2.2.2.2 r h)
/-! ### zq15 -/
abbrev zq15.R : Type := Int × Int × Bool
abbrev zq15.sig : Sig := ⟨[(true, 3), (false, 1), (false, 1)], [], [.int .i64, .int .i64, .int .i64, .int .i64, .int .i64], [(false, 1), (false, 1), (false, 1)], [], [.int .i64, .int .i64, .bool]⟩
def zq15.C : Cfg D0 := ⟨Tryz.prog, T0, 526287, 0, 29, 0, [(12, [1, 2, 3, 19], [3])], 12681216, false, []⟩
def zq15.E (N : Nat) : List (Ent Tryz.prog T0) := [zq6.ent N, zq37.ent N, zq10.ent N]
def zq15.O (N : Nat) : Orc D0 zq15.R := orcOf (zq15.E N)
def zq15.K0 : Ex → St D0 → Option zq15.R := exitK zq15.C Tryz.f33.results.toList [(false, [.any]), (false, [.any]), (false, [.any])] (decOut zq15.sig)
def zq15.c1 : Code := codeAt (Tryz.f33.body.getD .skip) []
def zq15.c2 : Code := codeAt (Tryz.f33.body.getD .skip) [false]
def zq15.c7 : Code := codeAt (Tryz.f33.body.getD .skip) [true, true]
def zq15.c12 : Code := codeAt (Tryz.f33.body.getD .skip) [true, false, false]
def zq15.c13 : Code := codeAt (Tryz.f33.body.getD .skip) [true, false, true]
def zq15.K13 (N : Nat) : Ex → St D0 → Option zq15.R := (onN (fun s => zq15.C.tidy 6 s (fun s' => runC zq15.C (zq15.O N) N zq15.c7 7 s' zq15.K0)) zq15.K0)
def zq15.o1 (N : Nat) (v0 : Int) (v1 : Int) (v2 : Bool) (v3 : Int) (v4 : Int) (v5 : Int) : Option zq15.R :=
 bif v2 then
  some (0, 0, false)
 else
 (zq10.g N v3 v4 v5 v0 v1).bind fun r1 =>
 some (r1.1, r1.2, true)
theorem zq15.o1.run (N : Nat) (v0 : Int) (v1 : Int) (v2 : Bool) (v3 : Int) (v4 : Int) (v5 : Int) : runC zq15.C (zq15.O N) N zq15.c13 13 (mkSt [(1, .one (.int .i64 v0)), (2, .one (.int .i64 v1)), (3, .one (.ptr 3 0)), (19, .one (.bool v2))] [(3, some (47, [.int .i64 v3, .int .i64 v4, .int .i64 v5]))] : St D0) (onN (fun s => zq15.C.tidy 6 s (fun s' => runC zq15.C (zq15.O N) N zq15.c7 7 s' zq15.K0)) zq15.K0) = zq15.o1 N v0 v1 v2 v3 v4 v5 := by kernel_rfl
def zq15.d1 (N : Nat) (v0 : Int) (v1 : Int) (v2 : Bool) (v3 : Int) (v4 : Int) (v5 : Int) : Option zq15.R := zq15.o1 N v0 v1 v2 v3 v4 v5
theorem zq15.d1.run (N : Nat) (v0 : Int) (v1 : Int) (v2 : Bool) (v3 : Int) (v4 : Int) (v5 : Int) : runC zq15.C (zq15.O N) N zq15.c13 13 (mkSt [(1, .one (.int .i64 v0)), (2, .one (.int .i64 v1)), (3, .one (.ptr 3 0)), (19, .one (.bool v2))] [(3, some (47, [.int .i64 v3, .int .i64 v4, .int .i64 v5]))] : St D0) (zq15.K13 N) = zq15.d1 N v0 v1 v2 v3 v4 v5 := by
  exact (zq15.o1.run N v0 v1 v2 v3 v4 v5).trans rfl
def zq15.o0 (N : Nat) (a0_0 : Int) (a0_1 : Int) (a0_2 : Int) (a1 : Int) (a2 : Int) (c1 : Int → Int → Bool → Int → Int → Int → Option zq15.R) : Option zq15.R :=
 (zq6.g N a0_0 a0_1 a0_2).bind fun r1 =>
 bif (!r1) then
  c1 a1 a2 true a0_0 a0_1 a0_2
 else
 (zq37.g N a1 a2).bind fun r2 =>
 c1 a1 a2 (!r2) a0_0 a0_1 a0_2
theorem zq15.o0.run (N : Nat) (H13 : Code) (a0_0 : Int) (a0_1 : Int) (a0_2 : Int) (a1 : Int) (a2 : Int) : runC zq15.C (zq15.O N) N (.seq zq15.c2 (.seq (.seq zq15.c12 H13) zq15.c7)) 1 (st0 [.agg [.int .i64 a0_0, .int .i64 a0_1, .int .i64 a0_2], .one (.int .i64 a1), .one (.int .i64 a2)] [] : St D0) zq15.K0 = zq15.o0 N a0_0 a0_1 a0_2 a1 a2 ((fun w0 w1 w2 w3 w4 w5 => runC zq15.C (zq15.O N) N H13 13 (mkSt [(1, .one (.int .i64 w0)), (2, .one (.int .i64 w1)), (3, .one (.ptr 3 0)), (19, .one (.bool w2))] [(3, some (47, [.int .i64 w3, .int .i64 w4, .int .i64 w5]))] : St D0) (onN (fun s => zq15.C.tidy 6 s (fun s' => runC zq15.C (zq15.O N) N zq15.c7 7 s' zq15.K0)) zq15.K0))) := by kernel_rfl
def zq15.g (N : Nat) (a0_0 : Int) (a0_1 : Int) (a0_2 : Int) (a1 : Int) (a2 : Int) : Option zq15.R := zq15.o0 N a0_0 a0_1 a0_2 a1 a2 ((fun w0 w1 w2 w3 w4 w5 => zq15.d1 N w0 w1 w2 w3 w4 w5))
theorem zq15.c1_0 : zq15.c1 = (.seq zq15.c2 (.seq (.seq zq15.c12 zq15.c13) zq15.c7)) := by kernel_rfl
theorem zq15.g.run (N : Nat) (a0_0 : Int) (a0_1 : Int) (a0_2 : Int) (a1 : Int) (a2 : Int) : runC zq15.C (zq15.O N) N zq15.c1 1 (st0 [.agg [.int .i64 a0_0, .int .i64 a0_1, .int .i64 a0_2], .one (.int .i64 a1), .one (.int .i64 a2)] [] : St D0) zq15.K0 = zq15.g N a0_0 a0_1 a0_2 a1 a2 := by
  rw [zq15.c1_0]; unfold zq15.g; exact (zq15.o0.run N zq15.c13 a0_0 a0_1 a0_2 a1 a2).trans (congr rfl (funext fun w0 => funext fun w1 => funext fun w2 => funext fun w3 => funext fun w4 => funext fun w5 => zq15.d1.run N w0 w1 w2 w3 w4 w5))
theorem zq15.good (N : Nat) (a0_0 : Int) (a0_1 : Int) (a0_2 : Int) (a1 : Int) (a2 : Int) (r : zq15.R) (h : zq15.g N a0_0 a0_1 a0_2 a1 a2 = some r) : Go.PM.Good Tryz.prog T0 33 [.agg [.int .i64 a0_0, .int .i64 a0_1, .int .i64 a0_2], .one (.int .i64 a1), .one (.int .i64 a2)] [] (zq15.sig.ret r) (zq15.sig.bs r) :=
  good_fn tabOk0 mixed0 zq15.sig (zq15.E N) Tryz.func33 (by kernel_rfl) (by kernel_rfl) 526287 0 0 [(12, [1, 2, 3, 19], [3])] 12681216 false [] [(false, [.any]), (false, [.any]), (false, [.any])] (by kernel_rfl) rfl rfl ((zq15.g.run N a0_0 a0_1 a0_2 a1 a2).trans h)
def zq15.ent (N : Nat) : Ent Tryz.prog T0 := mkEnt 33 [(true, [.any, .any, .any]), (false, [.any]), (false, [.any])] zq15.sig (fun t => zq15.g N t.1 t.2.1 t.2.2.1 t.2.2.2.1 t.2.2.2.2) (fun t r h => zq15.good N t.1 t.2.1 t.2.2.1 t.2.2.2.1 t.2.2.2.2 r h)
/-! ### zq86 -/
abbrev zq86.R : Type := Bool
abbrev zq86.sig : Sig := ⟨[(true, 3)], [], [.int .i64, .int .i64, .int .i64], [(false, 1)], [], [.bool]⟩
def zq86.C : Cfg D0 := ⟨Tryz.prog, T0, 2359303, 0, 58, 0, [(12, [1, 18], [1])], 0, false, []⟩
def zq86.E (N : Nat) : List (Ent Tryz.prog T0) := [zq110.ent N]
def zq86.O (N : Nat) : Orc D0 zq86.R := orcOf (zq86.E N)
def zq86.K0 : Ex → St D0 → Option zq86.R := exitK zq86.C Tryz.f95.results.toList [(false, [.any])] (decOut zq86.sig)
def zq86.c1 : Code := codeAt (Tryz.f95.body.getD .skip) []
def zq86.c2 : Code := codeAt (Tryz.f95.body.getD .skip) [false]
def zq86.c7 : Code := codeAt (Tryz.f95.body.getD .skip) [true, true]
def zq86.c12 : Code := codeAt (Tryz.f95.body.getD .skip) [true, false, false]
def zq86.c13 : Code := codeAt (Tryz.f95.body.getD .skip) [true, false, true]
def zq86.K13 (N : Nat) : Ex → St D0 → Option zq86.R := (onN (fun s => zq86.C.tidy 6 s (fun s' => runC zq86.C (zq86.O N) N zq86.c7 7 s' zq86.K0)) zq86.K0)
def zq86.o1 (N : Nat) (v0 : Bool) (v1 : Int) (v2 : Int) (v3 : Int) : Option zq86.R :=
 bif v0 then
  some (false)
 else
 bif (v2 == 0) then
  some ((v3 == 0))
 else
 bif (decide (v2 > v1)) then
  bif (v1 == 0) then
   none
  else
  bif ((Int.tmod v2 v1) == 0) then
   bif (v3 == 0) then
    some (true)
   else
   bif (decide (v3 > v2)) then
    bif (v2 == 0) then
     none
    else
    some (((Int.tmod v3 v2) == 0))
   else
   some (false)
  else
  some (false)
 else
 some (false)
theorem zq86.o1.run (N : Nat) (v0 : Bool) (v1 : Int) (v2 : Int) (v3 : Int) : runC zq86.C (zq86.O N) N zq86.c13 13 (mkSt [(1, .one (.ptr 1 0)), (18, .one (.bool v0))] [(1, some (47, [.int .i64 v1, .int .i64 v2, .int .i64 v3]))] : St D0) (onN (fun s => zq86.C.tidy 6 s (fun s' => runC zq86.C (zq86.O N) N zq86.c7 7 s' zq86.K0)) zq86.K0) = zq86.o1 N v0 v1 v2 v3 := by kernel_rfl
def zq86.d1 (N : Nat) (v0 : Bool) (v1 : Int) (v2 : Int) (v3 : Int) : Option zq86.R := zq86.o1 N v0 v1 v2 v3
theorem zq86.d1.run (N : Nat) (v0 : Bool) (v1 : Int) (v2 : Int) (v3 : Int) : runC zq86.C (zq86.O N) N zq86.c13 13 (mkSt [(1, .one (.ptr 1 0)), (18, .one (.bool v0))] [(1, some (47, [.int .i64 v1, .int .i64 v2, .int .i64 v3]))] : St D0) (zq86.K13 N) = zq86.d1 N v0 v1 v2 v3 := by
  exact (zq86.o1.run N v0 v1 v2 v3).trans rfl
def zq86.o0 (N : Nat) (a0_0 : Int) (a0_1 : Int) (a0_2 : Int) (c1 : Bool → Int → Int → Int → Option zq86.R) : Option zq86.R :=
 (zq110.g N a0_0 1 10000).bind fun r1 =>
 bif (!r1) then
  c1 true a0_0 a0_1 a0_2
 else
 (zq110.g N a0_1 0 10000).bind fun r2 =>
 bif (!r2) then
  c1 true a0_0 a0_1 a0_2
 else
 (zq110.g N a0_2 0 10000).bind fun r3 =>
 c1 (!r3) a0_0 a0_1 a0_2
theorem zq86.o0.run (N : Nat) (H13 : Code) (a0_0 : Int) (a0_1 : Int) (a0_2 : Int) : runC zq86.C (zq86.O N) N (.seq zq86.c2 (.seq (.seq zq86.c12 H13) zq86.c7)) 1 (st0 [.agg [.int .i64 a0_0, .int .i64 a0_1, .int .i64 a0_2]] [] : St D0) zq86.K0 = zq86.o0 N a0_0 a0_1 a0_2 ((fun w0 w1 w2 w3 => runC zq86.C (zq86.O N) N H13 13 (mkSt [(1, .one (.ptr 1 0)), (18, .one (.bool w0))] [(1, some (47, [.int .i64 w1, .int .i64 w2, .int .i64 w3]))] : St D0) (onN (fun s => zq86.C.tidy 6 s (fun s' => runC zq86.C (zq86.O N) N zq86.c7 7 s' zq86.K0)) zq86.K0))) := by kernel_rfl
def zq86.g (N : Nat) (a0_0 : Int) (a0_1 : Int) (a0_2 : Int) : Option zq86.R := zq86.o0 N a0_0 a0_1 a0_2 ((fun w0 w1 w2 w3 => zq86.d1 N w0 w1 w2 w3))
theorem zq86.c1_0 : zq86.c1 = (.seq zq86.c2 (.seq (.seq zq86.c12 zq86.c13) zq86.c7)) := by kernel_rfl
theorem zq86.g.run (N : Nat) (a0_0 : Int) (a0_1 : Int) (a0_2 : Int) : runC zq86.C (zq86.O N) N zq86.c1 1 (st0 [.agg [.int .i64 a0_0, .int .i64 a0_1, .int .i64 a0_2]] [] : St D0) zq86.K0 = zq86.g N a0_0 a0_1 a0_2 := by
  rw [zq86.c1_0]; unfold zq86.g; exact (zq86.o0.run N zq86.c13 a0_0 a0_1 a0_2).trans (congr rfl (funext fun w0 => funext fun w1 => funext fun w2 => funext fun w3 => zq86.d1.run N w0 w1 w2 w3))
theorem zq86.good (N : Nat) (a0_0 : Int) (a0_1 : Int) (a0_2 : Int) (r : zq86.R) (h : zq86.g N a0_0 a0_1 a0_2 = some r) : Go.PM.Good Tryz.prog T0 95 [.agg [.int .i64 a0_0, .int .i64 a0_1, .int .i64 a0_2]] [] (zq86.sig.ret r) (zq86.sig.bs r) :=
  good_fn tabOk0 mixed0 zq86.sig (zq86.E N) Tryz.func95 (by kernel_rfl) (by kernel_rfl) 2359303 0 0 [(12, [1, 18], [1])] 0 false [] [(false, [.any])] (by kernel_rfl) rfl rfl ((zq86.g.run N a0_0 a0_1 a0_2).trans h)
def zq86.ent (N : Nat) : Ent Tryz.prog T0 := mkEnt 95 [(true, [.any, .any, .any])] zq86.sig (fun t => zq86.g N t.1 t.2.1 t.2.2) (fun t r h => zq86.good N t.1 t.2.1 t.2.2 r h)
/-! ### zq84 -/
abbrev zq84.R : Type := Bool
abbrev zq84.sig : Sig := ⟨[(false, 1), (false, 1)], [], [.int .i64, .int .i64], [(false, 1)], [], [.bool]⟩
def zq84.C : Cfg D0 := ⟨Tryz.prog, T0, 19, 0, 13, 0, [], 800, false, []⟩
def zq84.E (N : Nat) : List (Ent Tryz.prog T0) := [zq110.ent N]
def zq84.O (N : Nat) : Orc D0 zq84.R := orcOf (zq84.E N)
def zq84.K0 : Ex → St D0 → Option zq84.R := exitK zq84.C Tryz.f96.results.toList [(false, [.any])] (decOut zq84.sig)
def zq84.c1 : Code := codeAt (Tryz.f96.body.getD .skip) []
def zq84.o0 (N : Nat) (a0 : Int) (a1 : Int) : Option zq84.R :=
 (zq110.g N a1 2 100000).bind fun r1 =>
 bif r1 then
  (zq110.g N a0 1 (w64 (a1 - 1))).bind fun r2 =>
  some (r2)
 else
 some (false)
theorem zq84.o0.run (N : Nat) (a0 : Int) (a1 : Int) : runC zq84.C (zq84.O N) N zq84.c1 1 (st0 [.one (.int .i64 a0), .one (.int .i64 a1)] [] : St D0) zq84.K0 = zq84.o0 N a0 a1 := by kernel_rfl
def zq84.g (N : Nat) (a0 : Int) (a1 : Int) : Option zq84.R := zq84.o0 N a0 a1
theorem zq84.g.run (N : Nat) (a0 : Int) (a1 : Int) : runC zq84.C (zq84.O N) N zq84.c1 1 (st0 [.one (.int .i64 a0), .one (.int .i64 a1)] [] : St D0) zq84.K0 = zq84.g N a0 a1 := by
  exact (zq84.o0.run N a0 a1).trans rfl
theorem zq84.good (N : Nat) (a0 : Int) (a1 : Int) (r : zq84.R) (h : zq84.g N a0 a1 = some r) : Go.PM.Good Tryz.prog T0 96 [.one (.int .i64 a0), .one (.int .i64 a1)] [] (zq84.sig.ret r) (zq84.sig.bs r) :=
  good_fn tabOk0 mixed0 zq84.sig (zq84.E N) Tryz.func96 (by kernel_rfl) (by kernel_rfl) 19 0 0 [] 800 false [] [(false, [.any])] (by kernel_rfl) rfl rfl ((zq84.g.run N a0 a1).trans h)
def zq84.ent (N : Nat) : Ent Tryz.prog T0 := mkEnt 96 [(false, [.any]), (false, [.any])] zq84.sig (fun t => zq84.g N t.1 t.2) (fun t r h => zq84.good N t.1 t.2 r h)
/-! ### zq83 -/
abbrev zq83.R : Type := Int
abbrev zq83.sig : Sig := ⟨[(true, 3)], [], [.int .i64, .int .i64, .int .i64], [(false, 1)], [], [.int .i64]⟩
def zq83.C : Cfg D0 := ⟨Tryz.prog, T0, 7, 0, 11, 0, [], 0, false, []⟩
def zq83.E (N : Nat) : List (Ent Tryz.prog T0) := [zq111.ent N]
def zq83.O (N : Nat) : Orc D0 zq83.R := orcOf (zq83.E N)
def zq83.K0 : Ex → St D0 → Option zq83.R := exitK zq83.C Tryz.f122.results.toList [(false, [.any])] (decOut zq83.sig)
def zq83.c1 : Code := codeAt (Tryz.f122.body.getD .skip) []
def zq83.o0 (N : Nat) (a0_0 : Int) (a0_1 : Int) (a0_2 : Int) : Option zq83.R :=
 (zq111.g N a0_1 a0_2).bind fun r1 =>
 (zq111.g N a0_0 r1).bind fun r2 =>
 some (r2)
theorem zq83.o0.run (N : Nat) (a0_0 : Int) (a0_1 : Int) (a0_2 : Int) : runC zq83.C (zq83.O N) N zq83.c1 1 (st0 [.agg [.int .i64 a0_0, .int .i64 a0_1, .int .i64 a0_2]] [] : St D0) zq83.K0 = zq83.o0 N a0_0 a0_1 a0_2 := by kernel_rfl
def zq83.g (N : Nat) (a0_0 : Int) (a0_1 : Int) (a0_2 : Int) : Option zq83.R := zq83.o0 N a0_0 a0_1 a0_2
theorem zq83.g.run (N : Nat) (a0_0 : Int) (a0_1 : Int) (a0_2 : Int) : runC zq83.C (zq83.O N) N zq83.c1 1 (st0 [.agg [.int .i64 a0_0, .int .i64 a0_1, .int .i64 a0_2]] [] : St D0) zq83.K0 = zq83.g N a0_0 a0_1 a0_2 := by
  exact (zq83.o0.run N a0_0 a0_1 a0_2).trans rfl
theorem zq83.good (N : Nat) (a0_0 : Int) (a0_1 : Int) (a0_2 : Int) (r : zq83.R) (h : zq83.g N a0_0 a0_1 a0_2 = some r) : Go.PM.Good Tryz.prog T0 122 [.agg [.int .i64 a0_0, .int .i64 a0_1, .int .i64 a0_2]] [] (zq83.sig.ret r) (zq83.sig.bs r) :=
  good_fn tabOk0 mixed0 zq83.sig (zq83.E N) Tryz.func122 (by kernel_rfl) (by kernel_rfl) 7 0 0 [] 0 false [] [(false, [.any])] (by kernel_rfl) rfl rfl ((zq83.g.run N a0_0 a0_1 a0_2).trans h)
def zq83.ent (N : Nat) : Ent Tryz.prog T0 := mkEnt 122 [(true, [.any, .any, .any])] zq83.sig (fun t => zq83.g N t.1 t.2.1 t.2.2) (fun t r h => zq83.good N t.1 t.2.1 t.2.2 r h)
/-! ### zq82 -/
abbrev zq82.R : Type := Int
abbrev zq82.sig : Sig := ⟨[(true, 3), (false, 1)], [], [.int .i64, .int .i64, .int .i64, .int .i64], [(false, 1)], [], [.int .i64]⟩
def zq82.C : Cfg D0 := ⟨Tryz.prog, T0, 2101303, 0, 29, 0, [(14, [1, 2, 5], [2]), (30, [5], [])], 12607552, false, []⟩
def zq82.E (N : Nat) : List (Ent Tryz.prog T0) := []
def zq82.O (N : Nat) : Orc D0 zq82.R := orcOf (zq82.E N)
def zq82.K0 : Ex → St D0 → Option zq82.R := exitK zq82.C Tryz.f123.results.toList [(false, [.any])] (decOut zq82.sig)
def zq82.c1 : Code := codeAt (Tryz.f123.body.getD .skip) []
def zq82.c2 : Code := codeAt (Tryz.f123.body.getD .skip) [false]
def zq82.c6 : Code := codeAt (Tryz.f123.body.getD .skip) [true, false]
def zq82.c14 : Code := codeAt (Tryz.f123.body.getD .skip) [true, true, false]
def zq82.c15 : Code := codeAt (Tryz.f123.body.getD .skip) [true, true, true]
def zq82.c30 : Code := codeAt (Tryz.f123.body.getD .skip) [true, true, true, false]
def zq82.c31 : Code := codeAt (Tryz.f123.body.getD .skip) [true, true, true, true]
def zq82.K31 (N : Nat) : Ex → St D0 → Option zq82.R := zq82.K0
def zq82.o2 (N : Nat) (v0 : Int) : Option zq82.R :=
 some (v0)
theorem zq82.o2.run (N : Nat) (v0 : Int) : runC zq82.C (zq82.O N) N zq82.c31 31 (mkSt [(5, .one (.int .i64 v0))] [] : St D0) zq82.K0 = zq82.o2 N v0 := by kernel_rfl
def zq82.d2 (N : Nat) (v0 : Int) : Option zq82.R := zq82.o2 N v0
theorem zq82.d2.run (N : Nat) (v0 : Int) : runC zq82.C (zq82.O N) N zq82.c31 31 (mkSt [(5, .one (.int .i64 v0))] [] : St D0) (zq82.K31 N) = zq82.d2 N v0 := by
  exact (zq82.o2.run N v0).trans rfl
def zq82.K15 (N : Nat) : Ex → St D0 → Option zq82.R := zq82.K0
def zq82.o1 (N : Nat) (v0 : Int) (v1 : Int) (v2 : Int) (v3 : Int) (v4 : Int) (c2 : Int → Option zq82.R) : Option zq82.R :=
 bif (decide (v4 > 0)) then
  bif (v4 == 0) then
   none
  else
  c2 (w64 (v1 + (w64 (Int.tdiv v0 v4))))
 else
 c2 v1
theorem zq82.o1.run (N : Nat) (H31 : Code) (v0 : Int) (v1 : Int) (v2 : Int) (v3 : Int) (v4 : Int) : runC zq82.C (zq82.O N) N (.seq zq82.c30 H31) 15 (mkSt [(1, .one (.int .i64 v0)), (2, .one (.ptr 2 0)), (5, .one (.int .i64 v1))] [(2, some (47, [.int .i64 v2, .int .i64 v3, .int .i64 v4]))] : St D0) zq82.K0 = zq82.o1 N v0 v1 v2 v3 v4 ((fun w0 => runC zq82.C (zq82.O N) N H31 31 (mkSt [(5, .one (.int .i64 w0))] [] : St D0) zq82.K0)) := by kernel_rfl
def zq82.B15 (N : Nat) : St D0 → Option zq82.R := fun s' => runC zq82.C (zq82.O N) N zq82.c31 31 s' (zq82.K31 N)
def zq82.d1 (N : Nat) (v0 : Int) (v1 : Int) (v2 : Int) (v3 : Int) (v4 : Int) : Option zq82.R := zq82.o1 N v0 v1 v2 v3 v4 ((fun w0 => zq82.d2 N w0))
theorem zq82.c15_1 : zq82.c15 = (.seq zq82.c30 zq82.c31) := by kernel_rfl
theorem zq82.d1.run (N : Nat) (v0 : Int) (v1 : Int) (v2 : Int) (v3 : Int) (v4 : Int) : runC zq82.C (zq82.O N) N zq82.c15 15 (mkSt [(1, .one (.int .i64 v0)), (2, .one (.ptr 2 0)), (5, .one (.int .i64 v1))] [(2, some (47, [.int .i64 v2, .int .i64 v3, .int .i64 v4]))] : St D0) (zq82.K15 N) = zq82.d1 N v0 v1 v2 v3 v4 := by
  rw [zq82.c15_1]; unfold zq82.d1; exact (zq82.o1.run N zq82.c31 v0 v1 v2 v3 v4).trans (congr rfl (funext fun w0 => zq82.d2.run N w0))
def zq82.o0 (N : Nat) (a0_0 : Int) (a0_1 : Int) (a0_2 : Int) (a1 : Int) (c1 : Int → Int → Int → Int → Int → Option zq82.R) : Option zq82.R :=
 bif (a0_0 == 0) then
  none
 else
 bif (decide (a0_1 > 0)) then
  bif (a0_1 == 0) then
   none
  else
  c1 a1 (w64 ((w64 (Int.tdiv a1 a0_0)) - (w64 (Int.tdiv a1 a0_1)))) a0_0 a0_1 a0_2
 else
 c1 a1 (w64 (Int.tdiv a1 a0_0)) a0_0 a0_1 a0_2
theorem zq82.o0.run (N : Nat) (H15 : Code) (a0_0 : Int) (a0_1 : Int) (a0_2 : Int) (a1 : Int) : runC zq82.C (zq82.O N) N (.seq zq82.c2 (.seq zq82.c6 (.seq zq82.c14 H15))) 1 (st0 [.agg [.int .i64 a0_0, .int .i64 a0_1, .int .i64 a0_2], .one (.int .i64 a1)] [] : St D0) zq82.K0 = zq82.o0 N a0_0 a0_1 a0_2 a1 ((fun w0 w1 w2 w3 w4 => runC zq82.C (zq82.O N) N H15 15 (mkSt [(1, .one (.int .i64 w0)), (2, .one (.ptr 2 0)), (5, .one (.int .i64 w1))] [(2, some (47, [.int .i64 w2, .int .i64 w3, .int .i64 w4]))] : St D0) zq82.K0)) := by kernel_rfl
def zq82.g (N : Nat) (a0_0 : Int) (a0_1 : Int) (a0_2 : Int) (a1 : Int) : Option zq82.R := zq82.o0 N a0_0 a0_1 a0_2 a1 ((fun w0 w1 w2 w3 w4 => zq82.d1 N w0 w1 w2 w3 w4))
theorem zq82.c1_0 : zq82.c1 = (.seq zq82.c2 (.seq zq82.c6 (.seq zq82.c14 zq82.c15))) := by kernel_rfl
theorem zq82.g.run (N : Nat) (a0_0 : Int) (a0_1 : Int) (a0_2 : Int) (a1 : Int) : runC zq82.C (zq82.O N) N zq82.c1 1 (st0 [.agg [.int .i64 a0_0, .int .i64 a0_1, .int .i64 a0_2], .one (.int .i64 a1)] [] : St D0) zq82.K0 = zq82.g N a0_0 a0_1 a0_2 a1 := by
  rw [zq82.c1_0]; unfold zq82.g; exact (zq82.o0.run N zq82.c15 a0_0 a0_1 a0_2 a1).trans (congr rfl (funext fun w0 => funext fun w1 => funext fun w2 => funext fun w3 => funext fun w4 => zq82.d1.run N w0 w1 w2 w3 w4))
theorem zq82.good (N : Nat) (a0_0 : Int) (a0_1 : Int) (a0_2 : Int) (a1 : Int) (r : zq82.R) (h : zq82.g N a0_0 a0_1 a0_2 a1 = some r) : Go.PM.Good Tryz.prog T0 123 [.agg [.int .i64 a0_0, .int .i64 a0_1, .int .i64 a0_2], .one (.int .i64 a1)] [] (zq82.sig.ret r) (zq82.sig.bs r) :=
  good_fn tabOk0 mixed0 zq82.sig (zq82.E N) Tryz.func123 (by kernel_rfl) (by kernel_rfl) 2101303 0 0 [(14, [1, 2, 5], [2]), (30, [5], [])] 12607552 false [] [(false, [.any])] (by kernel_rfl) rfl rfl ((zq82.g.run N a0_0 a0_1 a0_2 a1).trans h)
def zq82.ent (N : Nat) : Ent Tryz.prog T0 := mkEnt 123 [(true, [.any, .any, .any]), (false, [.any])] zq82.sig (fun t => zq82.g N t.1 t.2.1 t.2.2.1 t.2.2.2) (fun t r h => zq82.good N t.1 t.2.1 t.2.2.1 t.2.2.2 r h)
/-! ### zq99 -/
abbrev zq99.R : Type := Int
abbrev zq99.sig : Sig := ⟨[(false, 1)], [], [.int .i64], [(false, 1)], [], [.int .i64]⟩
def zq99.C : Cfg D0 := ⟨Tryz.prog, T0, 5, 0, 7, 0, [], 24, false, []⟩
def zq99.E (N : Nat) : List (Ent Tryz.prog T0) := [zq111.ent N]
def zq99.O (N : Nat) : Orc D0 zq99.R := orcOf (zq99.E N)
def zq99.K0 : Ex → St D0 → Option zq99.R := exitK zq99.C Tryz.f98.results.toList [(false, [.any])] (decOut zq99.sig)
def zq99.c1 : Code := codeAt (Tryz.f98.body.getD .skip) []
def zq99.o0 (N : Nat) (a0 : Int) : Option zq99.R :=
 (zq111.g N a0 (w64 (0 - a0))).bind fun r1 =>
 some (r1)
theorem zq99.o0.run (N : Nat) (a0 : Int) : runC zq99.C (zq99.O N) N zq99.c1 1 (st0 [.one (.int .i64 a0)] [] : St D0) zq99.K0 = zq99.o0 N a0 := by kernel_rfl
def zq99.g (N : Nat) (a0 : Int) : Option zq99.R := zq99.o0 N a0
theorem zq99.g.run (N : Nat) (a0 : Int) : runC zq99.C (zq99.O N) N zq99.c1 1 (st0 [.one (.int .i64 a0)] [] : St D0) zq99.K0 = zq99.g N a0 := by
  exact (zq99.o0.run N a0).trans rfl
theorem zq99.good (N : Nat) (a0 : Int) (r : zq99.R) (h : zq99.g N a0 = some r) : Go.PM.Good Tryz.prog T0 98 [.one (.int .i64 a0)] [] (zq99.sig.ret r) (zq99.sig.bs r) :=
  good_fn tabOk0 mixed0 zq99.sig (zq99.E N) Tryz.func98 (by kernel_rfl) (by kernel_rfl) 5 0 0 [] 24 false [] [(false, [.any])] (by kernel_rfl) rfl rfl ((zq99.g.run N a0).trans h)
def zq99.ent (N : Nat) : Ent Tryz.prog T0 := mkEnt 98 [(false, [.any])] zq99.sig (fun t => zq99.g N t) (fun t r h => zq99.good N t r h)
/-! ### zq85 -/
abbrev zq85.R : Type := Int × Int
abbrev zq85.sig : Sig := ⟨[(true, 3), (false, 1), (false, 1)], [], [.int .i64, .int .i64, .int .i64, .int .i64, .int .i64], [(false, 1), (false, 1)], [], [.int .i64, .int .i64]⟩
def zq85.C : Cfg D0 := ⟨Tryz.prog, T0, 4047, 0, 36, 0, [], 29353476096, false, []⟩
def zq85.E (N : Nat) : List (Ent Tryz.prog T0) := [zq83.ent N, zq82.ent N, zq99.ent N, zq88.ent N]
def zq85.O (N : Nat) : Orc D0 zq85.R := orcOf (zq85.E N)
def zq85.K0 : Ex → St D0 → Option zq85.R := exitK zq85.C Tryz.f97.results.toList [(false, [.any]), (false, [.any])] (decOut zq85.sig)
def zq85.c1 : Code := codeAt (Tryz.f97.body.getD .skip) []
def zq85.o0 (N : Nat) (a0_0 : Int) (a0_1 : Int) (a0_2 : Int) (a1 : Int) (a2 : Int) : Option zq85.R :=
 (zq83.g N a0_0 a0_1 a0_2).bind fun r1 =>
 (zq82.g N a0_0 a0_1 a0_2 r1).bind fun r2 =>
 (zq99.g N (w64 ((w64 (r2 * a2)) - (w64 (a1 * r1))))).bind fun r3 =>
 (zq88.g N r3 (w64 (r1 * a2))).bind fun r4 =>
 bif (r4 == 0) then
  none
 else
 bif (r4 == 0) then
  none
 else
 some ((w64 (Int.tdiv (w64 ((w64 (r2 * a2)) - (w64 (a1 * r1)))) r4)), (w64 (Int.tdiv (w64 (r1 * a2)) r4)))
theorem zq85.o0.run (N : Nat) (a0_0 : Int) (a0_1 : Int) (a0_2 : Int) (a1 : Int) (a2 : Int) : runC zq85.C (zq85.O N) N zq85.c1 1 (st0 [.agg [.int .i64 a0_0, .int .i64 a0_1, .int .i64 a0_2], .one (.int .i64 a1), .one (.int .i64 a2)] [] : St D0) zq85.K0 = zq85.o0 N a0_0 a0_1 a0_2 a1 a2 := by kernel_rfl
def zq85.g (N : Nat) (a0_0 : Int) (a0_1 : Int) (a0_2 : Int) (a1 : Int) (a2 : Int) : Option zq85.R := zq85.o0 N a0_0 a0_1 a0_2 a1 a2
theorem zq85.g.run (N : Nat) (a0_0 : Int) (a0_1 : Int) (a0_2 : Int) (a1 : Int) (a2 : Int) : runC zq85.C (zq85.O N) N zq85.c1 1 (st0 [.agg [.int .i64 a0_0, .int .i64 a0_1, .int .i64 a0_2], .one (.int .i64 a1), .one (.int .i64 a2)] [] : St D0) zq85.K0 = zq85.g N a0_0 a0_1 a0_2 a1 a2 := by
  exact (zq85.o0.run N a0_0 a0_1 a0_2 a1 a2).trans rfl
theorem zq85.good (N : Nat) (a0_0 : Int) (a0_1 : Int) (a0_2 : Int) (a1 : Int) (a2 : Int) (r : zq85.R) (h : zq85.g N a0_0 a0_1 a0_2 a1 a2 = some r) : Go.PM.Good Tryz.prog T0 97 [.agg [.int .i64 a0_0, .int .i64 a0_1, .int .i64 a0_2], .one (.int .i64 a1), .one (.int .i64 a2)] [] (zq85.sig.ret r) (zq85.sig.bs r) :=
  good_fn tabOk0 mixed0 zq85.sig (zq85.E N) Tryz.func97 (by kernel_rfl) (by kernel_rfl) 4047 0 0 [] 29353476096 false [] [(false, [.any]), (false, [.any])] (by kernel_rfl) rfl rfl ((zq85.g.run N a0_0 a0_1 a0_2 a1 a2).trans h)
def zq85.ent (N : Nat) : Ent Tryz.prog T0 := mkEnt 97 [(true, [.any, .any, .any]), (false, [.any]), (false, [.any])] zq85.sig (fun t => zq85.g N t.1 t.2.1 t.2.2.1 t.2.2.2.1 t.2.2.2.2) (fun t r h => zq85.good N t.1 t.2.1 t.2.2.1 t.2.2.2.1 t.2.2.2.2 r h)
/-! ### zq71 -/
abbrev zq71.R : Type := Int × Int × Bool
abbrev zq71.sig : Sig := ⟨[(true, 3), (false, 1), (false, 1)], [], [.int .i64, .int .i64, .int .i64, .int .i64, .int .i64], [(false, 1), (false, 1), (false, 1)], [], [.int .i64, .int .i64, .bool]⟩
def zq71.C : Cfg D0 := ⟨Tryz.prog, T0, 526287, 0, 29, 0, [(12, [1, 2, 3, 19], [3])], 12681216, false, []⟩
def zq71.E (N : Nat) : List (Ent Tryz.prog T0) := [zq86.ent N, zq84.ent N, zq85.ent N]
def zq71.O (N : Nat) : Orc D0 zq71.R := orcOf (zq71.E N)
def zq71.K0 : Ex → St D0 → Option zq71.R := exitK zq71.C Tryz.f34.results.toList [(false, [.any]), (false, [.any]), (false, [.any])] (decOut zq71.sig)
def zq71.c1 : Code := codeAt (Tryz.f34.body.getD .skip) []
def zq71.c2 : Code := codeAt (Tryz.f34.body.getD .skip) [false]
def zq71.c7 : Code := codeAt (Tryz.f34.body.getD .skip) [true, true]
def zq71.c12 : Code := codeAt (Tryz.f34.body.getD .skip) [true, false, false]
def zq71.c13 : Code := codeAt (Tryz.f34.body.getD .skip) [true, false, true]
def zq71.K13 (N : Nat) : Ex → St D0 → Option zq71.R := (onN (fun s => zq71.C.tidy 6 s (fun s' => runC zq71.C (zq71.O N) N zq71.c7 7 s' zq71.K0)) zq71.K0)
def zq71.o1 (N : Nat) (v0 : Int) (v1 : Int) (v2 : Bool) (v3 : Int) (v4 : Int) (v5 : Int) : Option zq71.R :=
 bif v2 then
  some (0, 0, false)
 else
 (zq85.g N v3 v4 v5 v0 v1).bind fun r1 =>
 some (r1.1, r1.2, true)
theorem zq71.o1.run (N : Nat) (v0 : Int) (v1 : Int) (v2 : Bool) (v3 : Int) (v4 : Int) (v5 : Int) : runC zq71.C (zq71.O N) N zq71.c13 13 (mkSt [(1, .one (.int .i64 v0)), (2, .one (.int .i64 v1)), (3, .one (.ptr 3 0)), (19, .one (.bool v2))] [(3, some (47, [.int .i64 v3, .int .i64 v4, .int .i64 v5]))] : St D0) (onN (fun s => zq71.C.tidy 6 s (fun s' => runC zq71.C (zq71.O N) N zq71.c7 7 s' zq71.K0)) zq71.K0) = zq71.o1 N v0 v1 v2 v3 v4 v5 := by kernel_rfl
def zq71.d1 (N : Nat) (v0 : Int) (v1 : Int) (v2 : Bool) (v3 : Int) (v4 : Int) (v5 : Int) : Option zq71.R := zq71.o1 N v0 v1 v2 v3 v4 v5
theorem zq71.d1.run (N : Nat) (v0 : Int) (v1 : Int) (v2 : Bool) (v3 : Int) (v4 : Int) (v5 : Int) : runC zq71.C (zq71.O N) N zq71.c13 13 (mkSt [(1, .one (.int .i64 v0)), (2, .one (.int .i64 v1)), (3, .one (.ptr 3 0)), (19, .one (.bool v2))] [(3, some (47, [.int .i64 v3, .int .i64 v4, .int .i64 v5]))] : St D0) (zq71.K13 N) = zq71.d1 N v0 v1 v2 v3 v4 v5 := by
  exact (zq71.o1.run N v0 v1 v2 v3 v4 v5).trans rfl
def zq71.o0 (N : Nat) (a0_0 : Int) (a0_1 : Int) (a0_2 : Int) (a1 : Int) (a2 : Int) (c1 : Int → Int → Bool → Int → Int → Int → Option zq71.R) : Option zq71.R :=
 (zq86.g N a0_0 a0_1 a0_2).bind fun r1 =>
 bif (!r1) then
  c1 a1 a2 true a0_0 a0_1 a0_2
 else
 (zq84.g N a1 a2).bind fun r2 =>
 c1 a1 a2 (!r2) a0_0 a0_1 a0_2
theorem zq71.o0.run (N : Nat) (H13 : Code) (a0_0 : Int) (a0_1 : Int) (a0_2 : Int) (a1 : Int) (a2 : Int) : runC zq71.C (zq71.O N) N (.seq zq71.c2 (.seq (.seq zq71.c12 H13) zq71.c7)) 1 (st0 [.agg [.int .i64 a0_0, .int .i64 a0_1, .int .i64 a0_2], .one (.int .i64 a1), .one (.int .i64 a2)] [] : St D0) zq71.K0 = zq71.o0 N a0_0 a0_1 a0_2 a1 a2 ((fun w0 w1 w2 w3 w4 w5 => runC zq71.C (zq71.O N) N H13 13 (mkSt [(1, .one (.int .i64 w0)), (2, .one (.int .i64 w1)), (3, .one (.ptr 3 0)), (19, .one (.bool w2))] [(3, some (47, [.int .i64 w3, .int .i64 w4, .int .i64 w5]))] : St D0) (onN (fun s => zq71.C.tidy 6 s (fun s' => runC zq71.C (zq71.O N) N zq71.c7 7 s' zq71.K0)) zq71.K0))) := by kernel_rfl
def zq71.g (N : Nat) (a0_0 : Int) (a0_1 : Int) (a0_2 : Int) (a1 : Int) (a2 : Int) : Option zq71.R := zq71.o0 N a0_0 a0_1 a0_2 a1 a2 ((fun w0 w1 w2 w3 w4 w5 => zq71.d1 N w0 w1 w2 w3 w4 w5))
theorem zq71.c1_0 : zq71.c1 = (.seq zq71.c2 (.seq (.seq zq71.c12 zq71.c13) zq71.c7)) := by kernel_rfl
theorem zq71.g.run (N : Nat) (a0_0 : Int) (a0_1 : Int) (a0_2 : Int) (a1 : Int) (a2 : Int) : runC zq71.C (zq71.O N) N zq71.c1 1 (st0 [.agg [.int .i64 a0_0, .int .i64 a0_1, .int .i64 a0_2], .one (.int .i64 a1), .one (.int .i64 a2)] [] : St D0) zq71.K0 = zq71.g N a0_0 a0_1 a0_2 a1 a2 := by
  rw [zq71.c1_0]; unfold zq71.g; exact (zq71.o0.run N zq71.c13 a0_0 a0_1 a0_2 a1 a2).trans (congr rfl (funext fun w0 => funext fun w1 => funext fun w2 => funext fun w3 => funext fun w4 => funext fun w5 => zq71.d1.run N w0 w1 w2 w3 w4 w5))
theorem zq71.good (N : Nat) (a0_0 : Int) (a0_1 : Int) (a0_2 : Int) (a1 : Int) (a2 : Int) (r : zq71.R) (h : zq71.g N a0_0 a0_1 a0_2 a1 a2 = some r) : Go.PM.Good Tryz.prog T0 34 [.agg [.int .i64 a0_0, .int .i64 a0_1, .int .i64 a0_2], .one (.int .i64 a1), .one (.int .i64 a2)] [] (zq71.sig.ret r) (zq71.sig.bs r) :=
  good_fn tabOk0 mixed0 zq71.sig (zq71.E N) Tryz.func34 (by kernel_rfl) (by kernel_rfl) 526287 0 0 [(12, [1, 2, 3, 19], [3])] 12681216 false [] [(false, [.any]), (false, [.any]), (false, [.any])] (by kernel_rfl) rfl rfl ((zq71.g.run N a0_0 a0_1 a0_2 a1 a2).trans h)
def zq71.ent (N : Nat) : Ent Tryz.prog T0 := mkEnt 34 [(true, [.any, .any, .any]), (false, [.any]), (false, [.any])] zq71.sig (fun t => zq71.g N t.1 t.2.1 t.2.2.1 t.2.2.2.1 t.2.2.2.2) (fun t r h => zq71.good N t.1 t.2.1 t.2.2.1 t.2.2.2.1 t.2.2.2.2 r h)
end Go.Proofs.YtccjoegnkiaibaaGreatDoor.M
end
