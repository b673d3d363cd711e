/- What the program's functions compute, walked by the machine (part 3). No conditions but those stated. -/
import Derived.Test.YtpeleommbipeaaaGreatDoorFnFnTimesSolved2
import Derived.Test.YtpeleommbipeaaaGreatDoorShelf
import Derived.Shelf.SlSorted.Search
import Derived.Shelf.Strconv.AtoiAll
import Derived.Lib.IndexBytes
import Derived.Lib.IndexLaws
import Derived.OwnWalk
noncomputable section
namespace Go.Proofs.YtpeleommbipeaaaGreatDoor.M
open Go Go.PM Go.Proofs.YtpeleommbipeaaaGreatDoor.P
set_option linter.unusedVariables false
set_option maxRecDepth 100000
/-! ### zq25 -/
abbrev zq25.R : Type := ByteArray
abbrev zq25.sig : Sig := ⟨[(true, 2)], [], [.int .i64, .sl false 41], [(false, 1)], [], [.str]⟩
def zq25.C : Cfg D0 := ⟨Tryz.prog, T0, 3887, 0, 38, 0, [(58, [1, 3, 8, 9, 10], [1])], 34359738368, false, []⟩
def zq25.E (N : Nat) : List (Ent Tryz.prog T0) := [zq90.ent N, zq92.ent N]
def zq25.O (N : Nat) : Orc D0 zq25.R := orcOf (zq25.E N)
def zq25.K0 : Ex → St D0 → Option zq25.R := exitK zq25.C Tryz.f47.results.toList [(false, [.any])] (decOut zq25.sig)
def zq25.c1 : Code := codeAt (Tryz.f47.body.getD .skip) []
def zq25.c2 : Code := codeAt (Tryz.f47.body.getD .skip) [false]
def zq25.c6 : Code := codeAt (Tryz.f47.body.getD .skip) [true, false]
def zq25.c15 : Code := codeAt (Tryz.f47.body.getD .skip) [true, true, true]
def zq25.c28 : Code := codeAt (Tryz.f47.body.getD .skip) [true, true, false, false]
def zq25.c116 : Code := codeAt (Tryz.f47.body.getD .skip) [true, true, false, true, false, false]
def zq25.K116 (N : Nat) (Kn58 : St D0 → Option zq25.R) : Ex → St D0 → Option zq25.R := ((fun up => (onN (fun s => zq25.C.tidy 58 s ((onN Kn58 up) .normal)) (onN Kn58 up))) (blockK 0 (onN (fun s => zq25.C.tidy 14 s (fun s' => runC zq25.C (zq25.O N) N zq25.c15 15 s' zq25.K0)) zq25.K0)))
def zq25.o1 (N : Nat) (v0 : List ByteArray) (v1 : List S41) (v2 : Int) (v3 : Int) (v4 : Int) (v5 : List S41) (c1 : (List ByteArray) → (List S41) → Int → Int → Int → (List S41) → Option zq25.R) : Option zq25.R :=
 bif (decide (v3 < v2)) then
  bif (decide (0 ≤ v3)) then
   bif (decide (v3 < (v1.length : Int))) then
    (v1[(v3 : Int).toNat]?).bind fun x1 =>
    (zq90.g N x1.f0).bind fun r2 =>
    bif (Nat.ble (r2.size + (⟨#[46]⟩ : ByteArray).size) 9223372036854775807) then
     (zq90.g N x1.f1).bind fun r3 =>
     bif (Nat.ble ((r2 ++ (⟨#[46]⟩ : ByteArray)).size + r3.size) 9223372036854775807) then
      bif (Nat.ble (((r2 ++ (⟨#[46]⟩ : ByteArray)) ++ r3).size + (⟨#[46]⟩ : ByteArray).size) 9223372036854775807) then
       (zq90.g N x1.f2).bind fun r4 =>
       bif (Nat.ble ((((r2 ++ (⟨#[46]⟩ : ByteArray)) ++ r3) ++ (⟨#[46]⟩ : ByteArray)).size + r4.size) 9223372036854775807) then
        bif (Nat.blt (v0.length + ([((((r2 ++ (⟨#[46]⟩ : ByteArray)) ++ r3) ++ (⟨#[46]⟩ : ByteArray)) ++ r4)] : List ByteArray).length) 8796093022208) then
         c1 (v0 ++ ([((((r2 ++ (⟨#[46]⟩ : ByteArray)) ++ r3) ++ (⟨#[46]⟩ : ByteArray)) ++ r4)] : List ByteArray)) v1 v2 (w64 (v3 + 1)) v4 v5
        else
        none
       else
       none
      else
      none
     else
     none
    else
    none
   else
   none
  else
  none
 else
 (zq90.g N v4).bind fun r5 =>
 bif (Nat.ble (r5.size + (⟨#[58]⟩ : ByteArray).size) 9223372036854775807) then
  (zq92.g N v0 (⟨#[44]⟩ : ByteArray)).bind fun r6 =>
  bif (Nat.ble ((r5 ++ (⟨#[58]⟩ : ByteArray)).size + r6.size) 9223372036854775807) then
   some (((r5 ++ (⟨#[58]⟩ : ByteArray)) ++ r6))
  else
  none
 else
 none
theorem zq25.o1.run (N : Nat) (Kn58 : St D0 → Option zq25.R) (v0 : List ByteArray) (v1 : List S41) (v2 : Int) (v3 : Int) (v4 : Int) (v5 : List S41) : runC zq25.C (zq25.O N) N zq25.c116 116 (mkSt [(1, .one (.ptr 1 0)), (3, .one (.sl true 9 v0)), (8, .one (.sl false 41 v1)), (9, .one (.int .i64 v2)), (10, .one (.int .i64 v3))] [(1, some (24, [.int .i64 v4, .sl false 41 v5]))] : St D0) ((fun up => (onN (fun s => zq25.C.tidy 58 s ((onN Kn58 up) .normal)) (onN Kn58 up))) (blockK 0 (onN (fun s => zq25.C.tidy 14 s (fun s' => runC zq25.C (zq25.O N) N zq25.c15 15 s' zq25.K0)) zq25.K0))) = zq25.o1 N v0 v1 v2 v3 v4 v5 ((fun w0 w1 w2 w3 w4 w5 => Kn58 (mkSt [(1, .one (.ptr 1 0)), (3, .one (.sl true 9 w0)), (8, .one (.sl false 41 w1)), (9, .one (.int .i64 w2)), (10, .one (.int .i64 w3))] [(1, some (24, [.int .i64 w4, .sl false 41 w5]))] : St D0))) := by kernel_rfl
def zq25.d1 (N : Nat) (v0 : List ByteArray) (v1 : List S41) (v2 : Int) (v3 : Int) (v4 : Int) (v5 : List S41) (c1 : (List ByteArray) → (List S41) → Int → Int → Int → (List S41) → Option zq25.R) : Option zq25.R := zq25.o1 N v0 v1 v2 v3 v4 v5 c1
theorem zq25.d1.run (N : Nat) (Kn58 : St D0 → Option zq25.R) (v0 : List ByteArray) (v1 : List S41) (v2 : Int) (v3 : Int) (v4 : Int) (v5 : List S41) : runC zq25.C (zq25.O N) N zq25.c116 116 (mkSt [(1, .one (.ptr 1 0)), (3, .one (.sl true 9 v0)), (8, .one (.sl false 41 v1)), (9, .one (.int .i64 v2)), (10, .one (.int .i64 v3))] [(1, some (24, [.int .i64 v4, .sl false 41 v5]))] : St D0) (zq25.K116 N Kn58) = zq25.d1 N v0 v1 v2 v3 v4 v5 ((fun w0 w1 w2 w3 w4 w5 => Kn58 (mkSt [(1, .one (.ptr 1 0)), (3, .one (.sl true 9 w0)), (8, .one (.sl false 41 w1)), (9, .one (.int .i64 w2)), (10, .one (.int .i64 w3))] [(1, some (24, [.int .i64 w4, .sl false 41 w5]))] : St D0))) := by
  exact (zq25.o1.run N Kn58 v0 v1 v2 v3 v4 v5).trans rfl
def zq25.K58 (N : Nat) : Ex → St D0 → Option zq25.R := (blockK 0 (onN (fun s => zq25.C.tidy 14 s (fun s' => runC zq25.C (zq25.O N) N zq25.c15 15 s' zq25.K0)) zq25.K0))
def zq25.l1 (N : Nat) : Nat → (List ByteArray) → (List S41) → Int → Int → Int → (List S41) → Option zq25.R
  | 0, _, _, _, _, _, _ => none
  | n + 1, v0, v1, v2, v3, v4, v5 => zq25.d1 N v0 v1 v2 v3 v4 v5 ((fun w0 w1 w2 w3 w4 w5 => zq25.l1 N n w0 w1 w2 w3 w4 w5))
theorem zq25.loop58 (N : Nat) : ∀ n, (∀ (v0 : List ByteArray) (v1 : List S41) (v2 : Int) (v3 : Int) (v4 : Int) (v5 : List S41), iter (loopF zq25.C (zq25.O N) N zq25.c116 58) n (mkSt [(1, .one (.ptr 1 0)), (3, .one (.sl true 9 v0)), (8, .one (.sl false 41 v1)), (9, .one (.int .i64 v2)), (10, .one (.int .i64 v3))] [(1, some (24, [.int .i64 v4, .sl false 41 v5]))] : St D0) (zq25.K58 N) = zq25.l1 N n v0 v1 v2 v3 v4 v5)
  | 0 => (fun v0 v1 v2 v3 v4 v5 => rfl)
  | n + 1 => (fun v0 v1 v2 v3 v4 v5 => (zq25.d1.run N (fun s => iter (loopF zq25.C (zq25.O N) N zq25.c116 58) n s (zq25.K58 N)) v0 v1 v2 v3 v4 v5).trans (show _ = zq25.d1 N v0 v1 v2 v3 v4 v5 ((fun w0 w1 w2 w3 w4 w5 => zq25.l1 N n w0 w1 w2 w3 w4 w5)) from (congr rfl (funext fun w0 => funext fun w1 => funext fun w2 => funext fun w3 => funext fun w4 => funext fun w5 => (zq25.loop58 N n) w0 w1 w2 w3 w4 w5))))
def zq25.o0 (N : Nat) (a0_0 : Int) (a0_1 : List S41) (c1 : (List ByteArray) → (List S41) → Int → Int → Int → (List S41) → Option zq25.R) : Option zq25.R :=
 c1 ([] : List ByteArray) a0_1 (a0_1.length : Int) 0 a0_0 a0_1
theorem zq25.o0.run (N : Nat) (H116 : Code) (a0_0 : Int) (a0_1 : List S41) : runC zq25.C (zq25.O N) N (.seq zq25.c2 (.seq zq25.c6 (.seq (.seq zq25.c28 (.block 0 (.loop H116))) zq25.c15))) 1 (st0 [.agg [.int .i64 a0_0, .sl false 41 a0_1]] [] : St D0) zq25.K0 = zq25.o0 N a0_0 a0_1 ((fun w0 w1 w2 w3 w4 w5 => iter (loopF zq25.C (zq25.O N) N H116 58) N (mkSt [(1, .one (.ptr 1 0)), (3, .one (.sl true 9 w0)), (8, .one (.sl false 41 w1)), (9, .one (.int .i64 w2)), (10, .one (.int .i64 w3))] [(1, some (24, [.int .i64 w4, .sl false 41 w5]))] : St D0) (blockK 0 (onN (fun s => zq25.C.tidy 14 s (fun s' => runC zq25.C (zq25.O N) N zq25.c15 15 s' zq25.K0)) zq25.K0)))) := by kernel_rfl
def zq25.g (N : Nat) (a0_0 : Int) (a0_1 : List S41) : Option zq25.R := zq25.o0 N a0_0 a0_1 ((fun w0 w1 w2 w3 w4 w5 => zq25.l1 N N w0 w1 w2 w3 w4 w5))
theorem zq25.c1_0 : zq25.c1 = (.seq zq25.c2 (.seq zq25.c6 (.seq (.seq zq25.c28 (.block 0 (.loop zq25.c116))) zq25.c15))) := by kernel_rfl
theorem zq25.g.run (N : Nat) (a0_0 : Int) (a0_1 : List S41) : runC zq25.C (zq25.O N) N zq25.c1 1 (st0 [.agg [.int .i64 a0_0, .sl false 41 a0_1]] [] : St D0) zq25.K0 = zq25.g N a0_0 a0_1 := by
  rw [zq25.c1_0]; unfold zq25.g; exact (zq25.o0.run N zq25.c116 a0_0 a0_1).trans (congr rfl (funext fun w0 => funext fun w1 => funext fun w2 => funext fun w3 => funext fun w4 => funext fun w5 => (zq25.loop58 N N) w0 w1 w2 w3 w4 w5))
theorem zq25.good (N : Nat) (a0_0 : Int) (a0_1 : List S41) (r : zq25.R) (h : zq25.g N a0_0 a0_1 = some r) : Go.PM.Good Tryz.prog T0 47 [.agg [.int .i64 a0_0, .sl false 41 a0_1]] [] (zq25.sig.ret r) (zq25.sig.bs r) :=
  good_fn tabOk0 mixed0 zq25.sig (zq25.E N) Tryz.func47 (by kernel_rfl) (by kernel_rfl) 3887 0 0 [(58, [1, 3, 8, 9, 10], [1])] 34359738368 false [] [(false, [.any])] (by kernel_rfl) rfl rfl ((zq25.g.run N a0_0 a0_1).trans h)
def zq25.ent (N : Nat) : Ent Tryz.prog T0 := mkEnt 47 [(true, [.any, .ro 41])] zq25.sig (fun t => zq25.g N t.1 t.2) (fun t r h => zq25.good N t.1 t.2 r h)
/-! ### zq15 -/
abbrev zq15.R : Type := ByteArray × Bool
abbrev zq15.sig : Sig := ⟨[(true, 2)], [], [.int .i64, .sl false 41], [(false, 1), (false, 1)], [], [.str, .bool]⟩
def zq15.C : Cfg D0 := ⟨Tryz.prog, T0, 79, 0, 9, 0, [], 0, false, []⟩
def zq15.E (N : Nat) : List (Ent Tryz.prog T0) := [zq7.ent N, zq25.ent N]
def zq15.O (N : Nat) : Orc D0 zq15.R := orcOf (zq15.E N)
def zq15.K0 : Ex → St D0 → Option zq15.R := exitK zq15.C Tryz.f21.results.toList [(false, [.any]), (false, [.any])] (decOut zq15.sig)
def zq15.c1 : Code := codeAt (Tryz.f21.body.getD .skip) []
def zq15.o0 (N : Nat) (a0_0 : Int) (a0_1 : List S41) : Option zq15.R :=
 (zq7.g N a0_0 a0_1).bind fun r1 =>
 bif (!r1) then
  some ((⟨#[]⟩ : ByteArray), false)
 else
 (zq25.g N a0_0 a0_1).bind fun r2 =>
 some (r2, true)
theorem zq15.o0.run (N : Nat) (a0_0 : Int) (a0_1 : List S41) : runC zq15.C (zq15.O N) N zq15.c1 1 (st0 [.agg [.int .i64 a0_0, .sl false 41 a0_1]] [] : St D0) zq15.K0 = zq15.o0 N a0_0 a0_1 := by kernel_rfl
def zq15.g (N : Nat) (a0_0 : Int) (a0_1 : List S41) : Option zq15.R := zq15.o0 N a0_0 a0_1
theorem zq15.g.run (N : Nat) (a0_0 : Int) (a0_1 : List S41) : runC zq15.C (zq15.O N) N zq15.c1 1 (st0 [.agg [.int .i64 a0_0, .sl false 41 a0_1]] [] : St D0) zq15.K0 = zq15.g N a0_0 a0_1 := by
  exact (zq15.o0.run N a0_0 a0_1).trans rfl
theorem zq15.good (N : Nat) (a0_0 : Int) (a0_1 : List S41) (r : zq15.R) (h : zq15.g N a0_0 a0_1 = some r) : Go.PM.Good Tryz.prog T0 21 [.agg [.int .i64 a0_0, .sl false 41 a0_1]] [] (zq15.sig.ret r) (zq15.sig.bs r) :=
  good_fn tabOk0 mixed0 zq15.sig (zq15.E N) Tryz.func21 (by kernel_rfl) (by kernel_rfl) 79 0 0 [] 0 false [] [(false, [.any]), (false, [.any])] (by kernel_rfl) rfl rfl ((zq15.g.run N a0_0 a0_1).trans h)
def zq15.ent (N : Nat) : Ent Tryz.prog T0 := mkEnt 21 [(true, [.any, .ro 41])] zq15.sig (fun t => zq15.g N t.1 t.2) (fun t r h => zq15.good N t.1 t.2 r h)
/-! ### zq74 -/
abbrev zq74.R : Type := ByteArray
abbrev zq74.sig : Sig := ⟨[(false, 1)], [], [.int .i64], [(false, 1)], [], [.str]⟩
def zq74.C : Cfg D0 := ⟨Tryz.prog, T0, 21, 0, 20, 0, [], 9256, false, []⟩
def zq74.E (N : Nat) (G : Int → Option zq74.R) (hG : ∀ (a0 : Int) (r : zq74.R), G a0 = some r → Go.PM.Good Tryz.prog T0 77 [.one (.int .i64 a0)] [] (zq74.sig.ret r) (zq74.sig.bs r)) : List (Ent Tryz.prog T0) := [mkEnt 77 [(false, [.any])] zq74.sig (fun t => G t) (fun t r h => hG t r h)]
def zq74.O (N : Nat) (G : Int → Option zq74.R) (hG : ∀ (a0 : Int) (r : zq74.R), G a0 = some r → Go.PM.Good Tryz.prog T0 77 [.one (.int .i64 a0)] [] (zq74.sig.ret r) (zq74.sig.bs r)) : Orc D0 zq74.R := orcOf (zq74.E N G hG)
def zq74.K0 : Ex → St D0 → Option zq74.R := exitK zq74.C Tryz.f77.results.toList [(false, [.any])] (decOut zq74.sig)
def zq74.c1 : Code := codeAt (Tryz.f77.body.getD .skip) []
def zq74.o0 (N : Nat) (G : Int → Option zq74.R) (a0 : Int) : Option zq74.R :=
 bif (decide (a0 < 10)) then
  (numsO T0 5 ([((IntKind.wrap .u8) (w64 (48 + a0)))] : List Int)).bind fun r1 =>
  some ((strOfNums r1))
 else
 (G (w64 (Int.tdiv a0 10))).bind fun r2 =>
 (numsO T0 5 ([((IntKind.wrap .u8) (w64 (48 + (Int.tmod a0 10))))] : List Int)).bind fun r3 =>
 bif (Nat.ble (r2.size + (strOfNums r3).size) 9223372036854775807) then
  some ((r2 ++ (strOfNums r3)))
 else
 none
theorem zq74.o0.run (N : Nat) (G : Int → Option zq74.R) (hG : ∀ (a0 : Int) (r : zq74.R), G a0 = some r → Go.PM.Good Tryz.prog T0 77 [.one (.int .i64 a0)] [] (zq74.sig.ret r) (zq74.sig.bs r)) (a0 : Int) : runC zq74.C (zq74.O N G hG) N zq74.c1 1 (st0 [.one (.int .i64 a0)] [] : St D0) zq74.K0 = zq74.o0 N G a0 := by kernel_rfl
def zq74.s (N : Nat) (G : Int → Option zq74.R) (a0 : Int) : Option zq74.R := zq74.o0 N G a0
theorem zq74.s.run (N : Nat) (G : Int → Option zq74.R) (hG : ∀ (a0 : Int) (r : zq74.R), G a0 = some r → Go.PM.Good Tryz.prog T0 77 [.one (.int .i64 a0)] [] (zq74.sig.ret r) (zq74.sig.bs r)) (a0 : Int) : runC zq74.C (zq74.O N G hG) N zq74.c1 1 (st0 [.one (.int .i64 a0)] [] : St D0) zq74.K0 = zq74.s N G a0 := by
  exact (zq74.o0.run N G hG a0).trans rfl
def zq74.gk (N : Nat) : Nat → Int → Option zq74.R
  | 0, _ => none
  | k + 1, a0 => zq74.s N (zq74.gk N k) a0
theorem zq74.goodk (N : Nat) : ∀ (k : Nat) (a0 : Int) (r : zq74.R), zq74.gk N k a0 = some r → Go.PM.Good Tryz.prog T0 77 [.one (.int .i64 a0)] [] (zq74.sig.ret r) (zq74.sig.bs r)
  | 0, _, _, h => by cases h
  | k + 1, a0, r, h => good_fn tabOk0 mixed0 zq74.sig (zq74.E N (zq74.gk N k) (zq74.goodk N k)) Tryz.func77 (by kernel_rfl) (by kernel_rfl) 21 0 0 [] 9256 false [] [(false, [.any])] (by kernel_rfl) rfl rfl ((zq74.s.run N (zq74.gk N k) (zq74.goodk N k) a0).trans h)
def zq74.g (N : Nat) (a0 : Int) : Option zq74.R := zq74.gk N N a0
theorem zq74.good (N : Nat) (a0 : Int) (r : zq74.R) (h : zq74.g N a0 = some r) : Go.PM.Good Tryz.prog T0 77 [.one (.int .i64 a0)] [] (zq74.sig.ret r) (zq74.sig.bs r) := zq74.goodk N N a0 r h
def zq74.ent (N : Nat) : Ent Tryz.prog T0 := mkEnt 77 [(false, [.any])] zq74.sig (fun t => zq74.g N t) (fun t r h => zq74.good N t r h)
/-! ### zq87 -/
abbrev zq87.R : Type := ByteArray
abbrev zq87.sig : Sig := ⟨[(true, 2)], [], [.int .i64, .sl false 41], [(false, 1)], [], [.str]⟩
def zq87.C : Cfg D0 := ⟨Tryz.prog, T0, 555071, 0, 39, 0, [(58, [3, 11, 12, 13], []), (7474, [3, 5, 11, 12, 13], [5])], 5505024, false, []⟩
def zq87.E (N : Nat) : List (Ent Tryz.prog T0) := [zq74.ent N]
def zq87.O (N : Nat) : Orc D0 zq87.R := orcOf (zq87.E N)
def zq87.K0 : Ex → St D0 → Option zq87.R := exitK zq87.C Tryz.f48.results.toList [(false, [.any])] (decOut zq87.sig)
def zq87.c1 : Code := codeAt (Tryz.f48.body.getD .skip) []
def zq87.c2 : Code := codeAt (Tryz.f48.body.getD .skip) [false]
def zq87.c6 : Code := codeAt (Tryz.f48.body.getD .skip) [true, false]
def zq87.c15 : Code := codeAt (Tryz.f48.body.getD .skip) [true, true, true]
def zq87.c28 : Code := codeAt (Tryz.f48.body.getD .skip) [true, true, false, false]
def zq87.c116 : Code := codeAt (Tryz.f48.body.getD .skip) [true, true, false, true, false, false]
def zq87.c232 : Code := codeAt (Tryz.f48.body.getD .skip) [true, true, false, true, false, false, false]
def zq87.c466 : Code := codeAt (Tryz.f48.body.getD .skip) [true, true, false, true, false, false, true, false]
def zq87.c935 : Code := codeAt (Tryz.f48.body.getD .skip) [true, true, false, true, false, false, true, true, true]
def zq87.c3736 : Code := codeAt (Tryz.f48.body.getD .skip) [true, true, false, true, false, false, true, true, false, false, false]
def zq87.c7474 : Code := codeAt (Tryz.f48.body.getD .skip) [true, true, false, true, false, false, true, true, false, false, true, false]
def zq87.c7475 : Code := codeAt (Tryz.f48.body.getD .skip) [true, true, false, true, false, false, true, true, false, false, true, true]
def zq87.K7475 (N : Nat) (Kn58 : St D0 → Option zq87.R) : Ex → St D0 → Option zq87.R := (blockK 1 ((fun up => (onN (fun s => zq87.C.tidy 934 s (fun s' => runC zq87.C (zq87.O N) N zq87.c935 935 s' up)) up)) ((fun up => (onN (fun s => zq87.C.tidy 58 s ((onN Kn58 up) .normal)) (onN Kn58 up))) (blockK 0 (onN (fun s => zq87.C.tidy 14 s (fun s' => runC zq87.C (zq87.O N) N zq87.c15 15 s' zq87.K0)) zq87.K0)))))
def zq87.o2 (N : Nat) (v0 : ByteArray) (v1 : List S41) (v2 : Int) (v3 : Int) (v4 : Int) (v5 : Int) (v6 : Int) (c1 : ByteArray → (List S41) → Int → Int → Option zq87.R) : Option zq87.R :=
 (zq74.g N v4).bind fun r1 =>
 bif (Nat.ble (r1.size + (⟨#[46]⟩ : ByteArray).size) 9223372036854775807) then
  (zq74.g N v5).bind fun r2 =>
  bif (Nat.ble ((r1 ++ (⟨#[46]⟩ : ByteArray)).size + r2.size) 9223372036854775807) then
   bif (Nat.ble (((r1 ++ (⟨#[46]⟩ : ByteArray)) ++ r2).size + (⟨#[46]⟩ : ByteArray).size) 9223372036854775807) then
    (zq74.g N v6).bind fun r3 =>
    bif (Nat.ble ((((r1 ++ (⟨#[46]⟩ : ByteArray)) ++ r2) ++ (⟨#[46]⟩ : ByteArray)).size + r3.size) 9223372036854775807) then
     bif (Nat.ble (v0.size + ((((r1 ++ (⟨#[46]⟩ : ByteArray)) ++ r2) ++ (⟨#[46]⟩ : ByteArray)) ++ r3).size) 9223372036854775807) then
      c1 (v0 ++ ((((r1 ++ (⟨#[46]⟩ : ByteArray)) ++ r2) ++ (⟨#[46]⟩ : ByteArray)) ++ r3)) v1 v2 (w64 (v3 + 1))
     else
     none
    else
    none
   else
   none
  else
  none
 else
 none
theorem zq87.o2.run (N : Nat) (Kn58 : St D0 → Option zq87.R) (v0 : ByteArray) (v1 : List S41) (v2 : Int) (v3 : Int) (v4 : Int) (v5 : Int) (v6 : Int) : runC zq87.C (zq87.O N) N zq87.c7475 7475 (mkSt [(3, .one (.str v0)), (5, .one (.ptr 5 0)), (11, .one (.sl false 41 v1)), (12, .one (.int .i64 v2)), (13, .one (.int .i64 v3))] [(5, some (41, [.int .i64 v4, .int .i64 v5, .int .i64 v6]))] : St D0) (blockK 1 ((fun up => (onN (fun s => zq87.C.tidy 934 s (fun s' => runC zq87.C (zq87.O N) N zq87.c935 935 s' up)) up)) ((fun up => (onN (fun s => zq87.C.tidy 58 s ((onN Kn58 up) .normal)) (onN Kn58 up))) (blockK 0 (onN (fun s => zq87.C.tidy 14 s (fun s' => runC zq87.C (zq87.O N) N zq87.c15 15 s' zq87.K0)) zq87.K0))))) = zq87.o2 N v0 v1 v2 v3 v4 v5 v6 ((fun w0 w1 w2 w3 => Kn58 (mkSt [(3, .one (.str w0)), (11, .one (.sl false 41 w1)), (12, .one (.int .i64 w2)), (13, .one (.int .i64 w3))] [] : St D0))) := by kernel_rfl
def zq87.d2 (N : Nat) (v0 : ByteArray) (v1 : List S41) (v2 : Int) (v3 : Int) (v4 : Int) (v5 : Int) (v6 : Int) (c1 : ByteArray → (List S41) → Int → Int → Option zq87.R) : Option zq87.R := zq87.o2 N v0 v1 v2 v3 v4 v5 v6 c1
theorem zq87.d2.run (N : Nat) (Kn58 : St D0 → Option zq87.R) (v0 : ByteArray) (v1 : List S41) (v2 : Int) (v3 : Int) (v4 : Int) (v5 : Int) (v6 : Int) : runC zq87.C (zq87.O N) N zq87.c7475 7475 (mkSt [(3, .one (.str v0)), (5, .one (.ptr 5 0)), (11, .one (.sl false 41 v1)), (12, .one (.int .i64 v2)), (13, .one (.int .i64 v3))] [(5, some (41, [.int .i64 v4, .int .i64 v5, .int .i64 v6]))] : St D0) (zq87.K7475 N Kn58) = zq87.d2 N v0 v1 v2 v3 v4 v5 v6 ((fun w0 w1 w2 w3 => Kn58 (mkSt [(3, .one (.str w0)), (11, .one (.sl false 41 w1)), (12, .one (.int .i64 w2)), (13, .one (.int .i64 w3))] [] : St D0))) := by
  exact (zq87.o2.run N Kn58 v0 v1 v2 v3 v4 v5 v6).trans rfl
def zq87.K116 (N : Nat) (Kn58 : St D0 → Option zq87.R) : Ex → St D0 → Option zq87.R := ((fun up => (onN (fun s => zq87.C.tidy 58 s ((onN Kn58 up) .normal)) (onN Kn58 up))) (blockK 0 (onN (fun s => zq87.C.tidy 14 s (fun s' => runC zq87.C (zq87.O N) N zq87.c15 15 s' zq87.K0)) zq87.K0)))
def zq87.o1 (N : Nat) (v0 : ByteArray) (v1 : List S41) (v2 : Int) (v3 : Int) (c2 : ByteArray → (List S41) → Int → Int → Int → Int → Int → Option zq87.R) : Option zq87.R :=
 bif (decide (v3 < v2)) then
  bif (decide (0 ≤ v3)) then
   bif (decide (v3 < (v1.length : Int))) then
    (v1[(v3 : Int).toNat]?).bind fun x1 =>
    bif (decide (v3 > 0)) then
     bif (Nat.ble (v0.size + (⟨#[44]⟩ : ByteArray).size) 9223372036854775807) then
      c2 (v0 ++ (⟨#[44]⟩ : ByteArray)) v1 v2 v3 x1.f0 x1.f1 x1.f2
     else
     none
    else
    c2 v0 v1 v2 v3 x1.f0 x1.f1 x1.f2
   else
   none
  else
  none
 else
 some (v0)
theorem zq87.o1.run (N : Nat) (Kn58 : St D0 → Option zq87.R) (H7475 : Code) (v0 : ByteArray) (v1 : List S41) (v2 : Int) (v3 : Int) : runC zq87.C (zq87.O N) N (.seq zq87.c232 (.seq zq87.c466 (.seq (.block 1 (.seq zq87.c3736 (.seq zq87.c7474 H7475))) zq87.c935))) 116 (mkSt [(3, .one (.str v0)), (11, .one (.sl false 41 v1)), (12, .one (.int .i64 v2)), (13, .one (.int .i64 v3))] [] : St D0) ((fun up => (onN (fun s => zq87.C.tidy 58 s ((onN Kn58 up) .normal)) (onN Kn58 up))) (blockK 0 (onN (fun s => zq87.C.tidy 14 s (fun s' => runC zq87.C (zq87.O N) N zq87.c15 15 s' zq87.K0)) zq87.K0))) = zq87.o1 N v0 v1 v2 v3 ((fun w0 w1 w2 w3 w4 w5 w6 => runC zq87.C (zq87.O N) N H7475 7475 (mkSt [(3, .one (.str w0)), (5, .one (.ptr 5 0)), (11, .one (.sl false 41 w1)), (12, .one (.int .i64 w2)), (13, .one (.int .i64 w3))] [(5, some (41, [.int .i64 w4, .int .i64 w5, .int .i64 w6]))] : St D0) (blockK 1 ((fun up => (onN (fun s => zq87.C.tidy 934 s (fun s' => runC zq87.C (zq87.O N) N zq87.c935 935 s' up)) up)) ((fun up => (onN (fun s => zq87.C.tidy 58 s ((onN Kn58 up) .normal)) (onN Kn58 up))) (blockK 0 (onN (fun s => zq87.C.tidy 14 s (fun s' => runC zq87.C (zq87.O N) N zq87.c15 15 s' zq87.K0)) zq87.K0))))))) := by kernel_rfl
def zq87.d1 (N : Nat) (v0 : ByteArray) (v1 : List S41) (v2 : Int) (v3 : Int) (c1 : ByteArray → (List S41) → Int → Int → Option zq87.R) : Option zq87.R := zq87.o1 N v0 v1 v2 v3 ((fun w0 w1 w2 w3 w4 w5 w6 => zq87.d2 N w0 w1 w2 w3 w4 w5 w6 c1))
theorem zq87.c116_1 : zq87.c116 = (.seq zq87.c232 (.seq zq87.c466 (.seq (.block 1 (.seq zq87.c3736 (.seq zq87.c7474 zq87.c7475))) zq87.c935))) := by kernel_rfl
theorem zq87.d1.run (N : Nat) (Kn58 : St D0 → Option zq87.R) (v0 : ByteArray) (v1 : List S41) (v2 : Int) (v3 : Int) : runC zq87.C (zq87.O N) N zq87.c116 116 (mkSt [(3, .one (.str v0)), (11, .one (.sl false 41 v1)), (12, .one (.int .i64 v2)), (13, .one (.int .i64 v3))] [] : St D0) (zq87.K116 N Kn58) = zq87.d1 N v0 v1 v2 v3 ((fun w0 w1 w2 w3 => Kn58 (mkSt [(3, .one (.str w0)), (11, .one (.sl false 41 w1)), (12, .one (.int .i64 w2)), (13, .one (.int .i64 w3))] [] : St D0))) := by
  rw [zq87.c116_1]; unfold zq87.d1; exact (zq87.o1.run N Kn58 zq87.c7475 v0 v1 v2 v3).trans (congr rfl (funext fun w0 => funext fun w1 => funext fun w2 => funext fun w3 => funext fun w4 => funext fun w5 => funext fun w6 => zq87.d2.run N Kn58 w0 w1 w2 w3 w4 w5 w6))
def zq87.K58 (N : Nat) : Ex → St D0 → Option zq87.R := (blockK 0 (onN (fun s => zq87.C.tidy 14 s (fun s' => runC zq87.C (zq87.O N) N zq87.c15 15 s' zq87.K0)) zq87.K0))
def zq87.l1 (N : Nat) : Nat → ByteArray → (List S41) → Int → Int → Option zq87.R
  | 0, _, _, _, _ => none
  | n + 1, v0, v1, v2, v3 => zq87.d1 N v0 v1 v2 v3 ((fun w0 w1 w2 w3 => zq87.l1 N n w0 w1 w2 w3))
theorem zq87.loop58 (N : Nat) : ∀ n, (∀ (v0 : ByteArray) (v1 : List S41) (v2 : Int) (v3 : Int), iter (loopF zq87.C (zq87.O N) N zq87.c116 58) n (mkSt [(3, .one (.str v0)), (11, .one (.sl false 41 v1)), (12, .one (.int .i64 v2)), (13, .one (.int .i64 v3))] [] : St D0) (zq87.K58 N) = zq87.l1 N n v0 v1 v2 v3)
  | 0 => (fun v0 v1 v2 v3 => rfl)
  | n + 1 => (fun v0 v1 v2 v3 => (zq87.d1.run N (fun s => iter (loopF zq87.C (zq87.O N) N zq87.c116 58) n s (zq87.K58 N)) v0 v1 v2 v3).trans (show _ = zq87.d1 N v0 v1 v2 v3 ((fun w0 w1 w2 w3 => zq87.l1 N n w0 w1 w2 w3)) from (congr rfl (funext fun w0 => funext fun w1 => funext fun w2 => funext fun w3 => (zq87.loop58 N n) w0 w1 w2 w3))))
def zq87.o0 (N : Nat) (a0_0 : Int) (a0_1 : List S41) (c1 : ByteArray → (List S41) → Int → Int → Option zq87.R) : Option zq87.R :=
 (zq74.g N a0_0).bind fun r1 =>
 bif (Nat.ble (r1.size + (⟨#[58]⟩ : ByteArray).size) 9223372036854775807) then
  c1 (r1 ++ (⟨#[58]⟩ : ByteArray)) a0_1 (a0_1.length : Int) 0
 else
 none
theorem zq87.o0.run (N : Nat) (H116 : Code) (a0_0 : Int) (a0_1 : List S41) : runC zq87.C (zq87.O N) N (.seq zq87.c2 (.seq zq87.c6 (.seq (.seq zq87.c28 (.block 0 (.loop H116))) zq87.c15))) 1 (st0 [.agg [.int .i64 a0_0, .sl false 41 a0_1]] [] : St D0) zq87.K0 = zq87.o0 N a0_0 a0_1 ((fun w0 w1 w2 w3 => iter (loopF zq87.C (zq87.O N) N H116 58) N (mkSt [(3, .one (.str w0)), (11, .one (.sl false 41 w1)), (12, .one (.int .i64 w2)), (13, .one (.int .i64 w3))] [] : St D0) (blockK 0 (onN (fun s => zq87.C.tidy 14 s (fun s' => runC zq87.C (zq87.O N) N zq87.c15 15 s' zq87.K0)) zq87.K0)))) := by kernel_rfl
def zq87.g (N : Nat) (a0_0 : Int) (a0_1 : List S41) : Option zq87.R := zq87.o0 N a0_0 a0_1 ((fun w0 w1 w2 w3 => zq87.l1 N N w0 w1 w2 w3))
theorem zq87.c1_0 : zq87.c1 = (.seq zq87.c2 (.seq zq87.c6 (.seq (.seq zq87.c28 (.block 0 (.loop zq87.c116))) zq87.c15))) := by kernel_rfl
theorem zq87.g.run (N : Nat) (a0_0 : Int) (a0_1 : List S41) : runC zq87.C (zq87.O N) N zq87.c1 1 (st0 [.agg [.int .i64 a0_0, .sl false 41 a0_1]] [] : St D0) zq87.K0 = zq87.g N a0_0 a0_1 := by
  rw [zq87.c1_0]; unfold zq87.g; exact (zq87.o0.run N zq87.c116 a0_0 a0_1).trans (congr rfl (funext fun w0 => funext fun w1 => funext fun w2 => funext fun w3 => (zq87.loop58 N N) w0 w1 w2 w3))
theorem zq87.good (N : Nat) (a0_0 : Int) (a0_1 : List S41) (r : zq87.R) (h : zq87.g N a0_0 a0_1 = some r) : Go.PM.Good Tryz.prog T0 48 [.agg [.int .i64 a0_0, .sl false 41 a0_1]] [] (zq87.sig.ret r) (zq87.sig.bs r) :=
  good_fn tabOk0 mixed0 zq87.sig (zq87.E N) Tryz.func48 (by kernel_rfl) (by kernel_rfl) 555071 0 0 [(58, [3, 11, 12, 13], []), (7474, [3, 5, 11, 12, 13], [5])] 5505024 false [] [(false, [.any])] (by kernel_rfl) rfl rfl ((zq87.g.run N a0_0 a0_1).trans h)
def zq87.ent (N : Nat) : Ent Tryz.prog T0 := mkEnt 48 [(true, [.any, .ro 41])] zq87.sig (fun t => zq87.g N t.1 t.2) (fun t r h => zq87.good N t.1 t.2 r h)
/-! ### zq56 -/
abbrev zq56.R : Type := ByteArray × Bool
abbrev zq56.sig : Sig := ⟨[(true, 2)], [], [.int .i64, .sl false 41], [(false, 1), (false, 1)], [], [.str, .bool]⟩
def zq56.C : Cfg D0 := ⟨Tryz.prog, T0, 79, 0, 9, 0, [], 0, false, []⟩
def zq56.E (N : Nat) : List (Ent Tryz.prog T0) := [zq82.ent N, zq87.ent N]
def zq56.O (N : Nat) : Orc D0 zq56.R := orcOf (zq56.E N)
def zq56.K0 : Ex → St D0 → Option zq56.R := exitK zq56.C Tryz.f22.results.toList [(false, [.any]), (false, [.any])] (decOut zq56.sig)
def zq56.c1 : Code := codeAt (Tryz.f22.body.getD .skip) []
def zq56.o0 (N : Nat) (a0_0 : Int) (a0_1 : List S41) : Option zq56.R :=
 (zq82.g N a0_0 a0_1).bind fun r1 =>
 bif (!r1) then
  some ((⟨#[]⟩ : ByteArray), false)
 else
 (zq87.g N a0_0 a0_1).bind fun r2 =>
 some (r2, true)
theorem zq56.o0.run (N : Nat) (a0_0 : Int) (a0_1 : List S41) : runC zq56.C (zq56.O N) N zq56.c1 1 (st0 [.agg [.int .i64 a0_0, .sl false 41 a0_1]] [] : St D0) zq56.K0 = zq56.o0 N a0_0 a0_1 := by kernel_rfl
def zq56.g (N : Nat) (a0_0 : Int) (a0_1 : List S41) : Option zq56.R := zq56.o0 N a0_0 a0_1
theorem zq56.g.run (N : Nat) (a0_0 : Int) (a0_1 : List S41) : runC zq56.C (zq56.O N) N zq56.c1 1 (st0 [.agg [.int .i64 a0_0, .sl false 41 a0_1]] [] : St D0) zq56.K0 = zq56.g N a0_0 a0_1 := by
  exact (zq56.o0.run N a0_0 a0_1).trans rfl
theorem zq56.good (N : Nat) (a0_0 : Int) (a0_1 : List S41) (r : zq56.R) (h : zq56.g N a0_0 a0_1 = some r) : Go.PM.Good Tryz.prog T0 22 [.agg [.int .i64 a0_0, .sl false 41 a0_1]] [] (zq56.sig.ret r) (zq56.sig.bs r) :=
  good_fn tabOk0 mixed0 zq56.sig (zq56.E N) Tryz.func22 (by kernel_rfl) (by kernel_rfl) 79 0 0 [] 0 false [] [(false, [.any]), (false, [.any])] (by kernel_rfl) rfl rfl ((zq56.g.run N a0_0 a0_1).trans h)
def zq56.ent (N : Nat) : Ent Tryz.prog T0 := mkEnt 22 [(true, [.any, .ro 41])] zq56.sig (fun t => zq56.g N t.1 t.2) (fun t r h => zq56.good N t.1 t.2 r h)
/-! ### zq75 -/
abbrev zq75.R : Type := Int
abbrev zq75.sig : Sig := ⟨[(false, 1)], [], [.str], [(false, 1)], [], [.int .i64]⟩
def zq75.C : Cfg D0 := ⟨Tryz.prog, T0, 17184325661, 0, 44, 0, [(12, [0, 18], []), (122, [0, 3, 4], []), (7824, [0, 3, 4, 34], [])], 450008466464, false, []⟩
def zq75.E (N : Nat) : List (Ent Tryz.prog T0) := [zq72.ent N]
def zq75.O (N : Nat) : Orc D0 zq75.R := orcOf (zq75.E N)
def zq75.K0 : Ex → St D0 → Option zq75.R := exitK zq75.C Tryz.f85.results.toList [(false, [.any])] (decOut zq75.sig)
def zq75.c1 : Code := codeAt (Tryz.f85.body.getD .skip) []
def zq75.c2 : Code := codeAt (Tryz.f85.body.getD .skip) [false]
def zq75.c7 : Code := codeAt (Tryz.f85.body.getD .skip) [true, true]
def zq75.c12 : Code := codeAt (Tryz.f85.body.getD .skip) [true, false, false]
def zq75.c13 : Code := codeAt (Tryz.f85.body.getD .skip) [true, false, true]
def zq75.c14 : Code := codeAt (Tryz.f85.body.getD .skip) [true, true, false]
def zq75.c31 : Code := codeAt (Tryz.f85.body.getD .skip) [true, true, true, true]
def zq75.c60 : Code := codeAt (Tryz.f85.body.getD .skip) [true, true, true, false, false]
def zq75.c244 : Code := codeAt (Tryz.f85.body.getD .skip) [true, true, true, false, true, false, false]
def zq75.c488 : Code := codeAt (Tryz.f85.body.getD .skip) [true, true, true, false, true, false, false, false]
def zq75.c979 : Code := codeAt (Tryz.f85.body.getD .skip) [true, true, true, false, true, false, false, true, true]
def zq75.c3913 : Code := codeAt (Tryz.f85.body.getD .skip) [true, true, true, false, true, false, false, true, false, false, true]
def zq75.c7824 : Code := codeAt (Tryz.f85.body.getD .skip) [true, true, true, false, true, false, false, true, false, false, false, false]
def zq75.c7825 : Code := codeAt (Tryz.f85.body.getD .skip) [true, true, true, false, true, false, false, true, false, false, false, true]
def zq75.K7825 (N : Nat) (Kn122 : St D0 → Option zq75.R) : Ex → St D0 → Option zq75.R := ((fun up => (onN (fun s => zq75.C.tidy 3912 s (fun s' => runC zq75.C (zq75.O N) N zq75.c3913 3913 s' up)) up)) (blockK 1 ((fun up => (onN (fun s => zq75.C.tidy 978 s (fun s' => runC zq75.C (zq75.O N) N zq75.c979 979 s' up)) up)) ((fun up => (onN (fun s => zq75.C.tidy 122 s ((onN Kn122 up) .normal)) (onN Kn122 up))) (blockK 0 (onN (fun s => zq75.C.tidy 30 s (fun s' => runC zq75.C (zq75.O N) N zq75.c31 31 s' zq75.K0)) zq75.K0))))))
def zq75.o3 (N : Nat) (v0 : ByteArray) (v1 : Int) (v2 : Int) (v3 : Bool) (c2 : ByteArray → Int → Int → Option zq75.R) : Option zq75.R :=
 bif v3 then
  some ((-1))
 else
 bif (decide (0 ≤ v2)) then
  bif (decide (v2 < (v0.size : Int))) then
   c2 v0 (w64 ((w64 (10 * v1)) + (w64 ((IntKind.wrap .u8) ((bt v0 v2) - 48))))) (w64 (v2 + 1))
  else
  none
 else
 none
theorem zq75.o3.run (N : Nat) (Kn122 : St D0 → Option zq75.R) (v0 : ByteArray) (v1 : Int) (v2 : Int) (v3 : Bool) : runC zq75.C (zq75.O N) N zq75.c7825 7825 (mkSt [(0, .one (.str v0)), (3, .one (.int .i64 v1)), (4, .one (.int .i64 v2)), (34, .one (.bool v3))] [] : St D0) ((fun up => (onN (fun s => zq75.C.tidy 3912 s (fun s' => runC zq75.C (zq75.O N) N zq75.c3913 3913 s' up)) up)) (blockK 1 ((fun up => (onN (fun s => zq75.C.tidy 978 s (fun s' => runC zq75.C (zq75.O N) N zq75.c979 979 s' up)) up)) ((fun up => (onN (fun s => zq75.C.tidy 122 s ((onN Kn122 up) .normal)) (onN Kn122 up))) (blockK 0 (onN (fun s => zq75.C.tidy 30 s (fun s' => runC zq75.C (zq75.O N) N zq75.c31 31 s' zq75.K0)) zq75.K0)))))) = zq75.o3 N v0 v1 v2 v3 ((fun w0 w1 w2 => Kn122 (mkSt [(0, .one (.str w0)), (3, .one (.int .i64 w1)), (4, .one (.int .i64 w2))] [] : St D0))) := by kernel_rfl
def zq75.d3 (N : Nat) (v0 : ByteArray) (v1 : Int) (v2 : Int) (v3 : Bool) (c2 : ByteArray → Int → Int → Option zq75.R) : Option zq75.R := zq75.o3 N v0 v1 v2 v3 c2
theorem zq75.d3.run (N : Nat) (Kn122 : St D0 → Option zq75.R) (v0 : ByteArray) (v1 : Int) (v2 : Int) (v3 : Bool) : runC zq75.C (zq75.O N) N zq75.c7825 7825 (mkSt [(0, .one (.str v0)), (3, .one (.int .i64 v1)), (4, .one (.int .i64 v2)), (34, .one (.bool v3))] [] : St D0) (zq75.K7825 N Kn122) = zq75.d3 N v0 v1 v2 v3 ((fun w0 w1 w2 => Kn122 (mkSt [(0, .one (.str w0)), (3, .one (.int .i64 w1)), (4, .one (.int .i64 w2))] [] : St D0))) := by
  exact (zq75.o3.run N Kn122 v0 v1 v2 v3).trans rfl
def zq75.K244 (N : Nat) (Kn122 : St D0 → Option zq75.R) : Ex → St D0 → Option zq75.R := ((fun up => (onN (fun s => zq75.C.tidy 122 s ((onN Kn122 up) .normal)) (onN Kn122 up))) (blockK 0 (onN (fun s => zq75.C.tidy 30 s (fun s' => runC zq75.C (zq75.O N) N zq75.c31 31 s' zq75.K0)) zq75.K0)))
def zq75.o2 (N : Nat) (v0 : ByteArray) (v1 : Int) (v2 : Int) (c3 : ByteArray → Int → Int → Bool → Option zq75.R) : Option zq75.R :=
 bif (decide (v2 < (v0.size : Int))) then
  bif (decide (0 ≤ v2)) then
   bif (decide (v2 < (v0.size : Int))) then
    bif (decide ((bt v0 v2) < 48)) then
     c3 v0 v1 v2 true
    else
    bif (decide (0 ≤ v2)) then
     bif (decide (v2 < (v0.size : Int))) then
      c3 v0 v1 v2 (decide ((bt v0 v2) > 57))
     else
     none
    else
    none
   else
   none
  else
  none
 else
 some (v1)
theorem zq75.o2.run (N : Nat) (Kn122 : St D0 → Option zq75.R) (H7825 : Code) (v0 : ByteArray) (v1 : Int) (v2 : Int) : runC zq75.C (zq75.O N) N (.seq zq75.c488 (.seq (.block 1 (.seq (.seq zq75.c7824 H7825) zq75.c3913)) zq75.c979)) 244 (mkSt [(0, .one (.str v0)), (3, .one (.int .i64 v1)), (4, .one (.int .i64 v2))] [] : St D0) ((fun up => (onN (fun s => zq75.C.tidy 122 s ((onN Kn122 up) .normal)) (onN Kn122 up))) (blockK 0 (onN (fun s => zq75.C.tidy 30 s (fun s' => runC zq75.C (zq75.O N) N zq75.c31 31 s' zq75.K0)) zq75.K0))) = zq75.o2 N v0 v1 v2 ((fun w0 w1 w2 w3 => runC zq75.C (zq75.O N) N H7825 7825 (mkSt [(0, .one (.str w0)), (3, .one (.int .i64 w1)), (4, .one (.int .i64 w2)), (34, .one (.bool w3))] [] : St D0) ((fun up => (onN (fun s => zq75.C.tidy 3912 s (fun s' => runC zq75.C (zq75.O N) N zq75.c3913 3913 s' up)) up)) (blockK 1 ((fun up => (onN (fun s => zq75.C.tidy 978 s (fun s' => runC zq75.C (zq75.O N) N zq75.c979 979 s' up)) up)) ((fun up => (onN (fun s => zq75.C.tidy 122 s ((onN Kn122 up) .normal)) (onN Kn122 up))) (blockK 0 (onN (fun s => zq75.C.tidy 30 s (fun s' => runC zq75.C (zq75.O N) N zq75.c31 31 s' zq75.K0)) zq75.K0)))))))) := by kernel_rfl
def zq75.d2 (N : Nat) (v0 : ByteArray) (v1 : Int) (v2 : Int) (c2 : ByteArray → Int → Int → Option zq75.R) : Option zq75.R := zq75.o2 N v0 v1 v2 ((fun w0 w1 w2 w3 => zq75.d3 N w0 w1 w2 w3 c2))
theorem zq75.c244_2 : zq75.c244 = (.seq zq75.c488 (.seq (.block 1 (.seq (.seq zq75.c7824 zq75.c7825) zq75.c3913)) zq75.c979)) := by kernel_rfl
theorem zq75.d2.run (N : Nat) (Kn122 : St D0 → Option zq75.R) (v0 : ByteArray) (v1 : Int) (v2 : Int) : runC zq75.C (zq75.O N) N zq75.c244 244 (mkSt [(0, .one (.str v0)), (3, .one (.int .i64 v1)), (4, .one (.int .i64 v2))] [] : St D0) (zq75.K244 N Kn122) = zq75.d2 N v0 v1 v2 ((fun w0 w1 w2 => Kn122 (mkSt [(0, .one (.str w0)), (3, .one (.int .i64 w1)), (4, .one (.int .i64 w2))] [] : St D0))) := by
  rw [zq75.c244_2]; unfold zq75.d2; exact (zq75.o2.run N Kn122 zq75.c7825 v0 v1 v2).trans (congr rfl (funext fun w0 => funext fun w1 => funext fun w2 => funext fun w3 => zq75.d3.run N Kn122 w0 w1 w2 w3))
def zq75.K122 (N : Nat) : Ex → St D0 → Option zq75.R := (blockK 0 (onN (fun s => zq75.C.tidy 30 s (fun s' => runC zq75.C (zq75.O N) N zq75.c31 31 s' zq75.K0)) zq75.K0))
def zq75.l2 (N : Nat) : Nat → ByteArray → Int → Int → Option zq75.R
  | 0, _, _, _ => none
  | n + 1, v0, v1, v2 => zq75.d2 N v0 v1 v2 ((fun w0 w1 w2 => zq75.l2 N n w0 w1 w2))
theorem zq75.loop122 (N : Nat) : ∀ n, (∀ (v0 : ByteArray) (v1 : Int) (v2 : Int), iter (loopF zq75.C (zq75.O N) N zq75.c244 122) n (mkSt [(0, .one (.str v0)), (3, .one (.int .i64 v1)), (4, .one (.int .i64 v2))] [] : St D0) (zq75.K122 N) = zq75.l2 N n v0 v1 v2)
  | 0 => (fun v0 v1 v2 => rfl)
  | n + 1 => (fun v0 v1 v2 => (zq75.d2.run N (fun s => iter (loopF zq75.C (zq75.O N) N zq75.c244 122) n s (zq75.K122 N)) v0 v1 v2).trans (show _ = zq75.d2 N v0 v1 v2 ((fun w0 w1 w2 => zq75.l2 N n w0 w1 w2)) from (congr rfl (funext fun w0 => funext fun w1 => funext fun w2 => (zq75.loop122 N n) w0 w1 w2))))
def zq75.K13 (N : Nat) : Ex → St D0 → Option zq75.R := (onN (fun s => zq75.C.tidy 6 s (fun s' => runC zq75.C (zq75.O N) N zq75.c7 7 s' zq75.K0)) zq75.K0)
def zq75.o1 (N : Nat) (v0 : ByteArray) (v1 : Bool) (c2 : ByteArray → Int → Int → Option zq75.R) : Option zq75.R :=
 bif v1 then
  some ((-1))
 else
 c2 v0 0 0
theorem zq75.o1.run (N : Nat) (H244 : Code) (v0 : ByteArray) (v1 : Bool) : runC zq75.C (zq75.O N) N zq75.c13 13 (mkSt [(0, .one (.str v0)), (18, .one (.bool v1))] [] : St D0) (onN (fun s => zq75.C.tidy 6 s (fun s' => runC zq75.C (zq75.O N) N (.seq zq75.c14 (.seq (.seq zq75.c60 (.block 0 (.loop H244))) zq75.c31)) 7 s' zq75.K0)) zq75.K0) = zq75.o1 N v0 v1 ((fun w0 w1 w2 => iter (loopF zq75.C (zq75.O N) N H244 122) N (mkSt [(0, .one (.str w0)), (3, .one (.int .i64 w1)), (4, .one (.int .i64 w2))] [] : St D0) (blockK 0 (onN (fun s => zq75.C.tidy 30 s (fun s' => runC zq75.C (zq75.O N) N zq75.c31 31 s' zq75.K0)) zq75.K0)))) := by kernel_rfl
def zq75.d1 (N : Nat) (v0 : ByteArray) (v1 : Bool) : Option zq75.R := zq75.o1 N v0 v1 ((fun w0 w1 w2 => zq75.l2 N N w0 w1 w2))
theorem zq75.d1.run (N : Nat) (v0 : ByteArray) (v1 : Bool) : runC zq75.C (zq75.O N) N zq75.c13 13 (mkSt [(0, .one (.str v0)), (18, .one (.bool v1))] [] : St D0) (zq75.K13 N) = zq75.d1 N v0 v1 := by
  unfold zq75.d1; exact (zq75.o1.run N zq75.c244 v0 v1).trans (congr rfl (funext fun w0 => funext fun w1 => funext fun w2 => (zq75.loop122 N N) w0 w1 w2))
def zq75.o0 (N : Nat) (a0 : ByteArray) (c1 : ByteArray → Bool → Option zq75.R) : Option zq75.R :=
 (zq72.g N (a0.size : Int) 1 6).bind fun r1 =>
 bif (!r1) then
  c1 a0 true
 else
 bif (decide (0 < (a0.size : Int))) then
  bif ((bt a0 0) == 48) then
   c1 a0 (decide ((a0.size : Int) > 1))
  else
  c1 a0 false
 else
 none
theorem zq75.o0.run (N : Nat) (H13 : Code) (a0 : ByteArray) : runC zq75.C (zq75.O N) N (.seq zq75.c2 (.seq (.seq zq75.c12 H13) zq75.c7)) 1 (st0 [.one (.str a0)] [] : St D0) zq75.K0 = zq75.o0 N a0 ((fun w0 w1 => runC zq75.C (zq75.O N) N H13 13 (mkSt [(0, .one (.str w0)), (18, .one (.bool w1))] [] : St D0) (onN (fun s => zq75.C.tidy 6 s (fun s' => runC zq75.C (zq75.O N) N zq75.c7 7 s' zq75.K0)) zq75.K0))) := by kernel_rfl
def zq75.g (N : Nat) (a0 : ByteArray) : Option zq75.R := zq75.o0 N a0 ((fun w0 w1 => zq75.d1 N w0 w1))
theorem zq75.c1_0 : zq75.c1 = (.seq zq75.c2 (.seq (.seq zq75.c12 zq75.c13) zq75.c7)) := by kernel_rfl
theorem zq75.g.run (N : Nat) (a0 : ByteArray) : runC zq75.C (zq75.O N) N zq75.c1 1 (st0 [.one (.str a0)] [] : St D0) zq75.K0 = zq75.g N a0 := by
  rw [zq75.c1_0]; unfold zq75.g; exact (zq75.o0.run N zq75.c13 a0).trans (congr rfl (funext fun w0 => funext fun w1 => zq75.d1.run N w0 w1))
theorem zq75.good (N : Nat) (a0 : ByteArray) (r : zq75.R) (h : zq75.g N a0 = some r) : Go.PM.Good Tryz.prog T0 85 [.one (.str a0)] [] (zq75.sig.ret r) (zq75.sig.bs r) :=
  good_fn tabOk0 mixed0 zq75.sig (zq75.E N) Tryz.func85 (by kernel_rfl) (by kernel_rfl) 17184325661 0 0 [(12, [0, 18], []), (122, [0, 3, 4], []), (7824, [0, 3, 4, 34], [])] 450008466464 false [] [(false, [.any])] (by kernel_rfl) rfl rfl ((zq75.g.run N a0).trans h)
def zq75.ent (N : Nat) : Ent Tryz.prog T0 := mkEnt 85 [(false, [.any])] zq75.sig (fun t => zq75.g N t) (fun t r h => zq75.good N t r h)
end Go.Proofs.YtpeleommbipeaaaGreatDoor.M
namespace Go.Proofs.YtpeleommbipeaaaGreatDoor.M
open Go Go.PM Go.Proofs.YtpeleommbipeaaaGreatDoor.P
set_option linter.unusedVariables false
set_option maxRecDepth 100000
open Go.RowKit Go.Lib
/-! ### zq26 -/
abbrev zq26.R : Type := Int × Bool
abbrev zq26.sig : Sig := ⟨[(false, 1), (false, 1)], [], [.str, .int .i64], [(false, 1), (false, 1)], [], [.int .i64, .bool]⟩
theorem zq26.asd {p : Prop} (h : p) : Aside p := h
def zq26.v (a0 : ByteArray) (a1 : Int) : Int × Bool := match Lib.atoiAll a0.data.toList with
  | .ok v => if 0 ≤ v ∧ v ≤ a1 then (if Lib.itoa v = a0.toList then (v, true) else (0, false)) else (0, false)
  | _ => (0, false)
def zq26.g (N : Nat) (a0 : ByteArray) (a1 : Int) : Option zq26.R := bif decide (a0.size ≤ 281474976710656) && decide (a1 ≤ 9223372036854775807) then some (zq26.v a0 a1) else none
theorem zq26.gr {w w2 w3 : World} (hb : Below w.heap.size w w2) (h : ∃ k os, w3 = Go.Sort.grow (w2.drewN k) os) : Below w.heap.size w w3 := by
  obtain ⟨k, os, rfl⟩ := h
  refine ⟨hb.os, hb.tape, hb.output, ?_, fun i hi => ?_⟩
  · show w.heap.size ≤ (w2.heap ++ os).size
    rw [Array.size_append]; have := hb.size; omega
  · show (w2.heap ++ os)[i]? = w.heap[i]?
    rw [Array.getElem?_append_left (by have := hb.size; omega)]
    exact hb.block i hi
theorem zq26.bw (w : World) (t : ByteArray) : Below w.heap.size w (Lib.bytesWorld w 5 t) := ⟨rfl, rfl, rfl, by rw [Lib.bytesWorld_size]; omega, fun i hi => Lib.bytesWorld_at_old w 5 t i (by omega)⟩
theorem zq26.within (v a1 : Int) (w : World) (hG : GlW w) : Calls Tryz.prog 57 #[.int .i64 v, .int .i64 0, .int .i64 a1] w fun e w' => e = .returned (.bool (decide (0 ≤ v ∧ v ≤ a1))) ∧ Below w.heap.size w w' := by
  have hw : zq31.g 0 v 0 a1 = some (decide (0 ≤ v ∧ v ≤ a1)) := by
    unfold zq31.g zq31.o0
    by_cases h : 0 ≤ v
    · rw [decide_eq_true (show v ≥ 0 from h), cond_true]; simp [h]
    · rw [decide_eq_false (show ¬ v ≥ 0 from h), cond_false]; simp [h]
  exact law_calls (zq31.good 0 v 0 a1 _ hw) #[.int .i64 v, .int .i64 0, .int .i64 a1] (.cons (ERep.int _ _) (.cons (ERep.int _ _) (.cons (ERep.int _ _) .nil))) rfl rfl (fun C b u h => inv_bool h) hG
set_option maxHeartbeats 2000000 in
set_option maxRecDepth 100000 in
theorem zq26.walk (a0 : ByteArray) (a1 : Int) (hlim : a0.size ≤ 281474976710656) (h63 : a1 ≤ 9223372036854775807) (r1 : Int) (r2 : Bool) (w : World) (hG : GlW w) (hv : zq26.v a0 a1 = (r1, r2)) :
    Calls Tryz.prog 59 #[.string a0, .int .i64 a1] w fun e w' => e = .returned (.tuple #[.int .i64 r1, .bool r2]) ∧ Below w.heap.size w w' := by
  have HG := zq26.asd hG
  clear hG
  unfold zq26.v at hv
  rcases hat : Lib.atoiAll a0.data.toList with v | _ | _
  · rw [hat] at hv
    have hv2 : (if 0 ≤ v ∧ v ≤ a1 then (if Lib.itoa v = a0.toList then (v, true) else (0, false)) else (0, false)) = (r1, r2) := hv
    clear hv
    have HA := zq26.asd (Tryz.strconv_Atoi_ok a0 (by omega) v hat)
    clear hat
    have hfrom : ∀ w' : World, (w' = w ∨ ∃ t, w' = Lib.bytesWorld w 5 t) → Below w.heap.size w w' := by
      rintro w' (rfl | ⟨t, rfl⟩)
      · exact Below.refl _ _
      · exact zq26.bw w t
    have HF := zq26.asd hfrom
    clear hfrom
    by_cases c1 : 0 ≤ v ∧ v ≤ a1
    · rw [if_pos c1] at hv2
      have HW := zq26.asd (fun (W : World) (hg : GlW W) => by have := zq26.within v a1 W hg; rw [decide_eq_true c1] at this; exact this)
      have HI := zq26.asd (fun (W : World) (hg : GlW W) => Tryz.strconv_Itoa v (by omega) (by omega) W hg.tab)
      clear c1
      by_cases c2 : Lib.itoa v = a0.toList
      · rw [if_pos c2] at hv2
        simp only [Prod.mk.injEq] at hv2
        obtain ⟨rfl, rfl⟩ := hv2
        have c2b0 : (Lib.itoa v == a0.toList) = true := beq_iff_eq.mpr c2
        have c2b1 : (Lib.itoa v != a0.toList) = false := bne_eq_false_iff_eq.mpr c2
        clear c2
        go_enter Tryz.func59, Tryz.ntmps59
        go_wp2_with (first | (go_at_call 82; refine (HA.out _).mono ?_; rintro e w1 ⟨rfl, hw⟩; have HB := zq26.asd (HF.out _ hw); clear hw) | (go_at_call 57; refine (HW.out _ (HG.out.below HB.out)).mono ?_; rintro e w2 ⟨rfl, hb⟩; have HB2 := zq26.asd (HB.out.trans (hb.mono HB.out.size)); clear hb) | (go_at_call 75; refine (HI.out _ (HG.out.below HB2.out)).mono ?_; rintro e w3 ⟨rfl, hk⟩; have HB3 := zq26.asd (zq26.gr HB2.out hk); clear hk))
        go_ret2
        exact ⟨rfl, HB3.out⟩
      · rw [if_neg c2] at hv2
        simp only [Prod.mk.injEq] at hv2
        obtain ⟨rfl, rfl⟩ := hv2
        have c2b0 : (Lib.itoa v == a0.toList) = false := beq_eq_false_iff_ne.mpr c2
        have c2b1 : (Lib.itoa v != a0.toList) = true := bne_iff_ne.mpr c2
        clear c2
        go_enter Tryz.func59, Tryz.ntmps59
        go_wp2_with (first | (go_at_call 82; refine (HA.out _).mono ?_; rintro e w1 ⟨rfl, hw⟩; have HB := zq26.asd (HF.out _ hw); clear hw) | (go_at_call 57; refine (HW.out _ (HG.out.below HB.out)).mono ?_; rintro e w2 ⟨rfl, hb⟩; have HB2 := zq26.asd (HB.out.trans (hb.mono HB.out.size)); clear hb) | (go_at_call 75; refine (HI.out _ (HG.out.below HB2.out)).mono ?_; rintro e w3 ⟨rfl, hk⟩; have HB3 := zq26.asd (zq26.gr HB2.out hk); clear hk))
        go_ret2
        exact ⟨rfl, HB3.out⟩
    · rw [if_neg c1] at hv2
      simp only [Prod.mk.injEq] at hv2
      obtain ⟨rfl, rfl⟩ := hv2
      have HW := zq26.asd (fun (W : World) (hg : GlW W) => by have := zq26.within v a1 W hg; rw [decide_eq_false c1] at this; exact this)
      clear c1
      go_enter Tryz.func59, Tryz.ntmps59
      go_wp2_with (first | (go_at_call 82; refine (HA.out _).mono ?_; rintro e w1 ⟨rfl, hw⟩; have HB := zq26.asd (HF.out _ hw); clear hw) | (go_at_call 57; refine (HW.out _ (HG.out.below HB.out)).mono ?_; rintro e w2 ⟨rfl, hb⟩; have HB2 := zq26.asd (HB.out.trans (hb.mono HB.out.size)); clear hb))
      go_ret2
      exact ⟨rfl, HB2.out⟩
  · rw [hat] at hv
    simp only [Prod.mk.injEq] at hv
    obtain ⟨rfl, rfl⟩ := hv
    obtain ⟨tp, p, hcell⟩ := HG.out.errS
    have HA := zq26.asd (show Calls Tryz.prog 82 #[.string a0] w fun e w' => ∃ N, e = .returned (.tuple #[.int .i64 (0), .iface 123 (.pointer (some ⟨N, 0, none⟩))]) ∧ w.heap.size ≤ N ∧ w'.heap[N]? = some (.cells #[.string ⟨#[65, 116, 111, 105]⟩, .string a0, .iface tp p] 143 (0, 0)) ∧ Below w.heap.size w w' from Go.Proofs.Any.strconv_Atoi_syntax Tryz.laysC172 a0 hlim hat (.iface tp p) w hcell (Or.inr ⟨tp, p, rfl⟩))
    clear hat hcell
    go_enter Tryz.func59, Tryz.ntmps59
    go_wp2_with (go_at_call 82; refine HA.out.mono ?_; rintro e w' ⟨N, rfl, hN, hh, hb⟩; have HB := zq26.asd hb; clear hb hh hN)
    go_ret2
    exact ⟨rfl, HB.out⟩
  · rw [hat] at hv
    simp only [Prod.mk.injEq] at hv
    obtain ⟨rfl, rfl⟩ := hv
    obtain ⟨tp, p, hcell⟩ := HG.out.errR
    have HA := zq26.asd (Tryz.strconv_Atoi_range a0 hlim hat (.iface tp p) w hcell (Or.inr ⟨tp, p, rfl⟩))
    clear hat hcell
    generalize Lib.atoiSat a0.data.toList = sat at HA
    go_enter Tryz.func59, Tryz.ntmps59
    go_wp2_with (go_at_call 82; refine HA.out.mono ?_; rintro e w' ⟨N, rfl, hN, hh, hb⟩; have HB := zq26.asd hb; clear hb hh hN)
    go_ret2
    exact ⟨rfl, HB.out⟩
theorem zq26.good (N : Nat) (a0 : ByteArray) (a1 : Int) (r : zq26.R) (h : zq26.g N a0 a1 = some r) : Go.PM.Good Tryz.prog T0 59 [.one (.str a0), .one (.int .i64 a1)] [] (zq26.sig.ret r) (zq26.sig.bs r) := by
  obtain ⟨hc, h⟩ := bif_some h
  simp only [Bool.and_eq_true, decide_eq_true_eq] at hc
  have hr := Option.some.inj h
  refine good_glob (T := T0) ⟨_, Tryz.func59, by kernel_rfl, rfl⟩ [.one (.str a0), .one (.int .i64 a1)] (ret := zq26.sig.ret r) rfl rfl ?_
  intro w C blk vargs hsz hrep hag hgl
  have ev : vargs = #[.string a0, .int .i64 a1] := (args2 hsz).trans (by rw [rep_str (hrep 0), rep_int (hrep 1)])
  rw [ev]
  refine (zq26.walk a0 a1 hc.1 hc.2 r.1 r.2 w hgl hr).mono ?_
  rintro e w' ⟨rfl, hB⟩
  exact ⟨_, rfl, ⟨_, rfl, .cons (crep1 (ERep.int _ _)) (.cons (crep1 (ERep.bool _)) .nil)⟩, hB⟩
def zq26.ent (N : Nat) : Ent Tryz.prog T0 := mkEnt 59 [(false, [.any]), (false, [.any])] zq26.sig (fun t => zq26.g N t.1 t.2) (fun t r h => zq26.good N t.1 t.2 r h)

/-! ### zq91 -/
abbrev zq91.R : Type := ByteArray × ByteArray × Bool
abbrev zq91.sig : Sig := ⟨[(false, 1), (false, 1)], [], [.str, .str], [(false, 1), (false, 1), (false, 1)], [], [.str, .str, .bool]⟩
theorem zq91.asd {p : Prop} (h : p) : Aside p := h
def zq91.g (N : Nat) (a0 : ByteArray) (a1 : ByteArray) : Option zq91.R := match a1.data.toList with
  | [c] => bif decide (a0.size < 4294967281) then some (if Lib.indexByte a0.data.toList c < 0 then (a0, ⟨#[]⟩, false) else (a0.extract 0 (Lib.indexByte a0.data.toList c).toNat, a0.extract ((Lib.indexByte a0.data.toList c).toNat + 1) a0.size, true)) else none
  | _ => none
set_option maxHeartbeats 2000000 in
theorem zq91.walk0 (a0 : ByteArray) (c : UInt8) (hs : a0.size < 4294967281) (r : ByteArray × ByteArray × Bool) (w : World) (h : (if Lib.indexByte a0.data.toList c < 0 then (a0, ⟨#[]⟩, false) else (a0.extract 0 (Lib.indexByte a0.data.toList c).toNat, a0.extract ((Lib.indexByte a0.data.toList c).toNat + 1) a0.size, true)) = r) :
    Calls Tryz.prog 81 #[.string a0, .string ⟨#[c]⟩] w fun e w' => e = .returned (.tuple #[.string r.1, .string r.2.1, .bool r.2.2]) ∧ Below w.heap.size w w' := by
  have hge := Lib.indexByte_ge a0.data.toList c
  by_cases hn : Lib.indexByte a0.data.toList c < 0
  · rw [if_pos hn] at h
    subst h
    have hix : Lib.indexByte a0.data.toList c = -1 := by omega
    have HI := zq91.asd (fun W => (by have := Tryz.stringslite_Index_one a0 c W; rw [hix] at this; exact this : Calls Tryz.prog 98 #[.string a0, .string ⟨#[c]⟩] W fun e w' => e = .returned (.int .i64 (-1)) ∧ w' = W))
    clear hix hn hge
    go_enter Tryz.func81, Tryz.ntmps81
    go_wp2_with (go_at_call 98; refine (HI.out _).mono ?_; rintro e w' ⟨rfl, rfl⟩)
    go_ret3
    exact ⟨rfl, Below.refl _ _⟩
  · rw [if_neg hn] at h
    subst h
    obtain ⟨i, hi⟩ : ∃ i : Nat, Lib.indexByte a0.data.toList c = i := ⟨(Lib.indexByte a0.data.toList c).toNat, by omega⟩
    have hlt : i < a0.size := by
      have h1 := (Lib.indexByte_some hi).1
      rcases Nat.lt_or_ge i a0.data.toList.length with z | z
      · rw [Array.length_toList] at z; exact z
      · rw [List.getElem?_eq_none z] at h1; cases h1
    have HI := zq91.asd (fun W => (by have := Tryz.stringslite_Index_one a0 c W; rw [hi] at this; exact this : Calls Tryz.prog 98 #[.string a0, .string ⟨#[c]⟩] W fun e w' => e = .returned (.int .i64 (i : Int)) ∧ w' = W))
    rw [hi, Int.toNat_natCast]
    clear hi hn hge
    have c1 : (0 : Int) ≤ ↑i := by omega
    have c2 : (↑i : Int) ≤ ↑a0.size := by omega
    have c3 : (0 : Int) ≤ ↑i + 1 := by omega
    have c4 : (↑i + 1 : Int) ≤ ↑a0.size := by omega
    go_enter Tryz.func81, Tryz.ntmps81
    go_wp2_with (go_at_call 98; refine (HI.out _).mono ?_; rintro e w' ⟨rfl, rfl⟩)
    go_region
    all_goals (try go_wp2)
    all_goals go_ret3
    all_goals exact ⟨rfl, by repeat (first | exact Below.refl _ _ | apply Below.drew)⟩
theorem zq91.walk (a0 : ByteArray) (c : UInt8) (hs : a0.size < 4294967281) (r : ByteArray × ByteArray × Bool) (w : World) (h : (if Lib.indexByte a0.data.toList c < 0 then (a0, ⟨#[]⟩, false) else (a0.extract 0 (Lib.indexByte a0.data.toList c).toNat, a0.extract ((Lib.indexByte a0.data.toList c).toNat + 1) a0.size, true)) = r) :
    Calls Tryz.prog 58 #[.string a0, .string ⟨#[c]⟩] w fun e w' => e = .returned (.tuple #[.string r.1, .string r.2.1, .bool r.2.2]) ∧ Below w.heap.size w w' := by
  have HC := zq91.asd (zq91.walk0 a0 c hs r w h)
  clear h
  go_enter Tryz.func58, Tryz.ntmps58
  go_wp2_with (go_at_call 81; refine HC.out.mono ?_; rintro e w' ⟨rfl, hB⟩; have HB := zq91.asd hB; clear hB)
  go_ret3
  exact ⟨rfl, HB.out⟩
theorem zq91.good (N : Nat) (a0 : ByteArray) (a1 : ByteArray) (r : zq91.R) (h : zq91.g N a0 a1 = some r) : Go.PM.Good Tryz.prog T0 58 [.one (.str a0), .one (.str a1)] [] (zq91.sig.ret r) (zq91.sig.bs r) := by
  obtain ⟨⟨l⟩⟩ := a1
  match l, h with
  | [ch], h =>
    obtain ⟨hc, h⟩ := bif_some (show (bif decide (a0.size < 4294967281) then some (if Lib.indexByte a0.data.toList ch < 0 then (a0, ⟨#[]⟩, false) else (a0.extract 0 (Lib.indexByte a0.data.toList ch).toNat, a0.extract ((Lib.indexByte a0.data.toList ch).toNat + 1) a0.size, true)) else none) = some r from h)
    have hc := of_decide_eq_true hc
    refine good_still (T := T0) ⟨_, Tryz.func58, by kernel_rfl, rfl⟩ [.one (.str a0), .one (.str ⟨#[ch]⟩)] (ret := zq91.sig.ret r) rfl rfl ?_
    intro w C blk vargs hsz hrep hag
    have ev : vargs = #[.string a0, .string ⟨#[ch]⟩] := (args2 hsz).trans (by rw [rep_str (hrep 0), rep_str (hrep 1)])
    rw [ev]
    refine (zq91.walk a0 ch hc r w (Option.some.inj h)).mono ?_
    rintro e w' ⟨rfl, hB⟩
    exact ⟨_, rfl, ⟨_, rfl, .cons (crep1 (ERep.str _)) (.cons (crep1 (ERep.str _)) (.cons (crep1 (ERep.bool _)) .nil))⟩, hB⟩
def zq91.ent (N : Nat) : Ent Tryz.prog T0 := mkEnt 58 [(false, [.any]), (false, [.any])] zq91.sig (fun t => zq91.g N t.1 t.2) (fun t r h => zq91.good N t.1 t.2 r h)

end Go.Proofs.YtpeleommbipeaaaGreatDoor.M
namespace Go.Proofs.YtpeleommbipeaaaGreatDoor.M
open Go Go.PM Go.Proofs.YtpeleommbipeaaaGreatDoor.P
set_option linter.unusedVariables false
set_option maxRecDepth 100000
/-! ### zq14 -/
abbrev zq14.R : Type := Int × List S41 × Bool
abbrev zq14.sig : Sig := ⟨[(false, 1)], [], [.str], [(true, 2), (false, 1)], [], [.int .i64, .sl true 41, .bool]⟩
def zq14.C : Cfg D0 := ⟨Tryz.prog, T0, 9903520323506447352393227197, 39614081330919145091610181632, 96, 0, [(62, [0, 2, 8, 9], [2, 9]), (252, [2, 9, 93], [2, 9]), (1002, [0, 2, 8, 9, 33, 34, 35], [2, 9]), (1026458, [0, 2, 8, 9, 12, 33, 34, 35, 41, 42, 43], [2, 9]), (262773350, [0, 2, 8, 9, 12, 15, 33, 34, 35, 41, 42, 43], [2, 9])], 2478308705414654443613585408, false, []⟩
def zq14.E (N : Nat) : List (Ent Tryz.prog T0) := [zq91.ent N, zq26.ent N, zq93.ent N, zq7.ent N, zq25.ent N]
def zq14.O (N : Nat) : Orc D0 zq14.R := orcOf (zq14.E N)
def zq14.K0 : Ex → St D0 → Option zq14.R := exitK zq14.C Tryz.f32.results.toList [(true, [.any, .own 41]), (false, [.any])] (decOut zq14.sig)
def zq14.c1 : Code := codeAt (Tryz.f32.body.getD .skip) []
def zq14.c2 : Code := codeAt (Tryz.f32.body.getD .skip) [false]
def zq14.c6 : Code := codeAt (Tryz.f32.body.getD .skip) [true, false]
def zq14.c14 : Code := codeAt (Tryz.f32.body.getD .skip) [true, true, false]
def zq14.c30 : Code := codeAt (Tryz.f32.body.getD .skip) [true, true, true, false]
def zq14.c63 : Code := codeAt (Tryz.f32.body.getD .skip) [true, true, true, true, true]
def zq14.c124 : Code := codeAt (Tryz.f32.body.getD .skip) [true, true, true, true, false, false]
def zq14.c127 : Code := codeAt (Tryz.f32.body.getD .skip) [true, true, true, true, true, true]
def zq14.c251 : Code := codeAt (Tryz.f32.body.getD .skip) [true, true, true, true, false, true, true]
def zq14.c252 : Code := codeAt (Tryz.f32.body.getD .skip) [true, true, true, true, true, false, false]
def zq14.c253 : Code := codeAt (Tryz.f32.body.getD .skip) [true, true, true, true, true, false, true]
def zq14.c500 : Code := codeAt (Tryz.f32.body.getD .skip) [true, true, true, true, false, true, false, false]
def zq14.c2004 : Code := codeAt (Tryz.f32.body.getD .skip) [true, true, true, true, false, true, false, true, false, false]
def zq14.c4008 : Code := codeAt (Tryz.f32.body.getD .skip) [true, true, true, true, false, true, false, true, false, false, false]
def zq14.c8018 : Code := codeAt (Tryz.f32.body.getD .skip) [true, true, true, true, false, true, false, true, false, false, true, false]
def zq14.c16039 : Code := codeAt (Tryz.f32.body.getD .skip) [true, true, true, true, false, true, false, true, false, false, true, true, true]
def zq14.c64152 : Code := codeAt (Tryz.f32.body.getD .skip) [true, true, true, true, false, true, false, true, false, false, true, true, false, false, false]
def zq14.c128306 : Code := codeAt (Tryz.f32.body.getD .skip) [true, true, true, true, false, true, false, true, false, false, true, true, false, false, true, false]
def zq14.c256615 : Code := codeAt (Tryz.f32.body.getD .skip) [true, true, true, true, false, true, false, true, false, false, true, true, false, false, true, true, true]
def zq14.c513228 : Code := codeAt (Tryz.f32.body.getD .skip) [true, true, true, true, false, true, false, true, false, false, true, true, false, false, true, true, false, false]
def zq14.c2052916 : Code := codeAt (Tryz.f32.body.getD .skip) [true, true, true, true, false, true, false, true, false, false, true, true, false, false, true, true, false, true, false, false]
def zq14.c4105832 : Code := codeAt (Tryz.f32.body.getD .skip) [true, true, true, true, false, true, false, true, false, false, true, true, false, false, true, true, false, true, false, false, false]
def zq14.c8211666 : Code := codeAt (Tryz.f32.body.getD .skip) [true, true, true, true, false, true, false, true, false, false, true, true, false, false, true, true, false, true, false, false, true, false]
def zq14.c16423335 : Code := codeAt (Tryz.f32.body.getD .skip) [true, true, true, true, false, true, false, true, false, false, true, true, false, false, true, true, false, true, false, false, true, true, true]
def zq14.c65693336 : Code := codeAt (Tryz.f32.body.getD .skip) [true, true, true, true, false, true, false, true, false, false, true, true, false, false, true, true, false, true, false, false, true, true, false, false, false]
def zq14.c131386674 : Code := codeAt (Tryz.f32.body.getD .skip) [true, true, true, true, false, true, false, true, false, false, true, true, false, false, true, true, false, true, false, false, true, true, false, false, true, false]
def zq14.c262773350 : Code := codeAt (Tryz.f32.body.getD .skip) [true, true, true, true, false, true, false, true, false, false, true, true, false, false, true, true, false, true, false, false, true, true, false, false, true, true, false]
def zq14.c262773351 : Code := codeAt (Tryz.f32.body.getD .skip) [true, true, true, true, false, true, false, true, false, false, true, true, false, false, true, true, false, true, false, false, true, true, false, false, true, true, true]
def zq14.K63 (N : Nat) : Ex → St D0 → Option zq14.R := zq14.K0
def zq14.B31 (N : Nat) : St D0 → Option zq14.R := fun s' => runC zq14.C (zq14.O N) N zq14.c63 63 s' (zq14.K63 N)
def zq14.K262773351 (N : Nat) (Kn1002 : St D0 → Option zq14.R) (Kn1026458 : St D0 → Option zq14.R) : Ex → St D0 → Option zq14.R := (blockK 3 ((fun up => (onN (fun s => zq14.C.tidy 16423334 s (fun s' => runC zq14.C (zq14.O N) N zq14.c16423335 16423335 s' up)) up)) ((fun up => (onN (fun s => zq14.C.tidy 1026458 s ((onN Kn1026458 up) .normal)) (onN Kn1026458 up))) (blockK 2 ((fun up => (onN (fun s => zq14.C.tidy 256614 s (fun s' => runC zq14.C (zq14.O N) N zq14.c256615 256615 s' up)) up)) (blockK 1 ((fun up => (onN (fun s => zq14.C.tidy 16038 s (fun s' => runC zq14.C (zq14.O N) N zq14.c16039 16039 s' up)) up)) ((fun up => (onN (fun s => zq14.C.tidy 1002 s ((onN Kn1002 up) .normal)) (onN Kn1002 up))) (blockK 0 (onN (fun s => zq14.C.tidy 62 s (zq14.B31 N)) zq14.K0))))))))))
def zq14.o5 (N : Nat) (v0 : ByteArray) (v1 : Bool) (v2 : List Int) (v3 : Int) (v4 : List ByteArray) (v5 : Int) (v6 : Int) (v7 : List ByteArray) (v8 : Int) (v9 : Int) (v10 : Int) (v11 : Int) (c3 : ByteArray → Bool → (List Int) → (List ByteArray) → Int → Int → (List ByteArray) → Int → Int → Int → Int → Option zq14.R) : Option zq14.R :=
 bif (Nat.blt (v2.length + ([v3] : List Int).length) 17592186044416) then
  c3 v0 v1 (v2 ++ ([v3] : List Int)) v4 v5 v6 v7 v8 (w64 (v9 + 1)) v10 v11
 else
 none
theorem zq14.o5.run (N : Nat) (Kb31 : St D0 → Option zq14.R) (Kn1002 : St D0 → Option zq14.R) (Kn1026458 : St D0 → Option zq14.R) (v0 : ByteArray) (v1 : Bool) (v2 : List Int) (v3 : Int) (v4 : List ByteArray) (v5 : Int) (v6 : Int) (v7 : List ByteArray) (v8 : Int) (v9 : Int) (v10 : Int) (v11 : Int) : runC zq14.C (zq14.O N) N zq14.c262773351 262773351 (mkSt [(0, .one (.str v0)), (2, .one (.ptr 2 0)), (8, .one (.bool v1)), (9, .one (.ptr 9 0)), (12, .one (.sl true 3 v2)), (15, .one (.int .i64 v3)), (33, .one (.sl true 9 v4)), (34, .one (.int .i64 v5)), (35, .one (.int .i64 v6)), (41, .one (.sl true 9 v7)), (42, .one (.int .i64 v8)), (43, .one (.int .i64 v9))] [(2, some (24, [.int .i64 v10, .nl])), (9, some (24, [.int .i64 v11, .nl]))] : St D0) (blockK 3 ((fun up => (onN (fun s => zq14.C.tidy 16423334 s (fun s' => runC zq14.C (zq14.O N) N zq14.c16423335 16423335 s' up)) up)) ((fun up => (onN (fun s => zq14.C.tidy 1026458 s ((onN Kn1026458 up) .normal)) (onN Kn1026458 up))) (blockK 2 ((fun up => (onN (fun s => zq14.C.tidy 256614 s (fun s' => runC zq14.C (zq14.O N) N zq14.c256615 256615 s' up)) up)) (blockK 1 ((fun up => (onN (fun s => zq14.C.tidy 16038 s (fun s' => runC zq14.C (zq14.O N) N zq14.c16039 16039 s' up)) up)) ((fun up => (onN (fun s => zq14.C.tidy 1002 s ((onN Kn1002 up) .normal)) (onN Kn1002 up))) (blockK 0 (onN (fun s => zq14.C.tidy 62 s Kb31) zq14.K0)))))))))) = zq14.o5 N v0 v1 v2 v3 v4 v5 v6 v7 v8 v9 v10 v11 ((fun w0 w1 w2 w3 w4 w5 w6 w7 w8 w9 w10 => Kn1026458 (mkSt [(0, .one (.str w0)), (2, .one (.ptr 2 0)), (8, .one (.bool w1)), (9, .one (.ptr 9 0)), (12, .one (.sl true 3 w2)), (33, .one (.sl true 9 w3)), (34, .one (.int .i64 w4)), (35, .one (.int .i64 w5)), (41, .one (.sl true 9 w6)), (42, .one (.int .i64 w7)), (43, .one (.int .i64 w8))] [(2, some (24, [.int .i64 w9, .nl])), (9, some (24, [.int .i64 w10, .nl]))] : St D0))) := by kernel_rfl
def zq14.d5 (N : Nat) (v0 : ByteArray) (v1 : Bool) (v2 : List Int) (v3 : Int) (v4 : List ByteArray) (v5 : Int) (v6 : Int) (v7 : List ByteArray) (v8 : Int) (v9 : Int) (v10 : Int) (v11 : Int) (c3 : ByteArray → Bool → (List Int) → (List ByteArray) → Int → Int → (List ByteArray) → Int → Int → Int → Int → Option zq14.R) : Option zq14.R := zq14.o5 N v0 v1 v2 v3 v4 v5 v6 v7 v8 v9 v10 v11 c3
theorem zq14.d5.run (N : Nat) (Kn1002 : St D0 → Option zq14.R) (Kn1026458 : St D0 → Option zq14.R) (v0 : ByteArray) (v1 : Bool) (v2 : List Int) (v3 : Int) (v4 : List ByteArray) (v5 : Int) (v6 : Int) (v7 : List ByteArray) (v8 : Int) (v9 : Int) (v10 : Int) (v11 : Int) : runC zq14.C (zq14.O N) N zq14.c262773351 262773351 (mkSt [(0, .one (.str v0)), (2, .one (.ptr 2 0)), (8, .one (.bool v1)), (9, .one (.ptr 9 0)), (12, .one (.sl true 3 v2)), (15, .one (.int .i64 v3)), (33, .one (.sl true 9 v4)), (34, .one (.int .i64 v5)), (35, .one (.int .i64 v6)), (41, .one (.sl true 9 v7)), (42, .one (.int .i64 v8)), (43, .one (.int .i64 v9))] [(2, some (24, [.int .i64 v10, .nl])), (9, some (24, [.int .i64 v11, .nl]))] : St D0) (zq14.K262773351 N Kn1002 Kn1026458) = zq14.d5 N v0 v1 v2 v3 v4 v5 v6 v7 v8 v9 v10 v11 ((fun w0 w1 w2 w3 w4 w5 w6 w7 w8 w9 w10 => Kn1026458 (mkSt [(0, .one (.str w0)), (2, .one (.ptr 2 0)), (8, .one (.bool w1)), (9, .one (.ptr 9 0)), (12, .one (.sl true 3 w2)), (33, .one (.sl true 9 w3)), (34, .one (.int .i64 w4)), (35, .one (.int .i64 w5)), (41, .one (.sl true 9 w6)), (42, .one (.int .i64 w7)), (43, .one (.int .i64 w8))] [(2, some (24, [.int .i64 w9, .nl])), (9, some (24, [.int .i64 w10, .nl]))] : St D0))) := by
  exact (zq14.o5.run N (zq14.B31 N) Kn1002 Kn1026458 v0 v1 v2 v3 v4 v5 v6 v7 v8 v9 v10 v11).trans rfl
def zq14.K2052916 (N : Nat) (Kn1002 : St D0 → Option zq14.R) (Kn1026458 : St D0 → Option zq14.R) : Ex → St D0 → Option zq14.R := ((fun up => (onN (fun s => zq14.C.tidy 1026458 s ((onN Kn1026458 up) .normal)) (onN Kn1026458 up))) (blockK 2 ((fun up => (onN (fun s => zq14.C.tidy 256614 s (fun s' => runC zq14.C (zq14.O N) N zq14.c256615 256615 s' up)) up)) (blockK 1 ((fun up => (onN (fun s => zq14.C.tidy 16038 s (fun s' => runC zq14.C (zq14.O N) N zq14.c16039 16039 s' up)) up)) ((fun up => (onN (fun s => zq14.C.tidy 1002 s ((onN Kn1002 up) .normal)) (onN Kn1002 up))) (blockK 0 (onN (fun s => zq14.C.tidy 62 s (zq14.B31 N)) zq14.K0))))))))
def zq14.o3 (N : Nat) (v0 : ByteArray) (v1 : Bool) (v2 : List Int) (v3 : List ByteArray) (v4 : Int) (v5 : Int) (v6 : List ByteArray) (v7 : Int) (v8 : Int) (v9 : Int) (v10 : Int) (c5 : ByteArray → Bool → (List Int) → Int → (List ByteArray) → Int → Int → (List ByteArray) → Int → Int → Int → Int → Option zq14.R) (c6 : ByteArray → Bool → (List ByteArray) → Int → Int → Int → Int → (List S41) → Option zq14.R) : Option zq14.R :=
 bif (decide (v8 < v7)) then
  bif (decide (0 ≤ v8)) then
   bif (decide (v8 < (v6.length : Int))) then
    (v6[(v8 : Int).toNat]?).bind fun x1 =>
    (zq26.g N x1 99).bind fun r2 =>
    bif v1 then
     c5 v0 r2.2 v2 r2.1 v3 v4 v5 v6 v7 v8 v9 v10
    else
    c5 v0 false v2 r2.1 v3 v4 v5 v6 v7 v8 v9 v10
   else
   none
  else
  none
 else
 bif ((v2.length : Int) != 3) then
  some (0, ([] : List S41), false)
 else
 bif (decide (0 < (v2.length : Int))) then
  (v2[(0 : Int).toNat]?).bind fun x3 =>
  bif (decide (1 < (v2.length : Int))) then
   (v2[(1 : Int).toNat]?).bind fun x4 =>
   bif (decide (2 < (v2.length : Int))) then
    (v2[(2 : Int).toNat]?).bind fun x5 =>
    bif (Nat.blt (([] : List S41).length + ([(⟨x3, x4, x5⟩ : S41)] : List S41).length) 5864062014805) then
     c6 v0 v1 v3 v4 (w64 (v5 + 1)) v9 v10 (([] : List S41) ++ ([(⟨x3, x4, x5⟩ : S41)] : List S41))
    else
    none
   else
   none
  else
  none
 else
 none
theorem zq14.o3.run (N : Nat) (Kb31 : St D0 → Option zq14.R) (Kn1002 : St D0 → Option zq14.R) (Kn1026458 : St D0 → Option zq14.R) (H262773351 : Code) (v0 : ByteArray) (v1 : Bool) (v2 : List Int) (v3 : List ByteArray) (v4 : Int) (v5 : Int) (v6 : List ByteArray) (v7 : Int) (v8 : Int) (v9 : Int) (v10 : Int) : runC zq14.C (zq14.O N) N (.seq zq14.c4105832 (.seq zq14.c8211666 (.seq (.block 3 (.seq zq14.c65693336 (.seq zq14.c131386674 (.seq zq14.c262773350 H262773351)))) zq14.c16423335))) 2052916 (mkSt [(0, .one (.str v0)), (2, .one (.ptr 2 0)), (8, .one (.bool v1)), (9, .one (.ptr 9 0)), (12, .one (.sl true 3 v2)), (33, .one (.sl true 9 v3)), (34, .one (.int .i64 v4)), (35, .one (.int .i64 v5)), (41, .one (.sl true 9 v6)), (42, .one (.int .i64 v7)), (43, .one (.int .i64 v8))] [(2, some (24, [.int .i64 v9, .nl])), (9, some (24, [.int .i64 v10, .nl]))] : St D0) ((fun up => (onN (fun s => zq14.C.tidy 1026458 s ((onN Kn1026458 up) .normal)) (onN Kn1026458 up))) (blockK 2 ((fun up => (onN (fun s => zq14.C.tidy 256614 s (fun s' => runC zq14.C (zq14.O N) N zq14.c256615 256615 s' up)) up)) (blockK 1 ((fun up => (onN (fun s => zq14.C.tidy 16038 s (fun s' => runC zq14.C (zq14.O N) N zq14.c16039 16039 s' up)) up)) ((fun up => (onN (fun s => zq14.C.tidy 1002 s ((onN Kn1002 up) .normal)) (onN Kn1002 up))) (blockK 0 (onN (fun s => zq14.C.tidy 62 s Kb31) zq14.K0)))))))) = zq14.o3 N v0 v1 v2 v3 v4 v5 v6 v7 v8 v9 v10 ((fun w0 w1 w2 w3 w4 w5 w6 w7 w8 w9 w10 w11 => runC zq14.C (zq14.O N) N H262773351 262773351 (mkSt [(0, .one (.str w0)), (2, .one (.ptr 2 0)), (8, .one (.bool w1)), (9, .one (.ptr 9 0)), (12, .one (.sl true 3 w2)), (15, .one (.int .i64 w3)), (33, .one (.sl true 9 w4)), (34, .one (.int .i64 w5)), (35, .one (.int .i64 w6)), (41, .one (.sl true 9 w7)), (42, .one (.int .i64 w8)), (43, .one (.int .i64 w9))] [(2, some (24, [.int .i64 w10, .nl])), (9, some (24, [.int .i64 w11, .nl]))] : St D0) (blockK 3 ((fun up => (onN (fun s => zq14.C.tidy 16423334 s (fun s' => runC zq14.C (zq14.O N) N zq14.c16423335 16423335 s' up)) up)) ((fun up => (onN (fun s => zq14.C.tidy 1026458 s ((onN Kn1026458 up) .normal)) (onN Kn1026458 up))) (blockK 2 ((fun up => (onN (fun s => zq14.C.tidy 256614 s (fun s' => runC zq14.C (zq14.O N) N zq14.c256615 256615 s' up)) up)) (blockK 1 ((fun up => (onN (fun s => zq14.C.tidy 16038 s (fun s' => runC zq14.C (zq14.O N) N zq14.c16039 16039 s' up)) up)) ((fun up => (onN (fun s => zq14.C.tidy 1002 s ((onN Kn1002 up) .normal)) (onN Kn1002 up))) (blockK 0 (onN (fun s => zq14.C.tidy 62 s Kb31) zq14.K0)))))))))))) ((fun w0 w1 w2 w3 w4 w5 w6 w7 => Kn1002 (mkSt [(0, .one (.str w0)), (2, .one (.ptr 2 0)), (8, .one (.bool w1)), (9, .one (.ptr 9 0)), (33, .one (.sl true 9 w2)), (34, .one (.int .i64 w3)), (35, .one (.int .i64 w4))] [(2, some (24, [.int .i64 w5, .nl])), (9, some (24, [.int .i64 w6, .sl true 41 w7]))] : St D0))) := by kernel_rfl
def zq14.d3 (N : Nat) (v0 : ByteArray) (v1 : Bool) (v2 : List Int) (v3 : List ByteArray) (v4 : Int) (v5 : Int) (v6 : List ByteArray) (v7 : Int) (v8 : Int) (v9 : Int) (v10 : Int) (c3 : ByteArray → Bool → (List Int) → (List ByteArray) → Int → Int → (List ByteArray) → Int → Int → Int → Int → Option zq14.R) (c6 : ByteArray → Bool → (List ByteArray) → Int → Int → Int → Int → (List S41) → Option zq14.R) : Option zq14.R := zq14.o3 N v0 v1 v2 v3 v4 v5 v6 v7 v8 v9 v10 ((fun w0 w1 w2 w3 w4 w5 w6 w7 w8 w9 w10 w11 => zq14.d5 N w0 w1 w2 w3 w4 w5 w6 w7 w8 w9 w10 w11 c3)) c6
theorem zq14.c2052916_3 : zq14.c2052916 = (.seq zq14.c4105832 (.seq zq14.c8211666 (.seq (.block 3 (.seq zq14.c65693336 (.seq zq14.c131386674 (.seq zq14.c262773350 zq14.c262773351)))) zq14.c16423335))) := by kernel_rfl
theorem zq14.d3.run (N : Nat) (Kn1002 : St D0 → Option zq14.R) (Kn1026458 : St D0 → Option zq14.R) (v0 : ByteArray) (v1 : Bool) (v2 : List Int) (v3 : List ByteArray) (v4 : Int) (v5 : Int) (v6 : List ByteArray) (v7 : Int) (v8 : Int) (v9 : Int) (v10 : Int) : runC zq14.C (zq14.O N) N zq14.c2052916 2052916 (mkSt [(0, .one (.str v0)), (2, .one (.ptr 2 0)), (8, .one (.bool v1)), (9, .one (.ptr 9 0)), (12, .one (.sl true 3 v2)), (33, .one (.sl true 9 v3)), (34, .one (.int .i64 v4)), (35, .one (.int .i64 v5)), (41, .one (.sl true 9 v6)), (42, .one (.int .i64 v7)), (43, .one (.int .i64 v8))] [(2, some (24, [.int .i64 v9, .nl])), (9, some (24, [.int .i64 v10, .nl]))] : St D0) (zq14.K2052916 N Kn1002 Kn1026458) = zq14.d3 N v0 v1 v2 v3 v4 v5 v6 v7 v8 v9 v10 ((fun w0 w1 w2 w3 w4 w5 w6 w7 w8 w9 w10 => Kn1026458 (mkSt [(0, .one (.str w0)), (2, .one (.ptr 2 0)), (8, .one (.bool w1)), (9, .one (.ptr 9 0)), (12, .one (.sl true 3 w2)), (33, .one (.sl true 9 w3)), (34, .one (.int .i64 w4)), (35, .one (.int .i64 w5)), (41, .one (.sl true 9 w6)), (42, .one (.int .i64 w7)), (43, .one (.int .i64 w8))] [(2, some (24, [.int .i64 w9, .nl])), (9, some (24, [.int .i64 w10, .nl]))] : St D0))) ((fun w0 w1 w2 w3 w4 w5 w6 w7 => Kn1002 (mkSt [(0, .one (.str w0)), (2, .one (.ptr 2 0)), (8, .one (.bool w1)), (9, .one (.ptr 9 0)), (33, .one (.sl true 9 w2)), (34, .one (.int .i64 w3)), (35, .one (.int .i64 w4))] [(2, some (24, [.int .i64 w5, .nl])), (9, some (24, [.int .i64 w6, .sl true 41 w7]))] : St D0))) := by
  rw [zq14.c2052916_3]; unfold zq14.d3; exact (zq14.o3.run N (zq14.B31 N) Kn1002 Kn1026458 zq14.c262773351 v0 v1 v2 v3 v4 v5 v6 v7 v8 v9 v10).trans (congr (congr rfl (funext fun w0 => funext fun w1 => funext fun w2 => funext fun w3 => funext fun w4 => funext fun w5 => funext fun w6 => funext fun w7 => funext fun w8 => funext fun w9 => funext fun w10 => funext fun w11 => zq14.d5.run N Kn1002 Kn1026458 w0 w1 w2 w3 w4 w5 w6 w7 w8 w9 w10 w11)) rfl)
def zq14.o9 (N : Nat) (v0 : ByteArray) (v1 : Bool) (v2 : List Int) (v3 : Int) (v4 : List ByteArray) (v5 : Int) (v6 : Int) (v7 : List ByteArray) (v8 : Int) (v9 : Int) (v10 : Int) (v11 : Int) (v12 : List S41) (c7 : ByteArray → Bool → (List Int) → (List ByteArray) → Int → Int → (List ByteArray) → Int → Int → Int → Int → (List S41) → Option zq14.R) : Option zq14.R :=
 bif (Nat.blt (v2.length + ([v3] : List Int).length) 17592186044416) then
  c7 v0 v1 (v2 ++ ([v3] : List Int)) v4 v5 v6 v7 v8 (w64 (v9 + 1)) v10 v11 v12
 else
 none
theorem zq14.o9.run (N : Nat) (Kb31 : St D0 → Option zq14.R) (Kn1002 : St D0 → Option zq14.R) (Kn1026458 : St D0 → Option zq14.R) (v0 : ByteArray) (v1 : Bool) (v2 : List Int) (v3 : Int) (v4 : List ByteArray) (v5 : Int) (v6 : Int) (v7 : List ByteArray) (v8 : Int) (v9 : Int) (v10 : Int) (v11 : Int) (v12 : List S41) : runC zq14.C (zq14.O N) N zq14.c262773351 262773351 (mkSt [(0, .one (.str v0)), (2, .one (.ptr 2 0)), (8, .one (.bool v1)), (9, .one (.ptr 9 0)), (12, .one (.sl true 3 v2)), (15, .one (.int .i64 v3)), (33, .one (.sl true 9 v4)), (34, .one (.int .i64 v5)), (35, .one (.int .i64 v6)), (41, .one (.sl true 9 v7)), (42, .one (.int .i64 v8)), (43, .one (.int .i64 v9))] [(2, some (24, [.int .i64 v10, .nl])), (9, some (24, [.int .i64 v11, .sl true 41 v12]))] : St D0) (blockK 3 ((fun up => (onN (fun s => zq14.C.tidy 16423334 s (fun s' => runC zq14.C (zq14.O N) N zq14.c16423335 16423335 s' up)) up)) ((fun up => (onN (fun s => zq14.C.tidy 1026458 s ((onN Kn1026458 up) .normal)) (onN Kn1026458 up))) (blockK 2 ((fun up => (onN (fun s => zq14.C.tidy 256614 s (fun s' => runC zq14.C (zq14.O N) N zq14.c256615 256615 s' up)) up)) (blockK 1 ((fun up => (onN (fun s => zq14.C.tidy 16038 s (fun s' => runC zq14.C (zq14.O N) N zq14.c16039 16039 s' up)) up)) ((fun up => (onN (fun s => zq14.C.tidy 1002 s ((onN Kn1002 up) .normal)) (onN Kn1002 up))) (blockK 0 (onN (fun s => zq14.C.tidy 62 s Kb31) zq14.K0)))))))))) = zq14.o9 N v0 v1 v2 v3 v4 v5 v6 v7 v8 v9 v10 v11 v12 ((fun w0 w1 w2 w3 w4 w5 w6 w7 w8 w9 w10 w11 => Kn1026458 (mkSt [(0, .one (.str w0)), (2, .one (.ptr 2 0)), (8, .one (.bool w1)), (9, .one (.ptr 9 0)), (12, .one (.sl true 3 w2)), (33, .one (.sl true 9 w3)), (34, .one (.int .i64 w4)), (35, .one (.int .i64 w5)), (41, .one (.sl true 9 w6)), (42, .one (.int .i64 w7)), (43, .one (.int .i64 w8))] [(2, some (24, [.int .i64 w9, .nl])), (9, some (24, [.int .i64 w10, .sl true 41 w11]))] : St D0))) := by kernel_rfl
def zq14.d9 (N : Nat) (v0 : ByteArray) (v1 : Bool) (v2 : List Int) (v3 : Int) (v4 : List ByteArray) (v5 : Int) (v6 : Int) (v7 : List ByteArray) (v8 : Int) (v9 : Int) (v10 : Int) (v11 : Int) (v12 : List S41) (c7 : ByteArray → Bool → (List Int) → (List ByteArray) → Int → Int → (List ByteArray) → Int → Int → Int → Int → (List S41) → Option zq14.R) : Option zq14.R := zq14.o9 N v0 v1 v2 v3 v4 v5 v6 v7 v8 v9 v10 v11 v12 c7
theorem zq14.d9.run (N : Nat) (Kn1002 : St D0 → Option zq14.R) (Kn1026458 : St D0 → Option zq14.R) (v0 : ByteArray) (v1 : Bool) (v2 : List Int) (v3 : Int) (v4 : List ByteArray) (v5 : Int) (v6 : Int) (v7 : List ByteArray) (v8 : Int) (v9 : Int) (v10 : Int) (v11 : Int) (v12 : List S41) : runC zq14.C (zq14.O N) N zq14.c262773351 262773351 (mkSt [(0, .one (.str v0)), (2, .one (.ptr 2 0)), (8, .one (.bool v1)), (9, .one (.ptr 9 0)), (12, .one (.sl true 3 v2)), (15, .one (.int .i64 v3)), (33, .one (.sl true 9 v4)), (34, .one (.int .i64 v5)), (35, .one (.int .i64 v6)), (41, .one (.sl true 9 v7)), (42, .one (.int .i64 v8)), (43, .one (.int .i64 v9))] [(2, some (24, [.int .i64 v10, .nl])), (9, some (24, [.int .i64 v11, .sl true 41 v12]))] : St D0) (zq14.K262773351 N Kn1002 Kn1026458) = zq14.d9 N v0 v1 v2 v3 v4 v5 v6 v7 v8 v9 v10 v11 v12 ((fun w0 w1 w2 w3 w4 w5 w6 w7 w8 w9 w10 w11 => Kn1026458 (mkSt [(0, .one (.str w0)), (2, .one (.ptr 2 0)), (8, .one (.bool w1)), (9, .one (.ptr 9 0)), (12, .one (.sl true 3 w2)), (33, .one (.sl true 9 w3)), (34, .one (.int .i64 w4)), (35, .one (.int .i64 w5)), (41, .one (.sl true 9 w6)), (42, .one (.int .i64 w7)), (43, .one (.int .i64 w8))] [(2, some (24, [.int .i64 w9, .nl])), (9, some (24, [.int .i64 w10, .sl true 41 w11]))] : St D0))) := by
  exact (zq14.o9.run N (zq14.B31 N) Kn1002 Kn1026458 v0 v1 v2 v3 v4 v5 v6 v7 v8 v9 v10 v11 v12).trans rfl
def zq14.o7 (N : Nat) (v0 : ByteArray) (v1 : Bool) (v2 : List Int) (v3 : List ByteArray) (v4 : Int) (v5 : Int) (v6 : List ByteArray) (v7 : Int) (v8 : Int) (v9 : Int) (v10 : Int) (v11 : List S41) (c9 : ByteArray → Bool → (List Int) → Int → (List ByteArray) → Int → Int → (List ByteArray) → Int → Int → Int → Int → (List S41) → Option zq14.R) (c6 : ByteArray → Bool → (List ByteArray) → Int → Int → Int → Int → (List S41) → Option zq14.R) : Option zq14.R :=
 bif (decide (v8 < v7)) then
  bif (decide (0 ≤ v8)) then
   bif (decide (v8 < (v6.length : Int))) then
    (v6[(v8 : Int).toNat]?).bind fun x1 =>
    (zq26.g N x1 99).bind fun r2 =>
    bif v1 then
     c9 v0 r2.2 v2 r2.1 v3 v4 v5 v6 v7 v8 v9 v10 v11
    else
    c9 v0 false v2 r2.1 v3 v4 v5 v6 v7 v8 v9 v10 v11
   else
   none
  else
  none
 else
 bif ((v2.length : Int) != 3) then
  some (0, ([] : List S41), false)
 else
 bif (decide (0 < (v2.length : Int))) then
  (v2[(0 : Int).toNat]?).bind fun x3 =>
  bif (decide (1 < (v2.length : Int))) then
   (v2[(1 : Int).toNat]?).bind fun x4 =>
   bif (decide (2 < (v2.length : Int))) then
    (v2[(2 : Int).toNat]?).bind fun x5 =>
    bif (Nat.blt (v11.length + ([(⟨x3, x4, x5⟩ : S41)] : List S41).length) 5864062014805) then
     c6 v0 v1 v3 v4 (w64 (v5 + 1)) v9 v10 (v11 ++ ([(⟨x3, x4, x5⟩ : S41)] : List S41))
    else
    none
   else
   none
  else
  none
 else
 none
theorem zq14.o7.run (N : Nat) (Kb31 : St D0 → Option zq14.R) (Kn1002 : St D0 → Option zq14.R) (Kn1026458 : St D0 → Option zq14.R) (H262773351 : Code) (v0 : ByteArray) (v1 : Bool) (v2 : List Int) (v3 : List ByteArray) (v4 : Int) (v5 : Int) (v6 : List ByteArray) (v7 : Int) (v8 : Int) (v9 : Int) (v10 : Int) (v11 : List S41) : runC zq14.C (zq14.O N) N (.seq zq14.c4105832 (.seq zq14.c8211666 (.seq (.block 3 (.seq zq14.c65693336 (.seq zq14.c131386674 (.seq zq14.c262773350 H262773351)))) zq14.c16423335))) 2052916 (mkSt [(0, .one (.str v0)), (2, .one (.ptr 2 0)), (8, .one (.bool v1)), (9, .one (.ptr 9 0)), (12, .one (.sl true 3 v2)), (33, .one (.sl true 9 v3)), (34, .one (.int .i64 v4)), (35, .one (.int .i64 v5)), (41, .one (.sl true 9 v6)), (42, .one (.int .i64 v7)), (43, .one (.int .i64 v8))] [(2, some (24, [.int .i64 v9, .nl])), (9, some (24, [.int .i64 v10, .sl true 41 v11]))] : St D0) ((fun up => (onN (fun s => zq14.C.tidy 1026458 s ((onN Kn1026458 up) .normal)) (onN Kn1026458 up))) (blockK 2 ((fun up => (onN (fun s => zq14.C.tidy 256614 s (fun s' => runC zq14.C (zq14.O N) N zq14.c256615 256615 s' up)) up)) (blockK 1 ((fun up => (onN (fun s => zq14.C.tidy 16038 s (fun s' => runC zq14.C (zq14.O N) N zq14.c16039 16039 s' up)) up)) ((fun up => (onN (fun s => zq14.C.tidy 1002 s ((onN Kn1002 up) .normal)) (onN Kn1002 up))) (blockK 0 (onN (fun s => zq14.C.tidy 62 s Kb31) zq14.K0)))))))) = zq14.o7 N v0 v1 v2 v3 v4 v5 v6 v7 v8 v9 v10 v11 ((fun w0 w1 w2 w3 w4 w5 w6 w7 w8 w9 w10 w11 w12 => runC zq14.C (zq14.O N) N H262773351 262773351 (mkSt [(0, .one (.str w0)), (2, .one (.ptr 2 0)), (8, .one (.bool w1)), (9, .one (.ptr 9 0)), (12, .one (.sl true 3 w2)), (15, .one (.int .i64 w3)), (33, .one (.sl true 9 w4)), (34, .one (.int .i64 w5)), (35, .one (.int .i64 w6)), (41, .one (.sl true 9 w7)), (42, .one (.int .i64 w8)), (43, .one (.int .i64 w9))] [(2, some (24, [.int .i64 w10, .nl])), (9, some (24, [.int .i64 w11, .sl true 41 w12]))] : St D0) (blockK 3 ((fun up => (onN (fun s => zq14.C.tidy 16423334 s (fun s' => runC zq14.C (zq14.O N) N zq14.c16423335 16423335 s' up)) up)) ((fun up => (onN (fun s => zq14.C.tidy 1026458 s ((onN Kn1026458 up) .normal)) (onN Kn1026458 up))) (blockK 2 ((fun up => (onN (fun s => zq14.C.tidy 256614 s (fun s' => runC zq14.C (zq14.O N) N zq14.c256615 256615 s' up)) up)) (blockK 1 ((fun up => (onN (fun s => zq14.C.tidy 16038 s (fun s' => runC zq14.C (zq14.O N) N zq14.c16039 16039 s' up)) up)) ((fun up => (onN (fun s => zq14.C.tidy 1002 s ((onN Kn1002 up) .normal)) (onN Kn1002 up))) (blockK 0 (onN (fun s => zq14.C.tidy 62 s Kb31) zq14.K0)))))))))))) ((fun w0 w1 w2 w3 w4 w5 w6 w7 => Kn1002 (mkSt [(0, .one (.str w0)), (2, .one (.ptr 2 0)), (8, .one (.bool w1)), (9, .one (.ptr 9 0)), (33, .one (.sl true 9 w2)), (34, .one (.int .i64 w3)), (35, .one (.int .i64 w4))] [(2, some (24, [.int .i64 w5, .nl])), (9, some (24, [.int .i64 w6, .sl true 41 w7]))] : St D0))) := by kernel_rfl
def zq14.d7 (N : Nat) (v0 : ByteArray) (v1 : Bool) (v2 : List Int) (v3 : List ByteArray) (v4 : Int) (v5 : Int) (v6 : List ByteArray) (v7 : Int) (v8 : Int) (v9 : Int) (v10 : Int) (v11 : List S41) (c6 : ByteArray → Bool → (List ByteArray) → Int → Int → Int → Int → (List S41) → Option zq14.R) (c7 : ByteArray → Bool → (List Int) → (List ByteArray) → Int → Int → (List ByteArray) → Int → Int → Int → Int → (List S41) → Option zq14.R) : Option zq14.R := zq14.o7 N v0 v1 v2 v3 v4 v5 v6 v7 v8 v9 v10 v11 ((fun w0 w1 w2 w3 w4 w5 w6 w7 w8 w9 w10 w11 w12 => zq14.d9 N w0 w1 w2 w3 w4 w5 w6 w7 w8 w9 w10 w11 w12 c7)) c6
theorem zq14.c2052916_7 : zq14.c2052916 = (.seq zq14.c4105832 (.seq zq14.c8211666 (.seq (.block 3 (.seq zq14.c65693336 (.seq zq14.c131386674 (.seq zq14.c262773350 zq14.c262773351)))) zq14.c16423335))) := by kernel_rfl
theorem zq14.d7.run (N : Nat) (Kn1002 : St D0 → Option zq14.R) (Kn1026458 : St D0 → Option zq14.R) (v0 : ByteArray) (v1 : Bool) (v2 : List Int) (v3 : List ByteArray) (v4 : Int) (v5 : Int) (v6 : List ByteArray) (v7 : Int) (v8 : Int) (v9 : Int) (v10 : Int) (v11 : List S41) : runC zq14.C (zq14.O N) N zq14.c2052916 2052916 (mkSt [(0, .one (.str v0)), (2, .one (.ptr 2 0)), (8, .one (.bool v1)), (9, .one (.ptr 9 0)), (12, .one (.sl true 3 v2)), (33, .one (.sl true 9 v3)), (34, .one (.int .i64 v4)), (35, .one (.int .i64 v5)), (41, .one (.sl true 9 v6)), (42, .one (.int .i64 v7)), (43, .one (.int .i64 v8))] [(2, some (24, [.int .i64 v9, .nl])), (9, some (24, [.int .i64 v10, .sl true 41 v11]))] : St D0) (zq14.K2052916 N Kn1002 Kn1026458) = zq14.d7 N v0 v1 v2 v3 v4 v5 v6 v7 v8 v9 v10 v11 ((fun w0 w1 w2 w3 w4 w5 w6 w7 => Kn1002 (mkSt [(0, .one (.str w0)), (2, .one (.ptr 2 0)), (8, .one (.bool w1)), (9, .one (.ptr 9 0)), (33, .one (.sl true 9 w2)), (34, .one (.int .i64 w3)), (35, .one (.int .i64 w4))] [(2, some (24, [.int .i64 w5, .nl])), (9, some (24, [.int .i64 w6, .sl true 41 w7]))] : St D0))) ((fun w0 w1 w2 w3 w4 w5 w6 w7 w8 w9 w10 w11 => Kn1026458 (mkSt [(0, .one (.str w0)), (2, .one (.ptr 2 0)), (8, .one (.bool w1)), (9, .one (.ptr 9 0)), (12, .one (.sl true 3 w2)), (33, .one (.sl true 9 w3)), (34, .one (.int .i64 w4)), (35, .one (.int .i64 w5)), (41, .one (.sl true 9 w6)), (42, .one (.int .i64 w7)), (43, .one (.int .i64 w8))] [(2, some (24, [.int .i64 w9, .nl])), (9, some (24, [.int .i64 w10, .sl true 41 w11]))] : St D0))) := by
  rw [zq14.c2052916_7]; unfold zq14.d7; exact (zq14.o7.run N (zq14.B31 N) Kn1002 Kn1026458 zq14.c262773351 v0 v1 v2 v3 v4 v5 v6 v7 v8 v9 v10 v11).trans (congr (congr rfl (funext fun w0 => funext fun w1 => funext fun w2 => funext fun w3 => funext fun w4 => funext fun w5 => funext fun w6 => funext fun w7 => funext fun w8 => funext fun w9 => funext fun w10 => funext fun w11 => funext fun w12 => zq14.d9.run N Kn1002 Kn1026458 w0 w1 w2 w3 w4 w5 w6 w7 w8 w9 w10 w11 w12)) rfl)
def zq14.K1026458 (N : Nat) (Kn1002 : St D0 → Option zq14.R) : Ex → St D0 → Option zq14.R := (blockK 2 ((fun up => (onN (fun s => zq14.C.tidy 256614 s (fun s' => runC zq14.C (zq14.O N) N zq14.c256615 256615 s' up)) up)) (blockK 1 ((fun up => (onN (fun s => zq14.C.tidy 16038 s (fun s' => runC zq14.C (zq14.O N) N zq14.c16039 16039 s' up)) up)) ((fun up => (onN (fun s => zq14.C.tidy 1002 s ((onN Kn1002 up) .normal)) (onN Kn1002 up))) (blockK 0 (onN (fun s => zq14.C.tidy 62 s (zq14.B31 N)) zq14.K0)))))))
mutual
def zq14.l3 (N : Nat) : Nat → ByteArray → Bool → (List Int) → (List ByteArray) → Int → Int → (List ByteArray) → Int → Int → Int → Int → (ByteArray → Bool → (List ByteArray) → Int → Int → Int → Int → (List S41) → Option zq14.R) → Option zq14.R
  | 0, _, _, _, _, _, _, _, _, _, _, _, _ => none
  | n + 1, v0, v1, v2, v3, v4, v5, v6, v7, v8, v9, v10, c6 => zq14.d3 N v0 v1 v2 v3 v4 v5 v6 v7 v8 v9 v10 ((fun w0 w1 w2 w3 w4 w5 w6 w7 w8 w9 w10 => zq14.l3 N n w0 w1 w2 w3 w4 w5 w6 w7 w8 w9 w10 c6)) c6
def zq14.l7 (N : Nat) : Nat → ByteArray → Bool → (List Int) → (List ByteArray) → Int → Int → (List ByteArray) → Int → Int → Int → Int → (List S41) → (ByteArray → Bool → (List ByteArray) → Int → Int → Int → Int → (List S41) → Option zq14.R) → Option zq14.R
  | 0, _, _, _, _, _, _, _, _, _, _, _, _, _ => none
  | n + 1, v0, v1, v2, v3, v4, v5, v6, v7, v8, v9, v10, v11, c6 => zq14.d7 N v0 v1 v2 v3 v4 v5 v6 v7 v8 v9 v10 v11 c6 ((fun w0 w1 w2 w3 w4 w5 w6 w7 w8 w9 w10 w11 => zq14.l7 N n w0 w1 w2 w3 w4 w5 w6 w7 w8 w9 w10 w11 c6))
end
theorem zq14.loop1026458 (N : Nat) (Kn1002 : St D0 → Option zq14.R) : ∀ n, (∀ (v0 : ByteArray) (v1 : Bool) (v2 : List Int) (v3 : List ByteArray) (v4 : Int) (v5 : Int) (v6 : List ByteArray) (v7 : Int) (v8 : Int) (v9 : Int) (v10 : Int), iter (loopF zq14.C (zq14.O N) N zq14.c2052916 1026458) n (mkSt [(0, .one (.str v0)), (2, .one (.ptr 2 0)), (8, .one (.bool v1)), (9, .one (.ptr 9 0)), (12, .one (.sl true 3 v2)), (33, .one (.sl true 9 v3)), (34, .one (.int .i64 v4)), (35, .one (.int .i64 v5)), (41, .one (.sl true 9 v6)), (42, .one (.int .i64 v7)), (43, .one (.int .i64 v8))] [(2, some (24, [.int .i64 v9, .nl])), (9, some (24, [.int .i64 v10, .nl]))] : St D0) (zq14.K1026458 N Kn1002) = zq14.l3 N n v0 v1 v2 v3 v4 v5 v6 v7 v8 v9 v10 ((fun w0 w1 w2 w3 w4 w5 w6 w7 => Kn1002 (mkSt [(0, .one (.str w0)), (2, .one (.ptr 2 0)), (8, .one (.bool w1)), (9, .one (.ptr 9 0)), (33, .one (.sl true 9 w2)), (34, .one (.int .i64 w3)), (35, .one (.int .i64 w4))] [(2, some (24, [.int .i64 w5, .nl])), (9, some (24, [.int .i64 w6, .sl true 41 w7]))] : St D0)))) ∧ (∀ (v0 : ByteArray) (v1 : Bool) (v2 : List Int) (v3 : List ByteArray) (v4 : Int) (v5 : Int) (v6 : List ByteArray) (v7 : Int) (v8 : Int) (v9 : Int) (v10 : Int) (v11 : List S41), iter (loopF zq14.C (zq14.O N) N zq14.c2052916 1026458) n (mkSt [(0, .one (.str v0)), (2, .one (.ptr 2 0)), (8, .one (.bool v1)), (9, .one (.ptr 9 0)), (12, .one (.sl true 3 v2)), (33, .one (.sl true 9 v3)), (34, .one (.int .i64 v4)), (35, .one (.int .i64 v5)), (41, .one (.sl true 9 v6)), (42, .one (.int .i64 v7)), (43, .one (.int .i64 v8))] [(2, some (24, [.int .i64 v9, .nl])), (9, some (24, [.int .i64 v10, .sl true 41 v11]))] : St D0) (zq14.K1026458 N Kn1002) = zq14.l7 N n v0 v1 v2 v3 v4 v5 v6 v7 v8 v9 v10 v11 ((fun w0 w1 w2 w3 w4 w5 w6 w7 => Kn1002 (mkSt [(0, .one (.str w0)), (2, .one (.ptr 2 0)), (8, .one (.bool w1)), (9, .one (.ptr 9 0)), (33, .one (.sl true 9 w2)), (34, .one (.int .i64 w3)), (35, .one (.int .i64 w4))] [(2, some (24, [.int .i64 w5, .nl])), (9, some (24, [.int .i64 w6, .sl true 41 w7]))] : St D0))))
  | 0 => ⟨(fun v0 v1 v2 v3 v4 v5 v6 v7 v8 v9 v10 => rfl), (fun v0 v1 v2 v3 v4 v5 v6 v7 v8 v9 v10 v11 => rfl)⟩
  | n + 1 => ⟨(fun v0 v1 v2 v3 v4 v5 v6 v7 v8 v9 v10 => (zq14.d3.run N Kn1002 (fun s => iter (loopF zq14.C (zq14.O N) N zq14.c2052916 1026458) n s (zq14.K1026458 N Kn1002)) v0 v1 v2 v3 v4 v5 v6 v7 v8 v9 v10).trans (show _ = zq14.d3 N v0 v1 v2 v3 v4 v5 v6 v7 v8 v9 v10 ((fun w0 w1 w2 w3 w4 w5 w6 w7 w8 w9 w10 => zq14.l3 N n w0 w1 w2 w3 w4 w5 w6 w7 w8 w9 w10 ((fun w0 w1 w2 w3 w4 w5 w6 w7 => Kn1002 (mkSt [(0, .one (.str w0)), (2, .one (.ptr 2 0)), (8, .one (.bool w1)), (9, .one (.ptr 9 0)), (33, .one (.sl true 9 w2)), (34, .one (.int .i64 w3)), (35, .one (.int .i64 w4))] [(2, some (24, [.int .i64 w5, .nl])), (9, some (24, [.int .i64 w6, .sl true 41 w7]))] : St D0))))) ((fun w0 w1 w2 w3 w4 w5 w6 w7 => Kn1002 (mkSt [(0, .one (.str w0)), (2, .one (.ptr 2 0)), (8, .one (.bool w1)), (9, .one (.ptr 9 0)), (33, .one (.sl true 9 w2)), (34, .one (.int .i64 w3)), (35, .one (.int .i64 w4))] [(2, some (24, [.int .i64 w5, .nl])), (9, some (24, [.int .i64 w6, .sl true 41 w7]))] : St D0))) from (congr (congr rfl (funext fun w0 => funext fun w1 => funext fun w2 => funext fun w3 => funext fun w4 => funext fun w5 => funext fun w6 => funext fun w7 => funext fun w8 => funext fun w9 => funext fun w10 => (zq14.loop1026458 N Kn1002 n).1 w0 w1 w2 w3 w4 w5 w6 w7 w8 w9 w10)) rfl))), (fun v0 v1 v2 v3 v4 v5 v6 v7 v8 v9 v10 v11 => (zq14.d7.run N Kn1002 (fun s => iter (loopF zq14.C (zq14.O N) N zq14.c2052916 1026458) n s (zq14.K1026458 N Kn1002)) v0 v1 v2 v3 v4 v5 v6 v7 v8 v9 v10 v11).trans (show _ = zq14.d7 N v0 v1 v2 v3 v4 v5 v6 v7 v8 v9 v10 v11 ((fun w0 w1 w2 w3 w4 w5 w6 w7 => Kn1002 (mkSt [(0, .one (.str w0)), (2, .one (.ptr 2 0)), (8, .one (.bool w1)), (9, .one (.ptr 9 0)), (33, .one (.sl true 9 w2)), (34, .one (.int .i64 w3)), (35, .one (.int .i64 w4))] [(2, some (24, [.int .i64 w5, .nl])), (9, some (24, [.int .i64 w6, .sl true 41 w7]))] : St D0))) ((fun w0 w1 w2 w3 w4 w5 w6 w7 w8 w9 w10 w11 => zq14.l7 N n w0 w1 w2 w3 w4 w5 w6 w7 w8 w9 w10 w11 ((fun w0 w1 w2 w3 w4 w5 w6 w7 => Kn1002 (mkSt [(0, .one (.str w0)), (2, .one (.ptr 2 0)), (8, .one (.bool w1)), (9, .one (.ptr 9 0)), (33, .one (.sl true 9 w2)), (34, .one (.int .i64 w3)), (35, .one (.int .i64 w4))] [(2, some (24, [.int .i64 w5, .nl])), (9, some (24, [.int .i64 w6, .sl true 41 w7]))] : St D0))))) from (congr (congr rfl rfl) (funext fun w0 => funext fun w1 => funext fun w2 => funext fun w3 => funext fun w4 => funext fun w5 => funext fun w6 => funext fun w7 => funext fun w8 => funext fun w9 => funext fun w10 => funext fun w11 => (zq14.loop1026458 N Kn1002 n).2 w0 w1 w2 w3 w4 w5 w6 w7 w8 w9 w10 w11))))⟩
def zq14.K253 (N : Nat) : Ex → St D0 → Option zq14.R := (onN (fun s => zq14.C.tidy 126 s (fun s' => runC zq14.C (zq14.O N) N zq14.c127 127 s' zq14.K0)) zq14.K0)
def zq14.o4 (N : Nat) (v0 : Bool) (v1 : Int) (v2 : Int) : Option zq14.R :=
 bif v0 then
  some (0, ([] : List S41), false)
 else
 some (v2, ([] : List S41), true)
theorem zq14.o4.run (N : Nat) (v0 : Bool) (v1 : Int) (v2 : Int) : runC zq14.C (zq14.O N) N zq14.c253 253 (mkSt [(2, .one (.ptr 2 0)), (9, .one (.ptr 9 0)), (93, .one (.bool v0))] [(2, some (24, [.int .i64 v1, .nl])), (9, some (24, [.int .i64 v2, .nl]))] : St D0) (onN (fun s => zq14.C.tidy 126 s (fun s' => runC zq14.C (zq14.O N) N zq14.c127 127 s' zq14.K0)) zq14.K0) = zq14.o4 N v0 v1 v2 := by kernel_rfl
def zq14.d4 (N : Nat) (v0 : Bool) (v1 : Int) (v2 : Int) : Option zq14.R := zq14.o4 N v0 v1 v2
theorem zq14.d4.run (N : Nat) (v0 : Bool) (v1 : Int) (v2 : Int) : runC zq14.C (zq14.O N) N zq14.c253 253 (mkSt [(2, .one (.ptr 2 0)), (9, .one (.ptr 9 0)), (93, .one (.bool v0))] [(2, some (24, [.int .i64 v1, .nl])), (9, some (24, [.int .i64 v2, .nl]))] : St D0) (zq14.K253 N) = zq14.d4 N v0 v1 v2 := by
  exact (zq14.o4.run N v0 v1 v2).trans rfl
def zq14.o2 (N : Nat) (v0 : ByteArray) (v1 : Bool) (v2 : Int) (v3 : Int) (c4 : Bool → Int → Int → Option zq14.R) : Option zq14.R :=
 bif (!v1) then
  c4 true v2 v3
 else
 (zq7.g N v3 ([] : List S41)).bind fun r1 =>
 bif (!r1) then
  c4 true v2 v3
 else
 (zq25.g N v3 ([] : List S41)).bind fun r2 =>
 c4 (!(r2.toList == v0.toList)) v2 v3
theorem zq14.o2.run (N : Nat) (H253 : Code) (v0 : ByteArray) (v1 : Bool) (v2 : Int) (v3 : Int) : runC zq14.C (zq14.O N) N (.seq (.seq zq14.c252 H253) zq14.c127) 63 (mkSt [(0, .one (.str v0)), (2, .one (.ptr 2 0)), (8, .one (.bool v1)), (9, .one (.ptr 9 0))] [(2, some (24, [.int .i64 v2, .nl])), (9, some (24, [.int .i64 v3, .nl]))] : St D0) zq14.K0 = zq14.o2 N v0 v1 v2 v3 ((fun w0 w1 w2 => runC zq14.C (zq14.O N) N H253 253 (mkSt [(2, .one (.ptr 2 0)), (9, .one (.ptr 9 0)), (93, .one (.bool w0))] [(2, some (24, [.int .i64 w1, .nl])), (9, some (24, [.int .i64 w2, .nl]))] : St D0) (onN (fun s => zq14.C.tidy 126 s (fun s' => runC zq14.C (zq14.O N) N zq14.c127 127 s' zq14.K0)) zq14.K0))) := by kernel_rfl
def zq14.d2 (N : Nat) (v0 : ByteArray) (v1 : Bool) (v2 : Int) (v3 : Int) : Option zq14.R := zq14.o2 N v0 v1 v2 v3 ((fun w0 w1 w2 => zq14.d4 N w0 w1 w2))
theorem zq14.c63_2 : zq14.c63 = (.seq (.seq zq14.c252 zq14.c253) zq14.c127) := by kernel_rfl
theorem zq14.d2.run (N : Nat) (v0 : ByteArray) (v1 : Bool) (v2 : Int) (v3 : Int) : runC zq14.C (zq14.O N) N zq14.c63 63 (mkSt [(0, .one (.str v0)), (2, .one (.ptr 2 0)), (8, .one (.bool v1)), (9, .one (.ptr 9 0))] [(2, some (24, [.int .i64 v2, .nl])), (9, some (24, [.int .i64 v3, .nl]))] : St D0) (zq14.K63 N) = zq14.d2 N v0 v1 v2 v3 := by
  rw [zq14.c63_2]; unfold zq14.d2; exact (zq14.o2.run N zq14.c253 v0 v1 v2 v3).trans (congr rfl (funext fun w0 => funext fun w1 => funext fun w2 => zq14.d4.run N w0 w1 w2))
def zq14.K2004 (N : Nat) (Kn1002 : St D0 → Option zq14.R) : Ex → St D0 → Option zq14.R := ((fun up => (onN (fun s => zq14.C.tidy 1002 s ((onN Kn1002 up) .normal)) (onN Kn1002 up))) (blockK 0 (onN (fun s => zq14.C.tidy 62 s (zq14.B31 N)) zq14.K0)))
def zq14.o1 (N : Nat) (v0 : ByteArray) (v1 : Bool) (v2 : List ByteArray) (v3 : Int) (v4 : Int) (v5 : Int) (v6 : Int) (c3 : ByteArray → Bool → (List Int) → (List ByteArray) → Int → Int → (List ByteArray) → Int → Int → Int → Int → Option zq14.R) (c2 : ByteArray → Bool → Int → Int → Option zq14.R) : Option zq14.R :=
 bif (decide (v4 < v3)) then
  bif (decide (0 ≤ v4)) then
   bif (decide (v4 < (v2.length : Int))) then
    (v2[(v4 : Int).toNat]?).bind fun x1 =>
    (zq93.g N x1 (⟨#[46]⟩ : ByteArray)).bind fun r2 =>
    c3 v0 v1 ([] : List Int) v2 v3 v4 r2 (r2.length : Int) 0 v5 v6
   else
   none
  else
  none
 else
 c2 v0 v1 v5 v6
theorem zq14.o1.run (N : Nat) (Kb31 : St D0 → Option zq14.R) (Kn1002 : St D0 → Option zq14.R) (H2052916 : Code) (v0 : ByteArray) (v1 : Bool) (v2 : List ByteArray) (v3 : Int) (v4 : Int) (v5 : Int) (v6 : Int) : runC zq14.C (zq14.O N) N (.seq zq14.c4008 (.seq zq14.c8018 (.seq (.block 1 (.seq zq14.c64152 (.seq zq14.c128306 (.seq (.seq zq14.c513228 (.block 2 (.loop H2052916))) zq14.c256615)))) zq14.c16039))) 2004 (mkSt [(0, .one (.str v0)), (2, .one (.ptr 2 0)), (8, .one (.bool v1)), (9, .one (.ptr 9 0)), (33, .one (.sl true 9 v2)), (34, .one (.int .i64 v3)), (35, .one (.int .i64 v4))] [(2, some (24, [.int .i64 v5, .nl])), (9, some (24, [.int .i64 v6, .nl]))] : St D0) ((fun up => (onN (fun s => zq14.C.tidy 1002 s ((onN Kn1002 up) .normal)) (onN Kn1002 up))) (blockK 0 (onN (fun s => zq14.C.tidy 62 s Kb31) zq14.K0))) = zq14.o1 N v0 v1 v2 v3 v4 v5 v6 ((fun w0 w1 w2 w3 w4 w5 w6 w7 w8 w9 w10 => iter (loopF zq14.C (zq14.O N) N H2052916 1026458) N (mkSt [(0, .one (.str w0)), (2, .one (.ptr 2 0)), (8, .one (.bool w1)), (9, .one (.ptr 9 0)), (12, .one (.sl true 3 w2)), (33, .one (.sl true 9 w3)), (34, .one (.int .i64 w4)), (35, .one (.int .i64 w5)), (41, .one (.sl true 9 w6)), (42, .one (.int .i64 w7)), (43, .one (.int .i64 w8))] [(2, some (24, [.int .i64 w9, .nl])), (9, some (24, [.int .i64 w10, .nl]))] : St D0) (blockK 2 ((fun up => (onN (fun s => zq14.C.tidy 256614 s (fun s' => runC zq14.C (zq14.O N) N zq14.c256615 256615 s' up)) up)) (blockK 1 ((fun up => (onN (fun s => zq14.C.tidy 16038 s (fun s' => runC zq14.C (zq14.O N) N zq14.c16039 16039 s' up)) up)) ((fun up => (onN (fun s => zq14.C.tidy 1002 s ((onN Kn1002 up) .normal)) (onN Kn1002 up))) (blockK 0 (onN (fun s => zq14.C.tidy 62 s Kb31) zq14.K0))))))))) ((fun w0 w1 w2 w3 => Kb31 (mkSt [(0, .one (.str w0)), (2, .one (.ptr 2 0)), (8, .one (.bool w1)), (9, .one (.ptr 9 0))] [(2, some (24, [.int .i64 w2, .nl])), (9, some (24, [.int .i64 w3, .nl]))] : St D0))) := by kernel_rfl
def zq14.d1 (N : Nat) (v0 : ByteArray) (v1 : Bool) (v2 : List ByteArray) (v3 : Int) (v4 : Int) (v5 : Int) (v6 : Int) (c6 : ByteArray → Bool → (List ByteArray) → Int → Int → Int → Int → (List S41) → Option zq14.R) : Option zq14.R := zq14.o1 N v0 v1 v2 v3 v4 v5 v6 ((fun w0 w1 w2 w3 w4 w5 w6 w7 w8 w9 w10 => zq14.l3 N N w0 w1 w2 w3 w4 w5 w6 w7 w8 w9 w10 c6)) ((fun w0 w1 w2 w3 => zq14.d2 N w0 w1 w2 w3))
theorem zq14.c2004_1 : zq14.c2004 = (.seq zq14.c4008 (.seq zq14.c8018 (.seq (.block 1 (.seq zq14.c64152 (.seq zq14.c128306 (.seq (.seq zq14.c513228 (.block 2 (.loop zq14.c2052916))) zq14.c256615)))) zq14.c16039))) := by kernel_rfl
theorem zq14.d1.run (N : Nat) (Kn1002 : St D0 → Option zq14.R) (v0 : ByteArray) (v1 : Bool) (v2 : List ByteArray) (v3 : Int) (v4 : Int) (v5 : Int) (v6 : Int) : runC zq14.C (zq14.O N) N zq14.c2004 2004 (mkSt [(0, .one (.str v0)), (2, .one (.ptr 2 0)), (8, .one (.bool v1)), (9, .one (.ptr 9 0)), (33, .one (.sl true 9 v2)), (34, .one (.int .i64 v3)), (35, .one (.int .i64 v4))] [(2, some (24, [.int .i64 v5, .nl])), (9, some (24, [.int .i64 v6, .nl]))] : St D0) (zq14.K2004 N Kn1002) = zq14.d1 N v0 v1 v2 v3 v4 v5 v6 ((fun w0 w1 w2 w3 w4 w5 w6 w7 => Kn1002 (mkSt [(0, .one (.str w0)), (2, .one (.ptr 2 0)), (8, .one (.bool w1)), (9, .one (.ptr 9 0)), (33, .one (.sl true 9 w2)), (34, .one (.int .i64 w3)), (35, .one (.int .i64 w4))] [(2, some (24, [.int .i64 w5, .nl])), (9, some (24, [.int .i64 w6, .sl true 41 w7]))] : St D0))) := by
  rw [zq14.c2004_1]; unfold zq14.d1; exact (zq14.o1.run N (zq14.B31 N) Kn1002 zq14.c2052916 v0 v1 v2 v3 v4 v5 v6).trans (congr (congr rfl (funext fun w0 => funext fun w1 => funext fun w2 => funext fun w3 => funext fun w4 => funext fun w5 => funext fun w6 => funext fun w7 => funext fun w8 => funext fun w9 => funext fun w10 => (zq14.loop1026458 N Kn1002 N).1 w0 w1 w2 w3 w4 w5 w6 w7 w8 w9 w10)) (funext fun w0 => funext fun w1 => funext fun w2 => funext fun w3 => zq14.d2.run N w0 w1 w2 w3))
def zq14.o10 (N : Nat) (v0 : Bool) (v1 : Int) (v2 : Int) (v3 : List S41) : Option zq14.R :=
 bif v0 then
  some (0, ([] : List S41), false)
 else
 some (v2, v3, true)
theorem zq14.o10.run (N : Nat) (v0 : Bool) (v1 : Int) (v2 : Int) (v3 : List S41) : runC zq14.C (zq14.O N) N zq14.c253 253 (mkSt [(2, .one (.ptr 2 0)), (9, .one (.ptr 9 0)), (93, .one (.bool v0))] [(2, some (24, [.int .i64 v1, .nl])), (9, some (24, [.int .i64 v2, .sl true 41 v3]))] : St D0) (onN (fun s => zq14.C.tidy 126 s (fun s' => runC zq14.C (zq14.O N) N zq14.c127 127 s' zq14.K0)) zq14.K0) = zq14.o10 N v0 v1 v2 v3 := by kernel_rfl
def zq14.d10 (N : Nat) (v0 : Bool) (v1 : Int) (v2 : Int) (v3 : List S41) : Option zq14.R := zq14.o10 N v0 v1 v2 v3
theorem zq14.d10.run (N : Nat) (v0 : Bool) (v1 : Int) (v2 : Int) (v3 : List S41) : runC zq14.C (zq14.O N) N zq14.c253 253 (mkSt [(2, .one (.ptr 2 0)), (9, .one (.ptr 9 0)), (93, .one (.bool v0))] [(2, some (24, [.int .i64 v1, .nl])), (9, some (24, [.int .i64 v2, .sl true 41 v3]))] : St D0) (zq14.K253 N) = zq14.d10 N v0 v1 v2 v3 := by
  exact (zq14.o10.run N v0 v1 v2 v3).trans rfl
def zq14.o8 (N : Nat) (v0 : ByteArray) (v1 : Bool) (v2 : Int) (v3 : Int) (v4 : List S41) (c10 : Bool → Int → Int → (List S41) → Option zq14.R) : Option zq14.R :=
 bif (!v1) then
  c10 true v2 v3 v4
 else
 (zq7.g N v3 v4).bind fun r1 =>
 bif (!r1) then
  c10 true v2 v3 v4
 else
 (zq25.g N v3 v4).bind fun r2 =>
 c10 (!(r2.toList == v0.toList)) v2 v3 v4
theorem zq14.o8.run (N : Nat) (H253 : Code) (v0 : ByteArray) (v1 : Bool) (v2 : Int) (v3 : Int) (v4 : List S41) : runC zq14.C (zq14.O N) N (.seq (.seq zq14.c252 H253) zq14.c127) 63 (mkSt [(0, .one (.str v0)), (2, .one (.ptr 2 0)), (8, .one (.bool v1)), (9, .one (.ptr 9 0))] [(2, some (24, [.int .i64 v2, .nl])), (9, some (24, [.int .i64 v3, .sl true 41 v4]))] : St D0) zq14.K0 = zq14.o8 N v0 v1 v2 v3 v4 ((fun w0 w1 w2 w3 => runC zq14.C (zq14.O N) N H253 253 (mkSt [(2, .one (.ptr 2 0)), (9, .one (.ptr 9 0)), (93, .one (.bool w0))] [(2, some (24, [.int .i64 w1, .nl])), (9, some (24, [.int .i64 w2, .sl true 41 w3]))] : St D0) (onN (fun s => zq14.C.tidy 126 s (fun s' => runC zq14.C (zq14.O N) N zq14.c127 127 s' zq14.K0)) zq14.K0))) := by kernel_rfl
def zq14.d8 (N : Nat) (v0 : ByteArray) (v1 : Bool) (v2 : Int) (v3 : Int) (v4 : List S41) : Option zq14.R := zq14.o8 N v0 v1 v2 v3 v4 ((fun w0 w1 w2 w3 => zq14.d10 N w0 w1 w2 w3))
theorem zq14.c63_8 : zq14.c63 = (.seq (.seq zq14.c252 zq14.c253) zq14.c127) := by kernel_rfl
theorem zq14.d8.run (N : Nat) (v0 : ByteArray) (v1 : Bool) (v2 : Int) (v3 : Int) (v4 : List S41) : runC zq14.C (zq14.O N) N zq14.c63 63 (mkSt [(0, .one (.str v0)), (2, .one (.ptr 2 0)), (8, .one (.bool v1)), (9, .one (.ptr 9 0))] [(2, some (24, [.int .i64 v2, .nl])), (9, some (24, [.int .i64 v3, .sl true 41 v4]))] : St D0) (zq14.K63 N) = zq14.d8 N v0 v1 v2 v3 v4 := by
  rw [zq14.c63_8]; unfold zq14.d8; exact (zq14.o8.run N zq14.c253 v0 v1 v2 v3 v4).trans (congr rfl (funext fun w0 => funext fun w1 => funext fun w2 => funext fun w3 => zq14.d10.run N w0 w1 w2 w3))
def zq14.o6 (N : Nat) (v0 : ByteArray) (v1 : Bool) (v2 : List ByteArray) (v3 : Int) (v4 : Int) (v5 : Int) (v6 : Int) (v7 : List S41) (c7 : ByteArray → Bool → (List Int) → (List ByteArray) → Int → Int → (List ByteArray) → Int → Int → Int → Int → (List S41) → Option zq14.R) (c8 : ByteArray → Bool → Int → Int → (List S41) → Option zq14.R) : Option zq14.R :=
 bif (decide (v4 < v3)) then
  bif (decide (0 ≤ v4)) then
   bif (decide (v4 < (v2.length : Int))) then
    (v2[(v4 : Int).toNat]?).bind fun x1 =>
    (zq93.g N x1 (⟨#[46]⟩ : ByteArray)).bind fun r2 =>
    c7 v0 v1 ([] : List Int) v2 v3 v4 r2 (r2.length : Int) 0 v5 v6 v7
   else
   none
  else
  none
 else
 c8 v0 v1 v5 v6 v7
theorem zq14.o6.run (N : Nat) (Kb31 : St D0 → Option zq14.R) (Kn1002 : St D0 → Option zq14.R) (H2052916 : Code) (v0 : ByteArray) (v1 : Bool) (v2 : List ByteArray) (v3 : Int) (v4 : Int) (v5 : Int) (v6 : Int) (v7 : List S41) : runC zq14.C (zq14.O N) N (.seq zq14.c4008 (.seq zq14.c8018 (.seq (.block 1 (.seq zq14.c64152 (.seq zq14.c128306 (.seq (.seq zq14.c513228 (.block 2 (.loop H2052916))) zq14.c256615)))) zq14.c16039))) 2004 (mkSt [(0, .one (.str v0)), (2, .one (.ptr 2 0)), (8, .one (.bool v1)), (9, .one (.ptr 9 0)), (33, .one (.sl true 9 v2)), (34, .one (.int .i64 v3)), (35, .one (.int .i64 v4))] [(2, some (24, [.int .i64 v5, .nl])), (9, some (24, [.int .i64 v6, .sl true 41 v7]))] : St D0) ((fun up => (onN (fun s => zq14.C.tidy 1002 s ((onN Kn1002 up) .normal)) (onN Kn1002 up))) (blockK 0 (onN (fun s => zq14.C.tidy 62 s Kb31) zq14.K0))) = zq14.o6 N v0 v1 v2 v3 v4 v5 v6 v7 ((fun w0 w1 w2 w3 w4 w5 w6 w7 w8 w9 w10 w11 => iter (loopF zq14.C (zq14.O N) N H2052916 1026458) N (mkSt [(0, .one (.str w0)), (2, .one (.ptr 2 0)), (8, .one (.bool w1)), (9, .one (.ptr 9 0)), (12, .one (.sl true 3 w2)), (33, .one (.sl true 9 w3)), (34, .one (.int .i64 w4)), (35, .one (.int .i64 w5)), (41, .one (.sl true 9 w6)), (42, .one (.int .i64 w7)), (43, .one (.int .i64 w8))] [(2, some (24, [.int .i64 w9, .nl])), (9, some (24, [.int .i64 w10, .sl true 41 w11]))] : St D0) (blockK 2 ((fun up => (onN (fun s => zq14.C.tidy 256614 s (fun s' => runC zq14.C (zq14.O N) N zq14.c256615 256615 s' up)) up)) (blockK 1 ((fun up => (onN (fun s => zq14.C.tidy 16038 s (fun s' => runC zq14.C (zq14.O N) N zq14.c16039 16039 s' up)) up)) ((fun up => (onN (fun s => zq14.C.tidy 1002 s ((onN Kn1002 up) .normal)) (onN Kn1002 up))) (blockK 0 (onN (fun s => zq14.C.tidy 62 s Kb31) zq14.K0))))))))) ((fun w0 w1 w2 w3 w4 => Kb31 (mkSt [(0, .one (.str w0)), (2, .one (.ptr 2 0)), (8, .one (.bool w1)), (9, .one (.ptr 9 0))] [(2, some (24, [.int .i64 w2, .nl])), (9, some (24, [.int .i64 w3, .sl true 41 w4]))] : St D0))) := by kernel_rfl
def zq14.d6 (N : Nat) (v0 : ByteArray) (v1 : Bool) (v2 : List ByteArray) (v3 : Int) (v4 : Int) (v5 : Int) (v6 : Int) (v7 : List S41) (c6 : ByteArray → Bool → (List ByteArray) → Int → Int → Int → Int → (List S41) → Option zq14.R) : Option zq14.R := zq14.o6 N v0 v1 v2 v3 v4 v5 v6 v7 ((fun w0 w1 w2 w3 w4 w5 w6 w7 w8 w9 w10 w11 => zq14.l7 N N w0 w1 w2 w3 w4 w5 w6 w7 w8 w9 w10 w11 c6)) ((fun w0 w1 w2 w3 w4 => zq14.d8 N w0 w1 w2 w3 w4))
theorem zq14.c2004_6 : zq14.c2004 = (.seq zq14.c4008 (.seq zq14.c8018 (.seq (.block 1 (.seq zq14.c64152 (.seq zq14.c128306 (.seq (.seq zq14.c513228 (.block 2 (.loop zq14.c2052916))) zq14.c256615)))) zq14.c16039))) := by kernel_rfl
theorem zq14.d6.run (N : Nat) (Kn1002 : St D0 → Option zq14.R) (v0 : ByteArray) (v1 : Bool) (v2 : List ByteArray) (v3 : Int) (v4 : Int) (v5 : Int) (v6 : Int) (v7 : List S41) : runC zq14.C (zq14.O N) N zq14.c2004 2004 (mkSt [(0, .one (.str v0)), (2, .one (.ptr 2 0)), (8, .one (.bool v1)), (9, .one (.ptr 9 0)), (33, .one (.sl true 9 v2)), (34, .one (.int .i64 v3)), (35, .one (.int .i64 v4))] [(2, some (24, [.int .i64 v5, .nl])), (9, some (24, [.int .i64 v6, .sl true 41 v7]))] : St D0) (zq14.K2004 N Kn1002) = zq14.d6 N v0 v1 v2 v3 v4 v5 v6 v7 ((fun w0 w1 w2 w3 w4 w5 w6 w7 => Kn1002 (mkSt [(0, .one (.str w0)), (2, .one (.ptr 2 0)), (8, .one (.bool w1)), (9, .one (.ptr 9 0)), (33, .one (.sl true 9 w2)), (34, .one (.int .i64 w3)), (35, .one (.int .i64 w4))] [(2, some (24, [.int .i64 w5, .nl])), (9, some (24, [.int .i64 w6, .sl true 41 w7]))] : St D0))) := by
  rw [zq14.c2004_6]; unfold zq14.d6; exact (zq14.o6.run N (zq14.B31 N) Kn1002 zq14.c2052916 v0 v1 v2 v3 v4 v5 v6 v7).trans (congr (congr rfl (funext fun w0 => funext fun w1 => funext fun w2 => funext fun w3 => funext fun w4 => funext fun w5 => funext fun w6 => funext fun w7 => funext fun w8 => funext fun w9 => funext fun w10 => funext fun w11 => (zq14.loop1026458 N Kn1002 N).2 w0 w1 w2 w3 w4 w5 w6 w7 w8 w9 w10 w11)) (funext fun w0 => funext fun w1 => funext fun w2 => funext fun w3 => funext fun w4 => zq14.d8.run N w0 w1 w2 w3 w4))
def zq14.K1002 (N : Nat) : Ex → St D0 → Option zq14.R := (blockK 0 (onN (fun s => zq14.C.tidy 62 s (zq14.B31 N)) zq14.K0))
mutual
def zq14.l1 (N : Nat) : Nat → ByteArray → Bool → (List ByteArray) → Int → Int → Int → Int → Option zq14.R
  | 0, _, _, _, _, _, _, _ => none
  | n + 1, v0, v1, v2, v3, v4, v5, v6 => zq14.d1 N v0 v1 v2 v3 v4 v5 v6 ((fun w0 w1 w2 w3 w4 w5 w6 w7 => zq14.l6 N n w0 w1 w2 w3 w4 w5 w6 w7))
def zq14.l6 (N : Nat) : Nat → ByteArray → Bool → (List ByteArray) → Int → Int → Int → Int → (List S41) → Option zq14.R
  | 0, _, _, _, _, _, _, _, _ => none
  | n + 1, v0, v1, v2, v3, v4, v5, v6, v7 => zq14.d6 N v0 v1 v2 v3 v4 v5 v6 v7 ((fun w0 w1 w2 w3 w4 w5 w6 w7 => zq14.l6 N n w0 w1 w2 w3 w4 w5 w6 w7))
end
theorem zq14.loop1002 (N : Nat) : ∀ n, (∀ (v0 : ByteArray) (v1 : Bool) (v2 : List ByteArray) (v3 : Int) (v4 : Int) (v5 : Int) (v6 : Int), iter (loopF zq14.C (zq14.O N) N zq14.c2004 1002) n (mkSt [(0, .one (.str v0)), (2, .one (.ptr 2 0)), (8, .one (.bool v1)), (9, .one (.ptr 9 0)), (33, .one (.sl true 9 v2)), (34, .one (.int .i64 v3)), (35, .one (.int .i64 v4))] [(2, some (24, [.int .i64 v5, .nl])), (9, some (24, [.int .i64 v6, .nl]))] : St D0) (zq14.K1002 N) = zq14.l1 N n v0 v1 v2 v3 v4 v5 v6) ∧ (∀ (v0 : ByteArray) (v1 : Bool) (v2 : List ByteArray) (v3 : Int) (v4 : Int) (v5 : Int) (v6 : Int) (v7 : List S41), iter (loopF zq14.C (zq14.O N) N zq14.c2004 1002) n (mkSt [(0, .one (.str v0)), (2, .one (.ptr 2 0)), (8, .one (.bool v1)), (9, .one (.ptr 9 0)), (33, .one (.sl true 9 v2)), (34, .one (.int .i64 v3)), (35, .one (.int .i64 v4))] [(2, some (24, [.int .i64 v5, .nl])), (9, some (24, [.int .i64 v6, .sl true 41 v7]))] : St D0) (zq14.K1002 N) = zq14.l6 N n v0 v1 v2 v3 v4 v5 v6 v7)
  | 0 => ⟨(fun v0 v1 v2 v3 v4 v5 v6 => rfl), (fun v0 v1 v2 v3 v4 v5 v6 v7 => rfl)⟩
  | n + 1 => ⟨(fun v0 v1 v2 v3 v4 v5 v6 => (zq14.d1.run N (fun s => iter (loopF zq14.C (zq14.O N) N zq14.c2004 1002) n s (zq14.K1002 N)) v0 v1 v2 v3 v4 v5 v6).trans (show _ = zq14.d1 N v0 v1 v2 v3 v4 v5 v6 ((fun w0 w1 w2 w3 w4 w5 w6 w7 => zq14.l6 N n w0 w1 w2 w3 w4 w5 w6 w7)) from (congr rfl (funext fun w0 => funext fun w1 => funext fun w2 => funext fun w3 => funext fun w4 => funext fun w5 => funext fun w6 => funext fun w7 => (zq14.loop1002 N n).2 w0 w1 w2 w3 w4 w5 w6 w7)))), (fun v0 v1 v2 v3 v4 v5 v6 v7 => (zq14.d6.run N (fun s => iter (loopF zq14.C (zq14.O N) N zq14.c2004 1002) n s (zq14.K1002 N)) v0 v1 v2 v3 v4 v5 v6 v7).trans (show _ = zq14.d6 N v0 v1 v2 v3 v4 v5 v6 v7 ((fun w0 w1 w2 w3 w4 w5 w6 w7 => zq14.l6 N n w0 w1 w2 w3 w4 w5 w6 w7)) from (congr rfl (funext fun w0 => funext fun w1 => funext fun w2 => funext fun w3 => funext fun w4 => funext fun w5 => funext fun w6 => funext fun w7 => (zq14.loop1002 N n).2 w0 w1 w2 w3 w4 w5 w6 w7))))⟩
def zq14.o0 (N : Nat) (a0 : ByteArray) (c1 : ByteArray → Bool → (List ByteArray) → Int → Int → Int → Int → Option zq14.R) (c2 : ByteArray → Bool → Int → Int → Option zq14.R) : Option zq14.R :=
 (zq91.g N a0 (⟨#[58]⟩ : ByteArray)).bind fun r1 =>
 (zq26.g N r1.1 24).bind fun r2 =>
 bif (!(r1.2.1.toList == (⟨#[]⟩ : ByteArray).toList)) then
  (zq93.g N r1.2.1 (⟨#[44]⟩ : ByteArray)).bind fun r3 =>
  c1 a0 r2.2 r3 (r3.length : Int) 0 0 r2.1
 else
 c2 a0 r2.2 0 r2.1
theorem zq14.o0.run (N : Nat) (H63 : Code) (H2004 : Code) (a0 : ByteArray) : runC zq14.C (zq14.O N) N (.seq zq14.c2 (.seq zq14.c6 (.seq zq14.c14 (.seq zq14.c30 (.seq (.seq zq14.c124 (.cond (.tmp 31) (.seq zq14.c500 (.block 0 (.loop H2004))) zq14.c251)) H63))))) 1 (st0 [.one (.str a0)] [] : St D0) zq14.K0 = zq14.o0 N a0 ((fun w0 w1 w2 w3 w4 w5 w6 => iter (loopF zq14.C (zq14.O N) N H2004 1002) N (mkSt [(0, .one (.str w0)), (2, .one (.ptr 2 0)), (8, .one (.bool w1)), (9, .one (.ptr 9 0)), (33, .one (.sl true 9 w2)), (34, .one (.int .i64 w3)), (35, .one (.int .i64 w4))] [(2, some (24, [.int .i64 w5, .nl])), (9, some (24, [.int .i64 w6, .nl]))] : St D0) (blockK 0 (onN (fun s => zq14.C.tidy 62 s (fun s' => runC zq14.C (zq14.O N) N H63 63 s' zq14.K0)) zq14.K0)))) ((fun w0 w1 w2 w3 => runC zq14.C (zq14.O N) N H63 63 (mkSt [(0, .one (.str w0)), (2, .one (.ptr 2 0)), (8, .one (.bool w1)), (9, .one (.ptr 9 0))] [(2, some (24, [.int .i64 w2, .nl])), (9, some (24, [.int .i64 w3, .nl]))] : St D0) zq14.K0)) := by kernel_rfl
def zq14.g (N : Nat) (a0 : ByteArray) : Option zq14.R := zq14.o0 N a0 ((fun w0 w1 w2 w3 w4 w5 w6 => zq14.l1 N N w0 w1 w2 w3 w4 w5 w6)) ((fun w0 w1 w2 w3 => zq14.d2 N w0 w1 w2 w3))
theorem zq14.c1_0 : zq14.c1 = (.seq zq14.c2 (.seq zq14.c6 (.seq zq14.c14 (.seq zq14.c30 (.seq (.seq zq14.c124 (.cond (.tmp 31) (.seq zq14.c500 (.block 0 (.loop zq14.c2004))) zq14.c251)) zq14.c63))))) := by kernel_rfl
theorem zq14.g.run (N : Nat) (a0 : ByteArray) : runC zq14.C (zq14.O N) N zq14.c1 1 (st0 [.one (.str a0)] [] : St D0) zq14.K0 = zq14.g N a0 := by
  rw [zq14.c1_0]; unfold zq14.g; exact (zq14.o0.run N zq14.c63 zq14.c2004 a0).trans (congr (congr rfl (funext fun w0 => funext fun w1 => funext fun w2 => funext fun w3 => funext fun w4 => funext fun w5 => funext fun w6 => (zq14.loop1002 N N).1 w0 w1 w2 w3 w4 w5 w6)) (funext fun w0 => funext fun w1 => funext fun w2 => funext fun w3 => zq14.d2.run N w0 w1 w2 w3))
theorem zq14.good (N : Nat) (a0 : ByteArray) (r : zq14.R) (h : zq14.g N a0 = some r) : Go.PM.Good Tryz.prog T0 32 [.one (.str a0)] [] (zq14.sig.ret r) (zq14.sig.bs r) :=
  good_fn tabOk0 mixed0 zq14.sig (zq14.E N) Tryz.func32 (by kernel_rfl) (by kernel_rfl) 9903520323506447352393227197 39614081330919145091610181632 0 [(62, [0, 2, 8, 9], [2, 9]), (252, [2, 9, 93], [2, 9]), (1002, [0, 2, 8, 9, 33, 34, 35], [2, 9]), (1026458, [0, 2, 8, 9, 12, 33, 34, 35, 41, 42, 43], [2, 9]), (262773350, [0, 2, 8, 9, 12, 15, 33, 34, 35, 41, 42, 43], [2, 9])] 2478308705414654443613585408 false [] [(true, [.any, .own 41]), (false, [.any])] (by kernel_rfl) rfl rfl ((zq14.g.run N a0).trans h)
def zq14.ent (N : Nat) : Ent Tryz.prog T0 := mkEnt 32 [(false, [.any])] zq14.sig (fun t => zq14.g N t) (fun t r h => zq14.good N t r h)
/-! ### zq85 -/
abbrev zq85.R : Type := Int × List S41 × Bool
abbrev zq85.sig : Sig := ⟨[(false, 1)], [], [.str], [(true, 2), (false, 1)], [], [.int .i64, .sl true 41, .bool]⟩
def zq85.C : Cfg D0 := ⟨Tryz.prog, T0, 4462739589565, 9223407221226864640, 72, 0, [(126, [0, 2, 5], [2, 5]), (2026, [0, 2, 5, 32, 33, 34], [2, 5])], 590315022400809902592, false, []⟩
def zq85.E (N : Nat) : List (Ent Tryz.prog T0) := [zq77.ent N, zq75.ent N, zq82.ent N, zq87.ent N]
def zq85.O (N : Nat) : Orc D0 zq85.R := orcOf (zq85.E N)
def zq85.K0 : Ex → St D0 → Option zq85.R := exitK zq85.C Tryz.f61.results.toList [(true, [.any, .own 41]), (false, [.any])] (decOut zq85.sig)
def zq85.c1 : Code := codeAt (Tryz.f61.body.getD .skip) []
def zq85.c2 : Code := codeAt (Tryz.f61.body.getD .skip) [false]
def zq85.c6 : Code := codeAt (Tryz.f61.body.getD .skip) [true, false]
def zq85.c14 : Code := codeAt (Tryz.f61.body.getD .skip) [true, true, false]
def zq85.c30 : Code := codeAt (Tryz.f61.body.getD .skip) [true, true, true, false]
def zq85.c62 : Code := codeAt (Tryz.f61.body.getD .skip) [true, true, true, true, false]
def zq85.c127 : Code := codeAt (Tryz.f61.body.getD .skip) [true, true, true, true, true, true]
def zq85.c252 : Code := codeAt (Tryz.f61.body.getD .skip) [true, true, true, true, true, false, false]
def zq85.c507 : Code := codeAt (Tryz.f61.body.getD .skip) [true, true, true, true, true, false, true, true]
def zq85.c1012 : Code := codeAt (Tryz.f61.body.getD .skip) [true, true, true, true, true, false, true, false, false]
def zq85.c4052 : Code := codeAt (Tryz.f61.body.getD .skip) [true, true, true, true, true, false, true, false, true, false, false]
def zq85.K127 (N : Nat) : Ex → St D0 → Option zq85.R := zq85.K0
def zq85.o2 (N : Nat) (v0 : ByteArray) (v1 : Int) (v2 : Int) : Option zq85.R :=
 (zq82.g N v2 ([] : List S41)).bind fun r1 =>
 bif r1 then
  (zq87.g N v2 ([] : List S41)).bind fun r2 =>
  some (v2, ([] : List S41), (r2.toList == v0.toList))
 else
 some (v2, ([] : List S41), false)
theorem zq85.o2.run (N : Nat) (v0 : ByteArray) (v1 : Int) (v2 : Int) : runC zq85.C (zq85.O N) N zq85.c127 127 (mkSt [(0, .one (.str v0)), (2, .one (.ptr 2 0)), (5, .one (.ptr 5 0))] [(2, some (24, [.int .i64 v1, .nl])), (5, some (24, [.int .i64 v2, .nl]))] : St D0) zq85.K0 = zq85.o2 N v0 v1 v2 := by kernel_rfl
def zq85.d2 (N : Nat) (v0 : ByteArray) (v1 : Int) (v2 : Int) : Option zq85.R := zq85.o2 N v0 v1 v2
theorem zq85.d2.run (N : Nat) (v0 : ByteArray) (v1 : Int) (v2 : Int) : runC zq85.C (zq85.O N) N zq85.c127 127 (mkSt [(0, .one (.str v0)), (2, .one (.ptr 2 0)), (5, .one (.ptr 5 0))] [(2, some (24, [.int .i64 v1, .nl])), (5, some (24, [.int .i64 v2, .nl]))] : St D0) (zq85.K127 N) = zq85.d2 N v0 v1 v2 := by
  exact (zq85.o2.run N v0 v1 v2).trans rfl
def zq85.B63 (N : Nat) : St D0 → Option zq85.R := fun s' => runC zq85.C (zq85.O N) N zq85.c127 127 s' (zq85.K127 N)
def zq85.K4052 (N : Nat) (Kn2026 : St D0 → Option zq85.R) : Ex → St D0 → Option zq85.R := ((fun up => (onN (fun s => zq85.C.tidy 2026 s ((onN Kn2026 up) .normal)) (onN Kn2026 up))) (blockK 0 (onN (fun s => zq85.C.tidy 126 s (zq85.B63 N)) zq85.K0)))
def zq85.o1 (N : Nat) (v0 : ByteArray) (v1 : List ByteArray) (v2 : Int) (v3 : Int) (v4 : Int) (v5 : Int) (c3 : ByteArray → (List ByteArray) → Int → Int → Int → Int → (List S41) → Option zq85.R) (c2 : ByteArray → Int → Int → Option zq85.R) : Option zq85.R :=
 bif (decide (v3 < v2)) then
  bif (decide (0 ≤ v3)) then
   bif (decide (v3 < (v1.length : Int))) then
    (v1[(v3 : Int).toNat]?).bind fun x1 =>
    (zq77.g N x1 46).bind fun r2 =>
    bif ((r2.length : Int) != 3) then
     some (0, ([] : List S41), false)
    else
    bif (decide (0 < (r2.length : Int))) then
     (r2[(0 : Int).toNat]?).bind fun x3 =>
     (zq75.g N x3).bind fun r4 =>
     bif (decide (1 < (r2.length : Int))) then
      (r2[(1 : Int).toNat]?).bind fun x5 =>
      (zq75.g N x5).bind fun r6 =>
      bif (decide (2 < (r2.length : Int))) then
       (r2[(2 : Int).toNat]?).bind fun x7 =>
       (zq75.g N x7).bind fun r8 =>
       bif (Nat.blt (([] : List S41).length + ([(⟨r4, r6, r8⟩ : S41)] : List S41).length) 5864062014805) then
        c3 v0 v1 v2 (w64 (v3 + 1)) v4 v5 (([] : List S41) ++ ([(⟨r4, r6, r8⟩ : S41)] : List S41))
       else
       none
      else
      none
     else
     none
    else
    none
   else
   none
  else
  none
 else
 c2 v0 v4 v5
theorem zq85.o1.run (N : Nat) (Kb63 : St D0 → Option zq85.R) (Kn2026 : St D0 → Option zq85.R) (v0 : ByteArray) (v1 : List ByteArray) (v2 : Int) (v3 : Int) (v4 : Int) (v5 : Int) : runC zq85.C (zq85.O N) N zq85.c4052 4052 (mkSt [(0, .one (.str v0)), (2, .one (.ptr 2 0)), (5, .one (.ptr 5 0)), (32, .one (.sl true 9 v1)), (33, .one (.int .i64 v2)), (34, .one (.int .i64 v3))] [(2, some (24, [.int .i64 v4, .nl])), (5, some (24, [.int .i64 v5, .nl]))] : St D0) (onN (fun s => zq85.C.tidy 2026 s ((onN Kn2026 (blockK 0 (onN (fun s => zq85.C.tidy 126 s Kb63) zq85.K0))) .normal)) (onN Kn2026 (blockK 0 (onN (fun s => zq85.C.tidy 126 s Kb63) zq85.K0)))) = zq85.o1 N v0 v1 v2 v3 v4 v5 ((fun w0 w1 w2 w3 w4 w5 w6 => Kn2026 (mkSt [(0, .one (.str w0)), (2, .one (.ptr 2 0)), (5, .one (.ptr 5 0)), (32, .one (.sl true 9 w1)), (33, .one (.int .i64 w2)), (34, .one (.int .i64 w3))] [(2, some (24, [.int .i64 w4, .nl])), (5, some (24, [.int .i64 w5, .sl true 41 w6]))] : St D0))) ((fun w0 w1 w2 => Kb63 (mkSt [(0, .one (.str w0)), (2, .one (.ptr 2 0)), (5, .one (.ptr 5 0))] [(2, some (24, [.int .i64 w1, .nl])), (5, some (24, [.int .i64 w2, .nl]))] : St D0))) := by kernel_rfl
def zq85.d1 (N : Nat) (v0 : ByteArray) (v1 : List ByteArray) (v2 : Int) (v3 : Int) (v4 : Int) (v5 : Int) (c3 : ByteArray → (List ByteArray) → Int → Int → Int → Int → (List S41) → Option zq85.R) : Option zq85.R := zq85.o1 N v0 v1 v2 v3 v4 v5 c3 ((fun w0 w1 w2 => zq85.d2 N w0 w1 w2))
theorem zq85.d1.run (N : Nat) (Kn2026 : St D0 → Option zq85.R) (v0 : ByteArray) (v1 : List ByteArray) (v2 : Int) (v3 : Int) (v4 : Int) (v5 : Int) : runC zq85.C (zq85.O N) N zq85.c4052 4052 (mkSt [(0, .one (.str v0)), (2, .one (.ptr 2 0)), (5, .one (.ptr 5 0)), (32, .one (.sl true 9 v1)), (33, .one (.int .i64 v2)), (34, .one (.int .i64 v3))] [(2, some (24, [.int .i64 v4, .nl])), (5, some (24, [.int .i64 v5, .nl]))] : St D0) (zq85.K4052 N Kn2026) = zq85.d1 N v0 v1 v2 v3 v4 v5 ((fun w0 w1 w2 w3 w4 w5 w6 => Kn2026 (mkSt [(0, .one (.str w0)), (2, .one (.ptr 2 0)), (5, .one (.ptr 5 0)), (32, .one (.sl true 9 w1)), (33, .one (.int .i64 w2)), (34, .one (.int .i64 w3))] [(2, some (24, [.int .i64 w4, .nl])), (5, some (24, [.int .i64 w5, .sl true 41 w6]))] : St D0))) := by
  unfold zq85.d1; exact (zq85.o1.run N (zq85.B63 N) Kn2026 v0 v1 v2 v3 v4 v5).trans (congr (congr rfl rfl) (funext fun w0 => funext fun w1 => funext fun w2 => zq85.d2.run N w0 w1 w2))
def zq85.o4 (N : Nat) (v0 : ByteArray) (v1 : Int) (v2 : Int) (v3 : List S41) : Option zq85.R :=
 (zq82.g N v2 v3).bind fun r1 =>
 bif r1 then
  (zq87.g N v2 v3).bind fun r2 =>
  some (v2, v3, (r2.toList == v0.toList))
 else
 some (v2, v3, false)
theorem zq85.o4.run (N : Nat) (v0 : ByteArray) (v1 : Int) (v2 : Int) (v3 : List S41) : runC zq85.C (zq85.O N) N zq85.c127 127 (mkSt [(0, .one (.str v0)), (2, .one (.ptr 2 0)), (5, .one (.ptr 5 0))] [(2, some (24, [.int .i64 v1, .nl])), (5, some (24, [.int .i64 v2, .sl true 41 v3]))] : St D0) zq85.K0 = zq85.o4 N v0 v1 v2 v3 := by kernel_rfl
def zq85.d4 (N : Nat) (v0 : ByteArray) (v1 : Int) (v2 : Int) (v3 : List S41) : Option zq85.R := zq85.o4 N v0 v1 v2 v3
theorem zq85.d4.run (N : Nat) (v0 : ByteArray) (v1 : Int) (v2 : Int) (v3 : List S41) : runC zq85.C (zq85.O N) N zq85.c127 127 (mkSt [(0, .one (.str v0)), (2, .one (.ptr 2 0)), (5, .one (.ptr 5 0))] [(2, some (24, [.int .i64 v1, .nl])), (5, some (24, [.int .i64 v2, .sl true 41 v3]))] : St D0) (zq85.K127 N) = zq85.d4 N v0 v1 v2 v3 := by
  exact (zq85.o4.run N v0 v1 v2 v3).trans rfl
def zq85.o3 (N : Nat) (v0 : ByteArray) (v1 : List ByteArray) (v2 : Int) (v3 : Int) (v4 : Int) (v5 : Int) (v6 : List S41) (c3 : ByteArray → (List ByteArray) → Int → Int → Int → Int → (List S41) → Option zq85.R) (c4 : ByteArray → Int → Int → (List S41) → Option zq85.R) : Option zq85.R :=
 bif (decide (v3 < v2)) then
  bif (decide (0 ≤ v3)) then
   bif (decide (v3 < (v1.length : Int))) then
    (v1[(v3 : Int).toNat]?).bind fun x1 =>
    (zq77.g N x1 46).bind fun r2 =>
    bif ((r2.length : Int) != 3) then
     some (0, ([] : List S41), false)
    else
    bif (decide (0 < (r2.length : Int))) then
     (r2[(0 : Int).toNat]?).bind fun x3 =>
     (zq75.g N x3).bind fun r4 =>
     bif (decide (1 < (r2.length : Int))) then
      (r2[(1 : Int).toNat]?).bind fun x5 =>
      (zq75.g N x5).bind fun r6 =>
      bif (decide (2 < (r2.length : Int))) then
       (r2[(2 : Int).toNat]?).bind fun x7 =>
       (zq75.g N x7).bind fun r8 =>
       bif (Nat.blt (v6.length + ([(⟨r4, r6, r8⟩ : S41)] : List S41).length) 5864062014805) then
        c3 v0 v1 v2 (w64 (v3 + 1)) v4 v5 (v6 ++ ([(⟨r4, r6, r8⟩ : S41)] : List S41))
       else
       none
      else
      none
     else
     none
    else
    none
   else
   none
  else
  none
 else
 c4 v0 v4 v5 v6
theorem zq85.o3.run (N : Nat) (Kb63 : St D0 → Option zq85.R) (Kn2026 : St D0 → Option zq85.R) (v0 : ByteArray) (v1 : List ByteArray) (v2 : Int) (v3 : Int) (v4 : Int) (v5 : Int) (v6 : List S41) : runC zq85.C (zq85.O N) N zq85.c4052 4052 (mkSt [(0, .one (.str v0)), (2, .one (.ptr 2 0)), (5, .one (.ptr 5 0)), (32, .one (.sl true 9 v1)), (33, .one (.int .i64 v2)), (34, .one (.int .i64 v3))] [(2, some (24, [.int .i64 v4, .nl])), (5, some (24, [.int .i64 v5, .sl true 41 v6]))] : St D0) (onN (fun s => zq85.C.tidy 2026 s ((onN Kn2026 (blockK 0 (onN (fun s => zq85.C.tidy 126 s Kb63) zq85.K0))) .normal)) (onN Kn2026 (blockK 0 (onN (fun s => zq85.C.tidy 126 s Kb63) zq85.K0)))) = zq85.o3 N v0 v1 v2 v3 v4 v5 v6 ((fun w0 w1 w2 w3 w4 w5 w6 => Kn2026 (mkSt [(0, .one (.str w0)), (2, .one (.ptr 2 0)), (5, .one (.ptr 5 0)), (32, .one (.sl true 9 w1)), (33, .one (.int .i64 w2)), (34, .one (.int .i64 w3))] [(2, some (24, [.int .i64 w4, .nl])), (5, some (24, [.int .i64 w5, .sl true 41 w6]))] : St D0))) ((fun w0 w1 w2 w3 => Kb63 (mkSt [(0, .one (.str w0)), (2, .one (.ptr 2 0)), (5, .one (.ptr 5 0))] [(2, some (24, [.int .i64 w1, .nl])), (5, some (24, [.int .i64 w2, .sl true 41 w3]))] : St D0))) := by kernel_rfl
def zq85.d3 (N : Nat) (v0 : ByteArray) (v1 : List ByteArray) (v2 : Int) (v3 : Int) (v4 : Int) (v5 : Int) (v6 : List S41) (c3 : ByteArray → (List ByteArray) → Int → Int → Int → Int → (List S41) → Option zq85.R) : Option zq85.R := zq85.o3 N v0 v1 v2 v3 v4 v5 v6 c3 ((fun w0 w1 w2 w3 => zq85.d4 N w0 w1 w2 w3))
theorem zq85.d3.run (N : Nat) (Kn2026 : St D0 → Option zq85.R) (v0 : ByteArray) (v1 : List ByteArray) (v2 : Int) (v3 : Int) (v4 : Int) (v5 : Int) (v6 : List S41) : runC zq85.C (zq85.O N) N zq85.c4052 4052 (mkSt [(0, .one (.str v0)), (2, .one (.ptr 2 0)), (5, .one (.ptr 5 0)), (32, .one (.sl true 9 v1)), (33, .one (.int .i64 v2)), (34, .one (.int .i64 v3))] [(2, some (24, [.int .i64 v4, .nl])), (5, some (24, [.int .i64 v5, .sl true 41 v6]))] : St D0) (zq85.K4052 N Kn2026) = zq85.d3 N v0 v1 v2 v3 v4 v5 v6 ((fun w0 w1 w2 w3 w4 w5 w6 => Kn2026 (mkSt [(0, .one (.str w0)), (2, .one (.ptr 2 0)), (5, .one (.ptr 5 0)), (32, .one (.sl true 9 w1)), (33, .one (.int .i64 w2)), (34, .one (.int .i64 w3))] [(2, some (24, [.int .i64 w4, .nl])), (5, some (24, [.int .i64 w5, .sl true 41 w6]))] : St D0))) := by
  unfold zq85.d3; exact (zq85.o3.run N (zq85.B63 N) Kn2026 v0 v1 v2 v3 v4 v5 v6).trans (congr (congr rfl rfl) (funext fun w0 => funext fun w1 => funext fun w2 => funext fun w3 => zq85.d4.run N w0 w1 w2 w3))
def zq85.K2026 (N : Nat) : Ex → St D0 → Option zq85.R := (blockK 0 (onN (fun s => zq85.C.tidy 126 s (zq85.B63 N)) zq85.K0))
mutual
def zq85.l1 (N : Nat) : Nat → ByteArray → (List ByteArray) → Int → Int → Int → Int → Option zq85.R
  | 0, _, _, _, _, _, _ => none
  | n + 1, v0, v1, v2, v3, v4, v5 => zq85.d1 N v0 v1 v2 v3 v4 v5 ((fun w0 w1 w2 w3 w4 w5 w6 => zq85.l3 N n w0 w1 w2 w3 w4 w5 w6))
def zq85.l3 (N : Nat) : Nat → ByteArray → (List ByteArray) → Int → Int → Int → Int → (List S41) → Option zq85.R
  | 0, _, _, _, _, _, _, _ => none
  | n + 1, v0, v1, v2, v3, v4, v5, v6 => zq85.d3 N v0 v1 v2 v3 v4 v5 v6 ((fun w0 w1 w2 w3 w4 w5 w6 => zq85.l3 N n w0 w1 w2 w3 w4 w5 w6))
end
theorem zq85.loop2026 (N : Nat) : ∀ n, (∀ (v0 : ByteArray) (v1 : List ByteArray) (v2 : Int) (v3 : Int) (v4 : Int) (v5 : Int), iter (loopF zq85.C (zq85.O N) N zq85.c4052 2026) n (mkSt [(0, .one (.str v0)), (2, .one (.ptr 2 0)), (5, .one (.ptr 5 0)), (32, .one (.sl true 9 v1)), (33, .one (.int .i64 v2)), (34, .one (.int .i64 v3))] [(2, some (24, [.int .i64 v4, .nl])), (5, some (24, [.int .i64 v5, .nl]))] : St D0) (zq85.K2026 N) = zq85.l1 N n v0 v1 v2 v3 v4 v5) ∧ (∀ (v0 : ByteArray) (v1 : List ByteArray) (v2 : Int) (v3 : Int) (v4 : Int) (v5 : Int) (v6 : List S41), iter (loopF zq85.C (zq85.O N) N zq85.c4052 2026) n (mkSt [(0, .one (.str v0)), (2, .one (.ptr 2 0)), (5, .one (.ptr 5 0)), (32, .one (.sl true 9 v1)), (33, .one (.int .i64 v2)), (34, .one (.int .i64 v3))] [(2, some (24, [.int .i64 v4, .nl])), (5, some (24, [.int .i64 v5, .sl true 41 v6]))] : St D0) (zq85.K2026 N) = zq85.l3 N n v0 v1 v2 v3 v4 v5 v6)
  | 0 => ⟨(fun v0 v1 v2 v3 v4 v5 => rfl), (fun v0 v1 v2 v3 v4 v5 v6 => rfl)⟩
  | n + 1 => ⟨(fun v0 v1 v2 v3 v4 v5 => (zq85.d1.run N (fun s => iter (loopF zq85.C (zq85.O N) N zq85.c4052 2026) n s (zq85.K2026 N)) v0 v1 v2 v3 v4 v5).trans (show _ = zq85.d1 N v0 v1 v2 v3 v4 v5 ((fun w0 w1 w2 w3 w4 w5 w6 => zq85.l3 N n w0 w1 w2 w3 w4 w5 w6)) from (congr rfl (funext fun w0 => funext fun w1 => funext fun w2 => funext fun w3 => funext fun w4 => funext fun w5 => funext fun w6 => (zq85.loop2026 N n).2 w0 w1 w2 w3 w4 w5 w6)))), (fun v0 v1 v2 v3 v4 v5 v6 => (zq85.d3.run N (fun s => iter (loopF zq85.C (zq85.O N) N zq85.c4052 2026) n s (zq85.K2026 N)) v0 v1 v2 v3 v4 v5 v6).trans (show _ = zq85.d3 N v0 v1 v2 v3 v4 v5 v6 ((fun w0 w1 w2 w3 w4 w5 w6 => zq85.l3 N n w0 w1 w2 w3 w4 w5 w6)) from (congr rfl (funext fun w0 => funext fun w1 => funext fun w2 => funext fun w3 => funext fun w4 => funext fun w5 => funext fun w6 => (zq85.loop2026 N n).2 w0 w1 w2 w3 w4 w5 w6))))⟩
def zq85.o0 (N : Nat) (a0 : ByteArray) (c1 : ByteArray → (List ByteArray) → Int → Int → Int → Int → Option zq85.R) (c2 : ByteArray → Int → Int → Option zq85.R) : Option zq85.R :=
 bif (decide ((a0.size : Int) > 100)) then
  some (0, ([] : List S41), false)
 else
 (zq77.g N a0 58).bind fun r1 =>
 bif ((r1.length : Int) != 2) then
  some (0, ([] : List S41), false)
 else
 bif (decide (0 < (r1.length : Int))) then
  (r1[(0 : Int).toNat]?).bind fun x2 =>
  (zq75.g N x2).bind fun r3 =>
  bif (decide (1 < (r1.length : Int))) then
   (r1[(1 : Int).toNat]?).bind fun x4 =>
   bif (decide ((x4.size : Int) > 0)) then
    bif (decide (1 < (r1.length : Int))) then
     (r1[(1 : Int).toNat]?).bind fun x5 =>
     (zq77.g N x5 44).bind fun r6 =>
     c1 a0 r6 (r6.length : Int) 0 0 r3
    else
    none
   else
   c2 a0 0 r3
  else
  none
 else
 none
theorem zq85.o0.run (N : Nat) (H127 : Code) (H4052 : Code) (a0 : ByteArray) : runC zq85.C (zq85.O N) N (.seq zq85.c2 (.seq zq85.c6 (.seq zq85.c14 (.seq zq85.c30 (.seq zq85.c62 (.seq (.seq zq85.c252 (.cond (.tmp 28) (.seq zq85.c1012 (.block 0 (.loop H4052))) zq85.c507)) H127)))))) 1 (st0 [.one (.str a0)] [] : St D0) zq85.K0 = zq85.o0 N a0 ((fun w0 w1 w2 w3 w4 w5 => iter (loopF zq85.C (zq85.O N) N H4052 2026) N (mkSt [(0, .one (.str w0)), (2, .one (.ptr 2 0)), (5, .one (.ptr 5 0)), (32, .one (.sl true 9 w1)), (33, .one (.int .i64 w2)), (34, .one (.int .i64 w3))] [(2, some (24, [.int .i64 w4, .nl])), (5, some (24, [.int .i64 w5, .nl]))] : St D0) (blockK 0 (onN (fun s => zq85.C.tidy 126 s (fun s' => runC zq85.C (zq85.O N) N H127 127 s' zq85.K0)) zq85.K0)))) ((fun w0 w1 w2 => runC zq85.C (zq85.O N) N H127 127 (mkSt [(0, .one (.str w0)), (2, .one (.ptr 2 0)), (5, .one (.ptr 5 0))] [(2, some (24, [.int .i64 w1, .nl])), (5, some (24, [.int .i64 w2, .nl]))] : St D0) zq85.K0)) := by kernel_rfl
def zq85.g (N : Nat) (a0 : ByteArray) : Option zq85.R := zq85.o0 N a0 ((fun w0 w1 w2 w3 w4 w5 => zq85.l1 N N w0 w1 w2 w3 w4 w5)) ((fun w0 w1 w2 => zq85.d2 N w0 w1 w2))
theorem zq85.c1_0 : zq85.c1 = (.seq zq85.c2 (.seq zq85.c6 (.seq zq85.c14 (.seq zq85.c30 (.seq zq85.c62 (.seq (.seq zq85.c252 (.cond (.tmp 28) (.seq zq85.c1012 (.block 0 (.loop zq85.c4052))) zq85.c507)) zq85.c127)))))) := by kernel_rfl
theorem zq85.g.run (N : Nat) (a0 : ByteArray) : runC zq85.C (zq85.O N) N zq85.c1 1 (st0 [.one (.str a0)] [] : St D0) zq85.K0 = zq85.g N a0 := by
  rw [zq85.c1_0]; unfold zq85.g; exact (zq85.o0.run N zq85.c127 zq85.c4052 a0).trans (congr (congr rfl (funext fun w0 => funext fun w1 => funext fun w2 => funext fun w3 => funext fun w4 => funext fun w5 => (zq85.loop2026 N N).1 w0 w1 w2 w3 w4 w5)) (funext fun w0 => funext fun w1 => funext fun w2 => zq85.d2.run N w0 w1 w2))
theorem zq85.good (N : Nat) (a0 : ByteArray) (r : zq85.R) (h : zq85.g N a0 = some r) : Go.PM.Good Tryz.prog T0 61 [.one (.str a0)] [] (zq85.sig.ret r) (zq85.sig.bs r) :=
  good_fn tabOk0 mixed0 zq85.sig (zq85.E N) Tryz.func61 (by kernel_rfl) (by kernel_rfl) 4462739589565 9223407221226864640 0 [(126, [0, 2, 5], [2, 5]), (2026, [0, 2, 5, 32, 33, 34], [2, 5])] 590315022400809902592 false [] [(true, [.any, .own 41]), (false, [.any])] (by kernel_rfl) rfl rfl ((zq85.g.run N a0).trans h)
def zq85.ent (N : Nat) : Ent Tryz.prog T0 := mkEnt 61 [(false, [.any])] zq85.sig (fun t => zq85.g N t) (fun t r h => zq85.good N t r h)
/-! ### zq55 -/
abbrev zq55.R : Type := Int × List S41 × Bool
abbrev zq55.sig : Sig := ⟨[(false, 1)], [], [.str], [(true, 2), (false, 1)], [], [.int .i64, .sl true 41, .bool]⟩
def zq55.C : Cfg D0 := ⟨Tryz.prog, T0, 4157, 16384, 15, 0, [], 2176, false, []⟩
def zq55.E (N : Nat) : List (Ent Tryz.prog T0) := [zq85.ent N]
def zq55.O (N : Nat) : Orc D0 zq55.R := orcOf (zq55.E N)
def zq55.K0 : Ex → St D0 → Option zq55.R := exitK zq55.C Tryz.f34.results.toList [(true, [.any, .own 41]), (false, [.any])] (decOut zq55.sig)
def zq55.c1 : Code := codeAt (Tryz.f34.body.getD .skip) []
def zq55.o0 (N : Nat) (a0 : ByteArray) : Option zq55.R :=
 (zq85.g N a0).bind fun r1 =>
 bif (!r1.2.2) then
  some (0, ([] : List S41), false)
 else
 some (r1.1, r1.2.1, true)
theorem zq55.o0.run (N : Nat) (a0 : ByteArray) : runC zq55.C (zq55.O N) N zq55.c1 1 (st0 [.one (.str a0)] [] : St D0) zq55.K0 = zq55.o0 N a0 := by kernel_rfl
def zq55.g (N : Nat) (a0 : ByteArray) : Option zq55.R := zq55.o0 N a0
theorem zq55.g.run (N : Nat) (a0 : ByteArray) : runC zq55.C (zq55.O N) N zq55.c1 1 (st0 [.one (.str a0)] [] : St D0) zq55.K0 = zq55.g N a0 := by
  exact (zq55.o0.run N a0).trans rfl
theorem zq55.good (N : Nat) (a0 : ByteArray) (r : zq55.R) (h : zq55.g N a0 = some r) : Go.PM.Good Tryz.prog T0 34 [.one (.str a0)] [] (zq55.sig.ret r) (zq55.sig.bs r) :=
  good_fn tabOk0 mixed0 zq55.sig (zq55.E N) Tryz.func34 (by kernel_rfl) (by kernel_rfl) 4157 16384 0 [] 2176 false [] [(true, [.any, .own 41]), (false, [.any])] (by kernel_rfl) rfl rfl ((zq55.g.run N a0).trans h)
def zq55.ent (N : Nat) : Ent Tryz.prog T0 := mkEnt 34 [(false, [.any])] zq55.sig (fun t => zq55.g N t) (fun t r h => zq55.good N t r h)
end Go.Proofs.YtpeleommbipeaaaGreatDoor.M
end
