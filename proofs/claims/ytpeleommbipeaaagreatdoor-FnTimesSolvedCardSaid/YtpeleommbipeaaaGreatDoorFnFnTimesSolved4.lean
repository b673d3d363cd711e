/- What the program's functions compute, walked by the machine (part 4). No conditions but those stated. -/
import Derived.Test.YtpeleommbipeaaaGreatDoorFnFnTimesSolved3
noncomputable section
namespace Go.Proofs.YtpeleommbipeaaaGreatDoor.M
open Go Go.PM Go.Proofs.YtpeleommbipeaaaGreatDoor.P
set_option linter.unusedVariables false
set_option maxRecDepth 100000
/-! ### zq34 -/
abbrev zq34.R : Type := Bool
abbrev zq34.sig : Sig := ⟨[(true, 2), (false, 1)], [], [.int .i64, .sl false 41, .str], [(false, 1)], [], [.bool]⟩
def zq34.C : Cfg D0 := ⟨Tryz.prog, T0, 42177343641095021277996325090266777016362126809771168265585212144492764733774160110032235067294625864987618363880033689837208633898489445685048333699053439156215, 0, 545, 0, [(8388604, [1, 2, 5, 6, 9, 13, 14, 17, 21, 25, 29, 37, 314], [2]), (8388606, [1], []), (134217724, [1, 61, 62, 532], [61]), (268435412, [1, 2, 5, 9, 17, 25, 29, 37, 41, 370], [2]), (1073741658, [1, 2, 5, 9, 17, 25, 29, 37, 41, 42], [2]), (2147483322, [1, 2, 5, 9, 17, 25, 29, 37, 41, 403, 404, 405], [2]), (4294966650, [1, 2, 9, 25, 29, 37, 458, 459], [2]), (4294966654, [1, 513], []), (274877864522, [1, 2, 5, 9, 17, 25, 29, 37, 41, 42, 43, 378, 379, 380], [2]), (1099511461070, [1, 2, 5, 9, 17, 25, 29, 37, 41, 403, 404, 405, 454], [2]), (2199022925006, [1, 2, 9, 25, 29, 37, 458, 459, 499], [2])], 21594954508835228158003591198192552499358000950170250559508097698778593560060073139727453444717452242395332784978290451769053213589988915513458575598712363199496192, false, []⟩
def zq34.E (N : Nat) : List (Ent Tryz.prog T0) := [zq17.ent N, zq58.ent N, zq1.ent N, zq46.ent N, zq4.ent N, zq50.ent N, zq16.ent N, zq57.ent N, zq9.ent N, zq52.ent N, zq13.ent N, zq54.ent N, zq11.ent N, zq53.ent N, zq0.ent N, zq45.ent N, zq15.ent N, zq56.ent N, zq38.ent N, zq39.ent N, zq7.ent N, zq51.ent N, zq14.ent N, zq55.ent N, zq37.ent N, zq2.ent N, zq36.ent N, zq5.ent N, zq12.ent N, zq3.ent N]
def zq34.O (N : Nat) : Orc D0 zq34.R := orcOf (zq34.E N)
def zq34.K0 : Ex → St D0 → Option zq34.R := exitK zq34.C Tryz.f3.results.toList [(false, [.any])] (decOut zq34.sig)
def zq34.c1 : Code := codeAt (Tryz.f3.body.getD .skip) []
def zq34.c2 : Code := codeAt (Tryz.f3.body.getD .skip) [false]
def zq34.c6 : Code := codeAt (Tryz.f3.body.getD .skip) [true, false]
def zq34.c14 : Code := codeAt (Tryz.f3.body.getD .skip) [true, true, false]
def zq34.c30 : Code := codeAt (Tryz.f3.body.getD .skip) [true, true, true, false]
def zq34.c62 : Code := codeAt (Tryz.f3.body.getD .skip) [true, true, true, true, false]
def zq34.c126 : Code := codeAt (Tryz.f3.body.getD .skip) [true, true, true, true, true, false]
def zq34.c254 : Code := codeAt (Tryz.f3.body.getD .skip) [true, true, true, true, true, true, false]
def zq34.c510 : Code := codeAt (Tryz.f3.body.getD .skip) [true, true, true, true, true, true, true, false]
def zq34.c1022 : Code := codeAt (Tryz.f3.body.getD .skip) [true, true, true, true, true, true, true, true, false]
def zq34.c2046 : Code := codeAt (Tryz.f3.body.getD .skip) [true, true, true, true, true, true, true, true, true, false]
def zq34.c4094 : Code := codeAt (Tryz.f3.body.getD .skip) [true, true, true, true, true, true, true, true, true, true, false]
def zq34.c8190 : Code := codeAt (Tryz.f3.body.getD .skip) [true, true, true, true, true, true, true, true, true, true, true, false]
def zq34.c16382 : Code := codeAt (Tryz.f3.body.getD .skip) [true, true, true, true, true, true, true, true, true, true, true, true, false]
def zq34.c32766 : Code := codeAt (Tryz.f3.body.getD .skip) [true, true, true, true, true, true, true, true, true, true, true, true, true, false]
def zq34.c65534 : Code := codeAt (Tryz.f3.body.getD .skip) [true, true, true, true, true, true, true, true, true, true, true, true, true, true, false]
def zq34.c131070 : Code := codeAt (Tryz.f3.body.getD .skip) [true, true, true, true, true, true, true, true, true, true, true, true, true, true, true, false]
def zq34.c262142 : Code := codeAt (Tryz.f3.body.getD .skip) [true, true, true, true, true, true, true, true, true, true, true, true, true, true, true, true, false]
def zq34.c524286 : Code := codeAt (Tryz.f3.body.getD .skip) [true, true, true, true, true, true, true, true, true, true, true, true, true, true, true, true, true, false]
def zq34.c1048574 : Code := codeAt (Tryz.f3.body.getD .skip) [true, true, true, true, true, true, true, true, true, true, true, true, true, true, true, true, true, true, false]
def zq34.c2097150 : Code := codeAt (Tryz.f3.body.getD .skip) [true, true, true, true, true, true, true, true, true, true, true, true, true, true, true, true, true, true, true, false]
def zq34.c4194303 : Code := codeAt (Tryz.f3.body.getD .skip) [true, true, true, true, true, true, true, true, true, true, true, true, true, true, true, true, true, true, true, true, true]
def zq34.c8388604 : Code := codeAt (Tryz.f3.body.getD .skip) [true, true, true, true, true, true, true, true, true, true, true, true, true, true, true, true, true, true, true, true, false, false]
def zq34.c8388605 : Code := codeAt (Tryz.f3.body.getD .skip) [true, true, true, true, true, true, true, true, true, true, true, true, true, true, true, true, true, true, true, true, false, true]
def zq34.c8388607 : Code := codeAt (Tryz.f3.body.getD .skip) [true, true, true, true, true, true, true, true, true, true, true, true, true, true, true, true, true, true, true, true, true, true]
def zq34.c16777212 : Code := codeAt (Tryz.f3.body.getD .skip) [true, true, true, true, true, true, true, true, true, true, true, true, true, true, true, true, true, true, true, true, true, false, false]
def zq34.c16777214 : Code := codeAt (Tryz.f3.body.getD .skip) [true, true, true, true, true, true, true, true, true, true, true, true, true, true, true, true, true, true, true, true, true, true, false]
def zq34.c33554427 : Code := codeAt (Tryz.f3.body.getD .skip) [true, true, true, true, true, true, true, true, true, true, true, true, true, true, true, true, true, true, true, true, true, false, true, true]
def zq34.c33554430 : Code := codeAt (Tryz.f3.body.getD .skip) [true, true, true, true, true, true, true, true, true, true, true, true, true, true, true, true, true, true, true, true, true, true, true, false]
def zq34.c67108852 : Code := codeAt (Tryz.f3.body.getD .skip) [true, true, true, true, true, true, true, true, true, true, true, true, true, true, true, true, true, true, true, true, true, false, true, false, false]
def zq34.c67108863 : Code := codeAt (Tryz.f3.body.getD .skip) [true, true, true, true, true, true, true, true, true, true, true, true, true, true, true, true, true, true, true, true, true, true, true, true, true]
def zq34.c134217707 : Code := codeAt (Tryz.f3.body.getD .skip) [true, true, true, true, true, true, true, true, true, true, true, true, true, true, true, true, true, true, true, true, true, false, true, false, true, true]
def zq34.c134217724 : Code := codeAt (Tryz.f3.body.getD .skip) [true, true, true, true, true, true, true, true, true, true, true, true, true, true, true, true, true, true, true, true, true, true, true, true, false, false]
def zq34.c134217725 : Code := codeAt (Tryz.f3.body.getD .skip) [true, true, true, true, true, true, true, true, true, true, true, true, true, true, true, true, true, true, true, true, true, true, true, true, false, true]
def zq34.c268435412 : Code := codeAt (Tryz.f3.body.getD .skip) [true, true, true, true, true, true, true, true, true, true, true, true, true, true, true, true, true, true, true, true, true, false, true, false, true, false, false]
def zq34.c268435413 : Code := codeAt (Tryz.f3.body.getD .skip) [true, true, true, true, true, true, true, true, true, true, true, true, true, true, true, true, true, true, true, true, true, false, true, false, true, false, true]
def zq34.c268435415 : Code := codeAt (Tryz.f3.body.getD .skip) [true, true, true, true, true, true, true, true, true, true, true, true, true, true, true, true, true, true, true, true, true, false, true, false, true, true, true]
def zq34.c536870828 : Code := codeAt (Tryz.f3.body.getD .skip) [true, true, true, true, true, true, true, true, true, true, true, true, true, true, true, true, true, true, true, true, true, false, true, false, true, true, false, false]
def zq34.c536870831 : Code := codeAt (Tryz.f3.body.getD .skip) [true, true, true, true, true, true, true, true, true, true, true, true, true, true, true, true, true, true, true, true, true, false, true, false, true, true, true, true]
def zq34.c1073741660 : Code := codeAt (Tryz.f3.body.getD .skip) [true, true, true, true, true, true, true, true, true, true, true, true, true, true, true, true, true, true, true, true, true, false, true, false, true, true, true, false, false]
def zq34.c1073741663 : Code := codeAt (Tryz.f3.body.getD .skip) [true, true, true, true, true, true, true, true, true, true, true, true, true, true, true, true, true, true, true, true, true, false, true, false, true, true, true, true, true]
def zq34.c2147483316 : Code := codeAt (Tryz.f3.body.getD .skip) [true, true, true, true, true, true, true, true, true, true, true, true, true, true, true, true, true, true, true, true, true, false, true, false, true, true, false, true, false, false]
def zq34.c2147483324 : Code := codeAt (Tryz.f3.body.getD .skip) [true, true, true, true, true, true, true, true, true, true, true, true, true, true, true, true, true, true, true, true, true, false, true, false, true, true, true, true, false, false]
def zq34.c2147483326 : Code := codeAt (Tryz.f3.body.getD .skip) [true, true, true, true, true, true, true, true, true, true, true, true, true, true, true, true, true, true, true, true, true, false, true, false, true, true, true, true, true, false]
def zq34.c4294966632 : Code := codeAt (Tryz.f3.body.getD .skip) [true, true, true, true, true, true, true, true, true, true, true, true, true, true, true, true, true, true, true, true, true, false, true, false, true, true, false, true, false, false, false]
def zq34.c4294966644 : Code := codeAt (Tryz.f3.body.getD .skip) [true, true, true, true, true, true, true, true, true, true, true, true, true, true, true, true, true, true, true, true, true, false, true, false, true, true, true, false, true, false, false]
def zq34.c4294966654 : Code := codeAt (Tryz.f3.body.getD .skip) [true, true, true, true, true, true, true, true, true, true, true, true, true, true, true, true, true, true, true, true, true, false, true, false, true, true, true, true, true, true, false]
def zq34.c4294966655 : Code := codeAt (Tryz.f3.body.getD .skip) [true, true, true, true, true, true, true, true, true, true, true, true, true, true, true, true, true, true, true, true, true, false, true, false, true, true, true, true, true, true, true]
def zq34.c8589933267 : Code := codeAt (Tryz.f3.body.getD .skip) [true, true, true, true, true, true, true, true, true, true, true, true, true, true, true, true, true, true, true, true, true, false, true, false, true, true, false, true, false, false, true, true]
def zq34.c8589933288 : Code := codeAt (Tryz.f3.body.getD .skip) [true, true, true, true, true, true, true, true, true, true, true, true, true, true, true, true, true, true, true, true, true, false, true, false, true, true, true, false, true, false, false, false]
def zq34.c8589933300 : Code := codeAt (Tryz.f3.body.getD .skip) [true, true, true, true, true, true, true, true, true, true, true, true, true, true, true, true, true, true, true, true, true, false, true, false, true, true, true, true, false, true, false, false]
def zq34.c17179866578 : Code := codeAt (Tryz.f3.body.getD .skip) [true, true, true, true, true, true, true, true, true, true, true, true, true, true, true, true, true, true, true, true, true, false, true, false, true, true, true, false, true, false, false, true, false]
def zq34.c17179866600 : Code := codeAt (Tryz.f3.body.getD .skip) [true, true, true, true, true, true, true, true, true, true, true, true, true, true, true, true, true, true, true, true, true, false, true, false, true, true, true, true, false, true, false, false, false]
def zq34.c34359733064 : Code := codeAt (Tryz.f3.body.getD .skip) [true, true, true, true, true, true, true, true, true, true, true, true, true, true, true, true, true, true, true, true, true, false, true, false, true, true, false, true, false, false, true, false, false, false]
def zq34.c34359733159 : Code := codeAt (Tryz.f3.body.getD .skip) [true, true, true, true, true, true, true, true, true, true, true, true, true, true, true, true, true, true, true, true, true, false, true, false, true, true, true, false, true, false, false, true, true, true]
def zq34.c34359733202 : Code := codeAt (Tryz.f3.body.getD .skip) [true, true, true, true, true, true, true, true, true, true, true, true, true, true, true, true, true, true, true, true, true, false, true, false, true, true, true, true, false, true, false, false, true, false]
def zq34.c68719466131 : Code := codeAt (Tryz.f3.body.getD .skip) [true, true, true, true, true, true, true, true, true, true, true, true, true, true, true, true, true, true, true, true, true, false, true, false, true, true, false, true, false, false, true, false, false, true, true]
def zq34.c68719466407 : Code := codeAt (Tryz.f3.body.getD .skip) [true, true, true, true, true, true, true, true, true, true, true, true, true, true, true, true, true, true, true, true, true, false, true, false, true, true, true, true, false, true, false, false, true, true, true]
def zq34.c137438932260 : Code := codeAt (Tryz.f3.body.getD .skip) [true, true, true, true, true, true, true, true, true, true, true, true, true, true, true, true, true, true, true, true, true, false, true, false, true, true, false, true, false, false, true, false, false, true, false, false]
def zq34.c137438932632 : Code := codeAt (Tryz.f3.body.getD .skip) [true, true, true, true, true, true, true, true, true, true, true, true, true, true, true, true, true, true, true, true, true, false, true, false, true, true, true, false, true, false, false, true, true, false, false, false]
def zq34.c274877865266 : Code := codeAt (Tryz.f3.body.getD .skip) [true, true, true, true, true, true, true, true, true, true, true, true, true, true, true, true, true, true, true, true, true, false, true, false, true, true, true, false, true, false, false, true, true, false, false, true, false]
def zq34.c274877865624 : Code := codeAt (Tryz.f3.body.getD .skip) [true, true, true, true, true, true, true, true, true, true, true, true, true, true, true, true, true, true, true, true, true, false, true, false, true, true, true, true, false, true, false, false, true, true, false, false, false]
def zq34.c549755729044 : Code := codeAt (Tryz.f3.body.getD .skip) [true, true, true, true, true, true, true, true, true, true, true, true, true, true, true, true, true, true, true, true, true, false, true, false, true, true, false, true, false, false, true, false, false, true, false, true, false, false]
def zq34.c549755730534 : Code := codeAt (Tryz.f3.body.getD .skip) [true, true, true, true, true, true, true, true, true, true, true, true, true, true, true, true, true, true, true, true, true, false, true, false, true, true, true, false, true, false, false, true, true, false, false, true, true, false]
def zq34.c549755731250 : Code := codeAt (Tryz.f3.body.getD .skip) [true, true, true, true, true, true, true, true, true, true, true, true, true, true, true, true, true, true, true, true, true, false, true, false, true, true, true, true, false, true, false, false, true, true, false, false, true, false]
def zq34.c1099511461070 : Code := codeAt (Tryz.f3.body.getD .skip) [true, true, true, true, true, true, true, true, true, true, true, true, true, true, true, true, true, true, true, true, true, false, true, false, true, true, true, false, true, false, false, true, true, false, false, true, true, true, false]
def zq34.c1099511461071 : Code := codeAt (Tryz.f3.body.getD .skip) [true, true, true, true, true, true, true, true, true, true, true, true, true, true, true, true, true, true, true, true, true, false, true, false, true, true, true, false, true, false, false, true, true, false, false, true, true, true, true]
def zq34.c1099511462502 : Code := codeAt (Tryz.f3.body.getD .skip) [true, true, true, true, true, true, true, true, true, true, true, true, true, true, true, true, true, true, true, true, true, false, true, false, true, true, true, true, false, true, false, false, true, true, false, false, true, true, false]
def zq34.c2199022925006 : Code := codeAt (Tryz.f3.body.getD .skip) [true, true, true, true, true, true, true, true, true, true, true, true, true, true, true, true, true, true, true, true, true, false, true, false, true, true, true, true, false, true, false, false, true, true, false, false, true, true, true, false]
def zq34.c2199022925007 : Code := codeAt (Tryz.f3.body.getD .skip) [true, true, true, true, true, true, true, true, true, true, true, true, true, true, true, true, true, true, true, true, true, false, true, false, true, true, true, true, false, true, false, false, true, true, false, false, true, true, true, true]
def zq34.K8388607 (N : Nat) : Ex → St D0 → Option zq34.R := zq34.K0
def zq34.B4194303 (N : Nat) : St D0 → Option zq34.R := fun s' => runC zq34.C (zq34.O N) N zq34.c8388607 8388607 s' (zq34.K8388607 N)
def zq34.K549755729044 (N : Nat) (Kn1073741658 : St D0 → Option zq34.R) (Kn274877864522 : St D0 → Option zq34.R) : Ex → St D0 → Option zq34.R := ((fun up => (onN (fun s => zq34.C.tidy 274877864522 s ((onN Kn274877864522 up) .normal)) (onN Kn274877864522 up))) (blockK 2 ((fun up => (onN (fun s => zq34.C.tidy 68719466130 s (fun s' => runC zq34.C (zq34.O N) N zq34.c68719466131 68719466131 s' up)) up)) (blockK 1 ((fun up => (onN (fun s => zq34.C.tidy 8589933266 s (fun s' => runC zq34.C (zq34.O N) N zq34.c8589933267 8589933267 s' up)) up)) ((fun up => (onN (fun s => zq34.C.tidy 1073741658 s ((onN Kn1073741658 up) .normal)) (onN Kn1073741658 up))) (blockK 0 ((fun up => (onN (fun s => zq34.C.tidy 268435414 s (fun s' => runC zq34.C (zq34.O N) N zq34.c268435415 268435415 s' up)) up)) (onN (fun s => zq34.C.tidy 8388606 s (zq34.B4194303 N)) zq34.K0)))))))))
def zq34.o6 (N : Nat) (v0 : ByteArray) (v1 : List Int) (v2 : Int) (v3 : List S46) (v4 : List Int) (v5 : List Int) (v6 : ByteArray) (v7 : Int) (v8 : Int) (v9 : Bool) (v10 : List S41) (v11 : Int) (v12 : Int) (v13 : Int) (v14 : List S41) (c6 : ByteArray → (List Int) → Int → (List S46) → (List Int) → (List Int) → ByteArray → Int → Int → Bool → (List S41) → Int → Int → Int → (List S41) → Option zq34.R) (c4 : ByteArray → (List Int) → Int → (List S46) → (List Int) → (List Int) → ByteArray → Int → Int → Int → (List S41) → Option zq34.R) : Option zq34.R :=
 bif (decide (v12 < v11)) then
  bif (decide (0 ≤ v12)) then
   bif (decide (v12 < (v10.length : Int))) then
    (v10[(v12 : Int).toNat]?).bind fun x1 =>
    (zq2.g N v7 x1.f0 x1.f1 x1.f2 v8).bind fun r2 =>
    bif (!r2.2) then
     some (false)
    else
    bif v9 then
     c6 v0 v1 v2 v3 v4 v5 v6 v7 v8 r2.1 v10 v11 (w64 (v12 + 1)) v13 v14
    else
    c6 v0 v1 v2 v3 v4 v5 v6 v7 v8 false v10 v11 (w64 (v12 + 1)) v13 v14
   else
   none
  else
  none
 else
 (zq36.g N v1 v8).bind fun r3 =>
 bif (!(v9 == r3)) then
  some (false)
 else
 c4 v0 v1 v2 v3 v4 v5 v6 v7 (w64 (v8 + 1)) v13 v14
theorem zq34.o6.run (N : Nat) (Kb4194303 : St D0 → Option zq34.R) (Kn1073741658 : St D0 → Option zq34.R) (Kn274877864522 : St D0 → Option zq34.R) (v0 : ByteArray) (v1 : List Int) (v2 : Int) (v3 : List S46) (v4 : List Int) (v5 : List Int) (v6 : ByteArray) (v7 : Int) (v8 : Int) (v9 : Bool) (v10 : List S41) (v11 : Int) (v12 : Int) (v13 : Int) (v14 : List S41) : runC zq34.C (zq34.O N) N zq34.c549755729044 549755729044 (mkSt [(1, .one (.str v0)), (2, .one (.ptr 2 0)), (5, .one (.sl true 3 v1)), (9, .one (.int .i64 v2)), (17, .one (.sl true 46 v3)), (25, .one (.sl true 3 v4)), (29, .one (.sl true 3 v5)), (37, .one (.str v6)), (41, .one (.int .i64 v7)), (42, .one (.int .i64 v8)), (43, .one (.bool v9)), (378, .one (.sl false 41 v10)), (379, .one (.int .i64 v11)), (380, .one (.int .i64 v12))] [(2, some (24, [.int .i64 v13, .sl false 41 v14]))] : St D0) ((fun up => (onN (fun s => zq34.C.tidy 274877864522 s ((onN Kn274877864522 up) .normal)) (onN Kn274877864522 up))) (blockK 2 ((fun up => (onN (fun s => zq34.C.tidy 68719466130 s (fun s' => runC zq34.C (zq34.O N) N zq34.c68719466131 68719466131 s' up)) up)) (blockK 1 ((fun up => (onN (fun s => zq34.C.tidy 8589933266 s (fun s' => runC zq34.C (zq34.O N) N zq34.c8589933267 8589933267 s' up)) up)) ((fun up => (onN (fun s => zq34.C.tidy 1073741658 s ((onN Kn1073741658 up) .normal)) (onN Kn1073741658 up))) (blockK 0 ((fun up => (onN (fun s => zq34.C.tidy 268435414 s (fun s' => runC zq34.C (zq34.O N) N zq34.c268435415 268435415 s' up)) up)) (onN (fun s => zq34.C.tidy 8388606 s Kb4194303) zq34.K0))))))))) = zq34.o6 N v0 v1 v2 v3 v4 v5 v6 v7 v8 v9 v10 v11 v12 v13 v14 ((fun w0 w1 w2 w3 w4 w5 w6 w7 w8 w9 w10 w11 w12 w13 w14 => Kn274877864522 (mkSt [(1, .one (.str w0)), (2, .one (.ptr 2 0)), (5, .one (.sl true 3 w1)), (9, .one (.int .i64 w2)), (17, .one (.sl true 46 w3)), (25, .one (.sl true 3 w4)), (29, .one (.sl true 3 w5)), (37, .one (.str w6)), (41, .one (.int .i64 w7)), (42, .one (.int .i64 w8)), (43, .one (.bool w9)), (378, .one (.sl false 41 w10)), (379, .one (.int .i64 w11)), (380, .one (.int .i64 w12))] [(2, some (24, [.int .i64 w13, .sl false 41 w14]))] : St D0))) ((fun w0 w1 w2 w3 w4 w5 w6 w7 w8 w9 w10 => Kn1073741658 (mkSt [(1, .one (.str w0)), (2, .one (.ptr 2 0)), (5, .one (.sl true 3 w1)), (9, .one (.int .i64 w2)), (17, .one (.sl true 46 w3)), (25, .one (.sl true 3 w4)), (29, .one (.sl true 3 w5)), (37, .one (.str w6)), (41, .one (.int .i64 w7)), (42, .one (.int .i64 w8))] [(2, some (24, [.int .i64 w9, .sl false 41 w10]))] : St D0))) := by kernel_rfl
def zq34.d6 (N : Nat) (v0 : ByteArray) (v1 : List Int) (v2 : Int) (v3 : List S46) (v4 : List Int) (v5 : List Int) (v6 : ByteArray) (v7 : Int) (v8 : Int) (v9 : Bool) (v10 : List S41) (v11 : Int) (v12 : Int) (v13 : Int) (v14 : List S41) (c4 : ByteArray → (List Int) → Int → (List S46) → (List Int) → (List Int) → ByteArray → Int → Int → Int → (List S41) → Option zq34.R) (c6 : ByteArray → (List Int) → Int → (List S46) → (List Int) → (List Int) → ByteArray → Int → Int → Bool → (List S41) → Int → Int → Int → (List S41) → Option zq34.R) : Option zq34.R := zq34.o6 N v0 v1 v2 v3 v4 v5 v6 v7 v8 v9 v10 v11 v12 v13 v14 c6 c4
theorem zq34.d6.run (N : Nat) (Kn1073741658 : St D0 → Option zq34.R) (Kn274877864522 : St D0 → Option zq34.R) (v0 : ByteArray) (v1 : List Int) (v2 : Int) (v3 : List S46) (v4 : List Int) (v5 : List Int) (v6 : ByteArray) (v7 : Int) (v8 : Int) (v9 : Bool) (v10 : List S41) (v11 : Int) (v12 : Int) (v13 : Int) (v14 : List S41) : runC zq34.C (zq34.O N) N zq34.c549755729044 549755729044 (mkSt [(1, .one (.str v0)), (2, .one (.ptr 2 0)), (5, .one (.sl true 3 v1)), (9, .one (.int .i64 v2)), (17, .one (.sl true 46 v3)), (25, .one (.sl true 3 v4)), (29, .one (.sl true 3 v5)), (37, .one (.str v6)), (41, .one (.int .i64 v7)), (42, .one (.int .i64 v8)), (43, .one (.bool v9)), (378, .one (.sl false 41 v10)), (379, .one (.int .i64 v11)), (380, .one (.int .i64 v12))] [(2, some (24, [.int .i64 v13, .sl false 41 v14]))] : St D0) (zq34.K549755729044 N Kn1073741658 Kn274877864522) = zq34.d6 N v0 v1 v2 v3 v4 v5 v6 v7 v8 v9 v10 v11 v12 v13 v14 ((fun w0 w1 w2 w3 w4 w5 w6 w7 w8 w9 w10 => Kn1073741658 (mkSt [(1, .one (.str w0)), (2, .one (.ptr 2 0)), (5, .one (.sl true 3 w1)), (9, .one (.int .i64 w2)), (17, .one (.sl true 46 w3)), (25, .one (.sl true 3 w4)), (29, .one (.sl true 3 w5)), (37, .one (.str w6)), (41, .one (.int .i64 w7)), (42, .one (.int .i64 w8))] [(2, some (24, [.int .i64 w9, .sl false 41 w10]))] : St D0))) ((fun w0 w1 w2 w3 w4 w5 w6 w7 w8 w9 w10 w11 w12 w13 w14 => Kn274877864522 (mkSt [(1, .one (.str w0)), (2, .one (.ptr 2 0)), (5, .one (.sl true 3 w1)), (9, .one (.int .i64 w2)), (17, .one (.sl true 46 w3)), (25, .one (.sl true 3 w4)), (29, .one (.sl true 3 w5)), (37, .one (.str w6)), (41, .one (.int .i64 w7)), (42, .one (.int .i64 w8)), (43, .one (.bool w9)), (378, .one (.sl false 41 w10)), (379, .one (.int .i64 w11)), (380, .one (.int .i64 w12))] [(2, some (24, [.int .i64 w13, .sl false 41 w14]))] : St D0))) := by
  exact (zq34.o6.run N (zq34.B4194303 N) Kn1073741658 Kn274877864522 v0 v1 v2 v3 v4 v5 v6 v7 v8 v9 v10 v11 v12 v13 v14).trans rfl
def zq34.K274877864522 (N : Nat) (Kn1073741658 : St D0 → Option zq34.R) : Ex → St D0 → Option zq34.R := (blockK 2 ((fun up => (onN (fun s => zq34.C.tidy 68719466130 s (fun s' => runC zq34.C (zq34.O N) N zq34.c68719466131 68719466131 s' up)) up)) (blockK 1 ((fun up => (onN (fun s => zq34.C.tidy 8589933266 s (fun s' => runC zq34.C (zq34.O N) N zq34.c8589933267 8589933267 s' up)) up)) ((fun up => (onN (fun s => zq34.C.tidy 1073741658 s ((onN Kn1073741658 up) .normal)) (onN Kn1073741658 up))) (blockK 0 ((fun up => (onN (fun s => zq34.C.tidy 268435414 s (fun s' => runC zq34.C (zq34.O N) N zq34.c268435415 268435415 s' up)) up)) (onN (fun s => zq34.C.tidy 8388606 s (zq34.B4194303 N)) zq34.K0))))))))
def zq34.l6 (N : Nat) : Nat → ByteArray → (List Int) → Int → (List S46) → (List Int) → (List Int) → ByteArray → Int → Int → Bool → (List S41) → Int → Int → Int → (List S41) → (ByteArray → (List Int) → Int → (List S46) → (List Int) → (List Int) → ByteArray → Int → Int → Int → (List S41) → Option zq34.R) → Option zq34.R
  | 0, _, _, _, _, _, _, _, _, _, _, _, _, _, _, _, _ => none
  | n + 1, v0, v1, v2, v3, v4, v5, v6, v7, v8, v9, v10, v11, v12, v13, v14, c4 => zq34.d6 N v0 v1 v2 v3 v4 v5 v6 v7 v8 v9 v10 v11 v12 v13 v14 c4 ((fun w0 w1 w2 w3 w4 w5 w6 w7 w8 w9 w10 w11 w12 w13 w14 => zq34.l6 N n w0 w1 w2 w3 w4 w5 w6 w7 w8 w9 w10 w11 w12 w13 w14 c4))
theorem zq34.loop274877864522 (N : Nat) (Kn1073741658 : St D0 → Option zq34.R) : ∀ n, (∀ (v0 : ByteArray) (v1 : List Int) (v2 : Int) (v3 : List S46) (v4 : List Int) (v5 : List Int) (v6 : ByteArray) (v7 : Int) (v8 : Int) (v9 : Bool) (v10 : List S41) (v11 : Int) (v12 : Int) (v13 : Int) (v14 : List S41), iter (loopF zq34.C (zq34.O N) N zq34.c549755729044 274877864522) n (mkSt [(1, .one (.str v0)), (2, .one (.ptr 2 0)), (5, .one (.sl true 3 v1)), (9, .one (.int .i64 v2)), (17, .one (.sl true 46 v3)), (25, .one (.sl true 3 v4)), (29, .one (.sl true 3 v5)), (37, .one (.str v6)), (41, .one (.int .i64 v7)), (42, .one (.int .i64 v8)), (43, .one (.bool v9)), (378, .one (.sl false 41 v10)), (379, .one (.int .i64 v11)), (380, .one (.int .i64 v12))] [(2, some (24, [.int .i64 v13, .sl false 41 v14]))] : St D0) (zq34.K274877864522 N Kn1073741658) = zq34.l6 N n v0 v1 v2 v3 v4 v5 v6 v7 v8 v9 v10 v11 v12 v13 v14 ((fun w0 w1 w2 w3 w4 w5 w6 w7 w8 w9 w10 => Kn1073741658 (mkSt [(1, .one (.str w0)), (2, .one (.ptr 2 0)), (5, .one (.sl true 3 w1)), (9, .one (.int .i64 w2)), (17, .one (.sl true 46 w3)), (25, .one (.sl true 3 w4)), (29, .one (.sl true 3 w5)), (37, .one (.str w6)), (41, .one (.int .i64 w7)), (42, .one (.int .i64 w8))] [(2, some (24, [.int .i64 w9, .sl false 41 w10]))] : St D0))))
  | 0 => (fun v0 v1 v2 v3 v4 v5 v6 v7 v8 v9 v10 v11 v12 v13 v14 => rfl)
  | n + 1 => (fun v0 v1 v2 v3 v4 v5 v6 v7 v8 v9 v10 v11 v12 v13 v14 => (zq34.d6.run N Kn1073741658 (fun s => iter (loopF zq34.C (zq34.O N) N zq34.c549755729044 274877864522) n s (zq34.K274877864522 N Kn1073741658)) v0 v1 v2 v3 v4 v5 v6 v7 v8 v9 v10 v11 v12 v13 v14).trans (show _ = zq34.d6 N v0 v1 v2 v3 v4 v5 v6 v7 v8 v9 v10 v11 v12 v13 v14 ((fun w0 w1 w2 w3 w4 w5 w6 w7 w8 w9 w10 => Kn1073741658 (mkSt [(1, .one (.str w0)), (2, .one (.ptr 2 0)), (5, .one (.sl true 3 w1)), (9, .one (.int .i64 w2)), (17, .one (.sl true 46 w3)), (25, .one (.sl true 3 w4)), (29, .one (.sl true 3 w5)), (37, .one (.str w6)), (41, .one (.int .i64 w7)), (42, .one (.int .i64 w8))] [(2, some (24, [.int .i64 w9, .sl false 41 w10]))] : St D0))) ((fun w0 w1 w2 w3 w4 w5 w6 w7 w8 w9 w10 w11 w12 w13 w14 => zq34.l6 N n w0 w1 w2 w3 w4 w5 w6 w7 w8 w9 w10 w11 w12 w13 w14 ((fun w0 w1 w2 w3 w4 w5 w6 w7 w8 w9 w10 => Kn1073741658 (mkSt [(1, .one (.str w0)), (2, .one (.ptr 2 0)), (5, .one (.sl true 3 w1)), (9, .one (.int .i64 w2)), (17, .one (.sl true 46 w3)), (25, .one (.sl true 3 w4)), (29, .one (.sl true 3 w5)), (37, .one (.str w6)), (41, .one (.int .i64 w7)), (42, .one (.int .i64 w8))] [(2, some (24, [.int .i64 w9, .sl false 41 w10]))] : St D0))))) from (congr (congr rfl rfl) (funext fun w0 => funext fun w1 => funext fun w2 => funext fun w3 => funext fun w4 => funext fun w5 => funext fun w6 => funext fun w7 => funext fun w8 => funext fun w9 => funext fun w10 => funext fun w11 => funext fun w12 => funext fun w13 => funext fun w14 => (zq34.loop274877864522 N Kn1073741658 n) w0 w1 w2 w3 w4 w5 w6 w7 w8 w9 w10 w11 w12 w13 w14))))
def zq34.K1099511461071 (N : Nat) (Kn2147483322 : St D0 → Option zq34.R) : Ex → St D0 → Option zq34.R := (blockK 5 ((fun up => (onN (fun s => zq34.C.tidy 34359733158 s (fun s' => runC zq34.C (zq34.O N) N zq34.c34359733159 34359733159 s' up)) up)) ((fun up => (onN (fun s => zq34.C.tidy 2147483322 s ((onN Kn2147483322 up) .normal)) (onN Kn2147483322 up))) (blockK 4 ((fun up => (onN (fun s => zq34.C.tidy 536870830 s (fun s' => runC zq34.C (zq34.O N) N zq34.c536870831 536870831 s' up)) up)) (onN (fun s => zq34.C.tidy 8388606 s (zq34.B4194303 N)) zq34.K0))))))
def zq34.o8 (N : Nat) (v0 : ByteArray) (v1 : List Int) (v2 : Int) (v3 : List S46) (v4 : List Int) (v5 : List Int) (v6 : ByteArray) (v7 : Int) (v8 : List Int) (v9 : Int) (v10 : Int) (v11 : Bool) (v12 : Int) (v13 : List S41) (c7 : ByteArray → (List Int) → Int → (List S46) → (List Int) → (List Int) → ByteArray → Int → (List Int) → Int → Int → Int → (List S41) → Option zq34.R) : Option zq34.R :=
 bif v11 then
  some (false)
 else
 c7 v0 v1 v2 v3 v4 v5 v6 v7 v8 v9 (w64 (v10 + 1)) v12 v13
theorem zq34.o8.run (N : Nat) (Kb4194303 : St D0 → Option zq34.R) (Kn2147483322 : St D0 → Option zq34.R) (v0 : ByteArray) (v1 : List Int) (v2 : Int) (v3 : List S46) (v4 : List Int) (v5 : List Int) (v6 : ByteArray) (v7 : Int) (v8 : List Int) (v9 : Int) (v10 : Int) (v11 : Bool) (v12 : Int) (v13 : List S41) : runC zq34.C (zq34.O N) N zq34.c1099511461071 1099511461071 (mkSt [(1, .one (.str v0)), (2, .one (.ptr 2 0)), (5, .one (.sl false 3 v1)), (9, .one (.int .i64 v2)), (17, .one (.sl true 46 v3)), (25, .one (.sl true 3 v4)), (29, .one (.sl true 3 v5)), (37, .one (.str v6)), (41, .one (.int .i64 v7)), (403, .one (.sl true 3 v8)), (404, .one (.int .i64 v9)), (405, .one (.int .i64 v10)), (454, .one (.bool v11))] [(2, some (24, [.int .i64 v12, .sl false 41 v13]))] : St D0) (blockK 5 ((fun up => (onN (fun s => zq34.C.tidy 34359733158 s (fun s' => runC zq34.C (zq34.O N) N zq34.c34359733159 34359733159 s' up)) up)) ((fun up => (onN (fun s => zq34.C.tidy 2147483322 s ((onN Kn2147483322 up) .normal)) (onN Kn2147483322 up))) (blockK 4 ((fun up => (onN (fun s => zq34.C.tidy 536870830 s (fun s' => runC zq34.C (zq34.O N) N zq34.c536870831 536870831 s' up)) up)) (onN (fun s => zq34.C.tidy 8388606 s Kb4194303) zq34.K0)))))) = zq34.o8 N v0 v1 v2 v3 v4 v5 v6 v7 v8 v9 v10 v11 v12 v13 ((fun w0 w1 w2 w3 w4 w5 w6 w7 w8 w9 w10 w11 w12 => Kn2147483322 (mkSt [(1, .one (.str w0)), (2, .one (.ptr 2 0)), (5, .one (.sl false 3 w1)), (9, .one (.int .i64 w2)), (17, .one (.sl true 46 w3)), (25, .one (.sl true 3 w4)), (29, .one (.sl true 3 w5)), (37, .one (.str w6)), (41, .one (.int .i64 w7)), (403, .one (.sl true 3 w8)), (404, .one (.int .i64 w9)), (405, .one (.int .i64 w10))] [(2, some (24, [.int .i64 w11, .sl false 41 w12]))] : St D0))) := by kernel_rfl
def zq34.d8 (N : Nat) (v0 : ByteArray) (v1 : List Int) (v2 : Int) (v3 : List S46) (v4 : List Int) (v5 : List Int) (v6 : ByteArray) (v7 : Int) (v8 : List Int) (v9 : Int) (v10 : Int) (v11 : Bool) (v12 : Int) (v13 : List S41) (c7 : ByteArray → (List Int) → Int → (List S46) → (List Int) → (List Int) → ByteArray → Int → (List Int) → Int → Int → Int → (List S41) → Option zq34.R) : Option zq34.R := zq34.o8 N v0 v1 v2 v3 v4 v5 v6 v7 v8 v9 v10 v11 v12 v13 c7
theorem zq34.d8.run (N : Nat) (Kn2147483322 : St D0 → Option zq34.R) (v0 : ByteArray) (v1 : List Int) (v2 : Int) (v3 : List S46) (v4 : List Int) (v5 : List Int) (v6 : ByteArray) (v7 : Int) (v8 : List Int) (v9 : Int) (v10 : Int) (v11 : Bool) (v12 : Int) (v13 : List S41) : runC zq34.C (zq34.O N) N zq34.c1099511461071 1099511461071 (mkSt [(1, .one (.str v0)), (2, .one (.ptr 2 0)), (5, .one (.sl false 3 v1)), (9, .one (.int .i64 v2)), (17, .one (.sl true 46 v3)), (25, .one (.sl true 3 v4)), (29, .one (.sl true 3 v5)), (37, .one (.str v6)), (41, .one (.int .i64 v7)), (403, .one (.sl true 3 v8)), (404, .one (.int .i64 v9)), (405, .one (.int .i64 v10)), (454, .one (.bool v11))] [(2, some (24, [.int .i64 v12, .sl false 41 v13]))] : St D0) (zq34.K1099511461071 N Kn2147483322) = zq34.d8 N v0 v1 v2 v3 v4 v5 v6 v7 v8 v9 v10 v11 v12 v13 ((fun w0 w1 w2 w3 w4 w5 w6 w7 w8 w9 w10 w11 w12 => Kn2147483322 (mkSt [(1, .one (.str w0)), (2, .one (.ptr 2 0)), (5, .one (.sl false 3 w1)), (9, .one (.int .i64 w2)), (17, .one (.sl true 46 w3)), (25, .one (.sl true 3 w4)), (29, .one (.sl true 3 w5)), (37, .one (.str w6)), (41, .one (.int .i64 w7)), (403, .one (.sl true 3 w8)), (404, .one (.int .i64 w9)), (405, .one (.int .i64 w10))] [(2, some (24, [.int .i64 w11, .sl false 41 w12]))] : St D0))) := by
  exact (zq34.o8.run N (zq34.B4194303 N) Kn2147483322 v0 v1 v2 v3 v4 v5 v6 v7 v8 v9 v10 v11 v12 v13).trans rfl
def zq34.K2199022925007 (N : Nat) (Kn4294966650 : St D0 → Option zq34.R) : Ex → St D0 → Option zq34.R := (blockK 7 ((fun up => (onN (fun s => zq34.C.tidy 68719466406 s (fun s' => runC zq34.C (zq34.O N) N zq34.c68719466407 68719466407 s' up)) up)) ((fun up => (onN (fun s => zq34.C.tidy 4294966650 s ((onN Kn4294966650 up) .normal)) (onN Kn4294966650 up))) (blockK 6 ((fun up => (onN (fun s => zq34.C.tidy 1073741662 s (fun s' => runC zq34.C (zq34.O N) N zq34.c1073741663 1073741663 s' up)) up)) (onN (fun s => zq34.C.tidy 8388606 s (zq34.B4194303 N)) zq34.K0))))))
def zq34.o10 (N : Nat) (v0 : ByteArray) (v1 : Int) (v2 : List Int) (v3 : List Int) (v4 : ByteArray) (v5 : Int) (v6 : Int) (v7 : Bool) (v8 : Int) (v9 : List S41) (c9 : ByteArray → Int → (List Int) → (List Int) → ByteArray → Int → Int → Int → (List S41) → Option zq34.R) : Option zq34.R :=
 bif v7 then
  some (false)
 else
 c9 v0 v1 v2 v3 v4 v5 (w64 (v6 + 1)) v8 v9
theorem zq34.o10.run (N : Nat) (Kb4194303 : St D0 → Option zq34.R) (Kn4294966650 : St D0 → Option zq34.R) (v0 : ByteArray) (v1 : Int) (v2 : List Int) (v3 : List Int) (v4 : ByteArray) (v5 : Int) (v6 : Int) (v7 : Bool) (v8 : Int) (v9 : List S41) : runC zq34.C (zq34.O N) N zq34.c2199022925007 2199022925007 (mkSt [(1, .one (.str v0)), (2, .one (.ptr 2 0)), (9, .one (.int .i64 v1)), (25, .one (.sl true 3 v2)), (29, .one (.sl true 3 v3)), (37, .one (.str v4)), (458, .one (.int .i64 v5)), (459, .one (.int .i64 v6)), (499, .one (.bool v7))] [(2, some (24, [.int .i64 v8, .sl false 41 v9]))] : St D0) (blockK 7 ((fun up => (onN (fun s => zq34.C.tidy 68719466406 s (fun s' => runC zq34.C (zq34.O N) N zq34.c68719466407 68719466407 s' up)) up)) ((fun up => (onN (fun s => zq34.C.tidy 4294966650 s ((onN Kn4294966650 up) .normal)) (onN Kn4294966650 up))) (blockK 6 ((fun up => (onN (fun s => zq34.C.tidy 1073741662 s (fun s' => runC zq34.C (zq34.O N) N zq34.c1073741663 1073741663 s' up)) up)) (onN (fun s => zq34.C.tidy 8388606 s Kb4194303) zq34.K0)))))) = zq34.o10 N v0 v1 v2 v3 v4 v5 v6 v7 v8 v9 ((fun w0 w1 w2 w3 w4 w5 w6 w7 w8 => Kn4294966650 (mkSt [(1, .one (.str w0)), (2, .one (.ptr 2 0)), (9, .one (.int .i64 w1)), (25, .one (.sl true 3 w2)), (29, .one (.sl true 3 w3)), (37, .one (.str w4)), (458, .one (.int .i64 w5)), (459, .one (.int .i64 w6))] [(2, some (24, [.int .i64 w7, .sl false 41 w8]))] : St D0))) := by kernel_rfl
def zq34.d10 (N : Nat) (v0 : ByteArray) (v1 : Int) (v2 : List Int) (v3 : List Int) (v4 : ByteArray) (v5 : Int) (v6 : Int) (v7 : Bool) (v8 : Int) (v9 : List S41) (c9 : ByteArray → Int → (List Int) → (List Int) → ByteArray → Int → Int → Int → (List S41) → Option zq34.R) : Option zq34.R := zq34.o10 N v0 v1 v2 v3 v4 v5 v6 v7 v8 v9 c9
theorem zq34.d10.run (N : Nat) (Kn4294966650 : St D0 → Option zq34.R) (v0 : ByteArray) (v1 : Int) (v2 : List Int) (v3 : List Int) (v4 : ByteArray) (v5 : Int) (v6 : Int) (v7 : Bool) (v8 : Int) (v9 : List S41) : runC zq34.C (zq34.O N) N zq34.c2199022925007 2199022925007 (mkSt [(1, .one (.str v0)), (2, .one (.ptr 2 0)), (9, .one (.int .i64 v1)), (25, .one (.sl true 3 v2)), (29, .one (.sl true 3 v3)), (37, .one (.str v4)), (458, .one (.int .i64 v5)), (459, .one (.int .i64 v6)), (499, .one (.bool v7))] [(2, some (24, [.int .i64 v8, .sl false 41 v9]))] : St D0) (zq34.K2199022925007 N Kn4294966650) = zq34.d10 N v0 v1 v2 v3 v4 v5 v6 v7 v8 v9 ((fun w0 w1 w2 w3 w4 w5 w6 w7 w8 => Kn4294966650 (mkSt [(1, .one (.str w0)), (2, .one (.ptr 2 0)), (9, .one (.int .i64 w1)), (25, .one (.sl true 3 w2)), (29, .one (.sl true 3 w3)), (37, .one (.str w4)), (458, .one (.int .i64 w5)), (459, .one (.int .i64 w6))] [(2, some (24, [.int .i64 w7, .sl false 41 w8]))] : St D0))) := by
  exact (zq34.o10.run N (zq34.B4194303 N) Kn4294966650 v0 v1 v2 v3 v4 v5 v6 v7 v8 v9).trans rfl
def zq34.K134217725 (N : Nat) : Ex → St D0 → Option zq34.R := (onN (fun s => zq34.C.tidy 67108862 s (fun s' => runC zq34.C (zq34.O N) N zq34.c67108863 67108863 s' zq34.K0)) zq34.K0)
def zq34.o5 (N : Nat) (v0 : ByteArray) (v1 : Bool) (v2 : Bool) (v3 : Int) (v4 : List S41) : Option zq34.R :=
 bif v2 then
  some (false)
 else
 bif v1 then
  (zq15.g N v3 v4).bind fun r1 =>
  bif r1.2 then
   some ((r1.1.toList == v0.toList))
  else
  some (false)
 else
 some (true)
theorem zq34.o5.run (N : Nat) (v0 : ByteArray) (v1 : Bool) (v2 : Bool) (v3 : Int) (v4 : List S41) : runC zq34.C (zq34.O N) N zq34.c134217725 134217725 (mkSt [(1, .one (.str v0)), (61, .one (.ptr 61 0)), (62, .one (.bool v1)), (532, .one (.bool v2))] [(61, some (24, [.int .i64 v3, .sl true 41 v4]))] : St D0) (onN (fun s => zq34.C.tidy 67108862 s (fun s' => runC zq34.C (zq34.O N) N zq34.c67108863 67108863 s' zq34.K0)) zq34.K0) = zq34.o5 N v0 v1 v2 v3 v4 := by kernel_rfl
def zq34.d5 (N : Nat) (v0 : ByteArray) (v1 : Bool) (v2 : Bool) (v3 : Int) (v4 : List S41) : Option zq34.R := zq34.o5 N v0 v1 v2 v3 v4
theorem zq34.d5.run (N : Nat) (v0 : ByteArray) (v1 : Bool) (v2 : Bool) (v3 : Int) (v4 : List S41) : runC zq34.C (zq34.O N) N zq34.c134217725 134217725 (mkSt [(1, .one (.str v0)), (61, .one (.ptr 61 0)), (62, .one (.bool v1)), (532, .one (.bool v2))] [(61, some (24, [.int .i64 v3, .sl true 41 v4]))] : St D0) (zq34.K134217725 N) = zq34.d5 N v0 v1 v2 v3 v4 := by
  exact (zq34.o5.run N v0 v1 v2 v3 v4).trans rfl
def zq34.o3 (N : Nat) (v0 : ByteArray) (c5 : ByteArray → Bool → Bool → Int → (List S41) → Option zq34.R) : Option zq34.R :=
 (zq14.g N v0).bind fun r1 =>
 (zq55.g N v0).bind fun r2 =>
 bif (!(r1.2.2 == r2.2.2)) then
  c5 v0 r1.2.2 true r1.1 r1.2.1
 else
 (zq37.g N r1.1 r1.2.1 r2.1 r2.2.1).bind fun r3 =>
 c5 v0 r1.2.2 (!r3) r1.1 r1.2.1
theorem zq34.o3.run (N : Nat) (H134217725 : Code) (v0 : ByteArray) : runC zq34.C (zq34.O N) N (.seq zq34.c16777214 (.seq zq34.c33554430 (.seq (.seq zq34.c134217724 H134217725) zq34.c67108863))) 8388607 (mkSt [(1, .one (.str v0))] [] : St D0) zq34.K0 = zq34.o3 N v0 ((fun w0 w1 w2 w3 w4 => runC zq34.C (zq34.O N) N H134217725 134217725 (mkSt [(1, .one (.str w0)), (61, .one (.ptr 61 0)), (62, .one (.bool w1)), (532, .one (.bool w2))] [(61, some (24, [.int .i64 w3, .sl true 41 w4]))] : St D0) (onN (fun s => zq34.C.tidy 67108862 s (fun s' => runC zq34.C (zq34.O N) N zq34.c67108863 67108863 s' zq34.K0)) zq34.K0))) := by kernel_rfl
def zq34.d3 (N : Nat) (v0 : ByteArray) : Option zq34.R := zq34.o3 N v0 ((fun w0 w1 w2 w3 w4 => zq34.d5 N w0 w1 w2 w3 w4))
theorem zq34.c8388607_3 : zq34.c8388607 = (.seq zq34.c16777214 (.seq zq34.c33554430 (.seq (.seq zq34.c134217724 zq34.c134217725) zq34.c67108863))) := by kernel_rfl
theorem zq34.d3.run (N : Nat) (v0 : ByteArray) : runC zq34.C (zq34.O N) N zq34.c8388607 8388607 (mkSt [(1, .one (.str v0))] [] : St D0) (zq34.K8388607 N) = zq34.d3 N v0 := by
  rw [zq34.c8388607_3]; unfold zq34.d3; exact (zq34.o3.run N zq34.c134217725 v0).trans (congr rfl (funext fun w0 => funext fun w1 => funext fun w2 => funext fun w3 => funext fun w4 => zq34.d5.run N w0 w1 w2 w3 w4))
def zq34.K4294966655 (N : Nat) : Ex → St D0 → Option zq34.R := (onN (fun s => zq34.C.tidy 8388606 s (zq34.B4194303 N)) zq34.K0)
def zq34.o11 (N : Nat) (v0 : ByteArray) (v1 : Bool) (c3 : ByteArray → Option zq34.R) : Option zq34.R :=
 bif v1 then
  some (false)
 else
 c3 v0
theorem zq34.o11.run (N : Nat) (Kb4194303 : St D0 → Option zq34.R) (v0 : ByteArray) (v1 : Bool) : runC zq34.C (zq34.O N) N zq34.c4294966655 4294966655 (mkSt [(1, .one (.str v0)), (513, .one (.bool v1))] [] : St D0) (onN (fun s => zq34.C.tidy 8388606 s Kb4194303) zq34.K0) = zq34.o11 N v0 v1 ((fun w0 => Kb4194303 (mkSt [(1, .one (.str w0))] [] : St D0))) := by kernel_rfl
def zq34.d11 (N : Nat) (v0 : ByteArray) (v1 : Bool) : Option zq34.R := zq34.o11 N v0 v1 ((fun w0 => zq34.d3 N w0))
theorem zq34.d11.run (N : Nat) (v0 : ByteArray) (v1 : Bool) : runC zq34.C (zq34.O N) N zq34.c4294966655 4294966655 (mkSt [(1, .one (.str v0)), (513, .one (.bool v1))] [] : St D0) (zq34.K4294966655 N) = zq34.d11 N v0 v1 := by
  unfold zq34.d11; exact (zq34.o11.run N (zq34.B4194303 N) v0 v1).trans (congr rfl (funext fun w0 => zq34.d3.run N w0))
def zq34.K8589933300 (N : Nat) (Kn4294966650 : St D0 → Option zq34.R) : Ex → St D0 → Option zq34.R := ((fun up => (onN (fun s => zq34.C.tidy 4294966650 s ((onN Kn4294966650 up) .normal)) (onN Kn4294966650 up))) (blockK 6 ((fun up => (onN (fun s => zq34.C.tidy 1073741662 s (fun s' => runC zq34.C (zq34.O N) N zq34.c1073741663 1073741663 s' up)) up)) (onN (fun s => zq34.C.tidy 8388606 s (zq34.B4194303 N)) zq34.K0))))
def zq34.o9 (N : Nat) (v0 : ByteArray) (v1 : Int) (v2 : List Int) (v3 : List Int) (v4 : ByteArray) (v5 : Int) (v6 : Int) (v7 : Int) (v8 : List S41) (c10 : ByteArray → Int → (List Int) → (List Int) → ByteArray → Int → Int → Bool → Int → (List S41) → Option zq34.R) (c11 : ByteArray → Bool → Option zq34.R) : Option zq34.R :=
 bif (decide (v6 < v5)) then
  (zq3.g N v7 v8 v6).bind fun r1 =>
  (zq1.g N r1.1 r1.2.1).bind fun r2 =>
  bif (!r1.2.2) then
   c10 v0 v1 v2 v3 v4 v5 v6 true v7 v8
  else
  bif (!r2.2) then
   c10 v0 v1 v2 v3 v4 v5 v6 true v7 v8
  else
  (zq36.g N v2 v6).bind fun r3 =>
  bif (!(r3 == (r2.1 == v1))) then
   c10 v0 v1 v2 v3 v4 v5 v6 true v7 v8
  else
  bif (decide (0 ≤ (w64 (v6 + 1)))) then
   bif (decide ((w64 (v6 + 1)) < (v3.length : Int))) then
    (v3[((w64 (v6 + 1)) : Int).toNat]?).bind fun x4 =>
    bif (decide (0 ≤ v6)) then
     bif (decide (v6 < (v3.length : Int))) then
      (v3[(v6 : Int).toNat]?).bind fun x5 =>
      c10 v0 v1 v2 v3 v4 v5 v6 (decide (x4 > x5)) v7 v8
     else
     none
    else
    none
   else
   none
  else
  none
 else
 (zq14.g N v4).bind fun r6 =>
 bif (!r6.2.2) then
  c11 v0 true
 else
 (zq37.g N r6.1 r6.2.1 v7 v8).bind fun r7 =>
 c11 v0 (!r7)
theorem zq34.o9.run (N : Nat) (Kb4194303 : St D0 → Option zq34.R) (Kn4294966650 : St D0 → Option zq34.R) (H4294966655 : Code) (H2199022925007 : Code) (v0 : ByteArray) (v1 : Int) (v2 : List Int) (v3 : List Int) (v4 : ByteArray) (v5 : Int) (v6 : Int) (v7 : Int) (v8 : List S41) : runC zq34.C (zq34.O N) N (.seq zq34.c17179866600 (.seq zq34.c34359733202 (.seq (.block 7 (.seq zq34.c274877865624 (.seq zq34.c549755731250 (.seq zq34.c1099511462502 (.seq zq34.c2199022925006 H2199022925007))))) zq34.c68719466407))) 8589933300 (mkSt [(1, .one (.str v0)), (2, .one (.ptr 2 0)), (9, .one (.int .i64 v1)), (25, .one (.sl true 3 v2)), (29, .one (.sl true 3 v3)), (37, .one (.str v4)), (458, .one (.int .i64 v5)), (459, .one (.int .i64 v6))] [(2, some (24, [.int .i64 v7, .sl false 41 v8]))] : St D0) ((fun up => (onN (fun s => zq34.C.tidy 4294966650 s ((onN Kn4294966650 up) .normal)) (onN Kn4294966650 up))) (blockK 6 ((fun up => (onN (fun s => zq34.C.tidy 1073741662 s (fun s' => runC zq34.C (zq34.O N) N (.seq zq34.c2147483326 (.seq zq34.c4294966654 H4294966655)) 1073741663 s' up)) up)) (onN (fun s => zq34.C.tidy 8388606 s Kb4194303) zq34.K0)))) = zq34.o9 N v0 v1 v2 v3 v4 v5 v6 v7 v8 ((fun w0 w1 w2 w3 w4 w5 w6 w7 w8 w9 => runC zq34.C (zq34.O N) N H2199022925007 2199022925007 (mkSt [(1, .one (.str w0)), (2, .one (.ptr 2 0)), (9, .one (.int .i64 w1)), (25, .one (.sl true 3 w2)), (29, .one (.sl true 3 w3)), (37, .one (.str w4)), (458, .one (.int .i64 w5)), (459, .one (.int .i64 w6)), (499, .one (.bool w7))] [(2, some (24, [.int .i64 w8, .sl false 41 w9]))] : St D0) (blockK 7 ((fun up => (onN (fun s => zq34.C.tidy 68719466406 s (fun s' => runC zq34.C (zq34.O N) N zq34.c68719466407 68719466407 s' up)) up)) ((fun up => (onN (fun s => zq34.C.tidy 4294966650 s ((onN Kn4294966650 up) .normal)) (onN Kn4294966650 up))) (blockK 6 ((fun up => (onN (fun s => zq34.C.tidy 1073741662 s (fun s' => runC zq34.C (zq34.O N) N (.seq zq34.c2147483326 (.seq zq34.c4294966654 H4294966655)) 1073741663 s' up)) up)) (onN (fun s => zq34.C.tidy 8388606 s Kb4194303) zq34.K0)))))))) ((fun w0 w1 => runC zq34.C (zq34.O N) N H4294966655 4294966655 (mkSt [(1, .one (.str w0)), (513, .one (.bool w1))] [] : St D0) (onN (fun s => zq34.C.tidy 8388606 s Kb4194303) zq34.K0))) := by kernel_rfl
def zq34.d9 (N : Nat) (v0 : ByteArray) (v1 : Int) (v2 : List Int) (v3 : List Int) (v4 : ByteArray) (v5 : Int) (v6 : Int) (v7 : Int) (v8 : List S41) (c9 : ByteArray → Int → (List Int) → (List Int) → ByteArray → Int → Int → Int → (List S41) → Option zq34.R) : Option zq34.R := zq34.o9 N v0 v1 v2 v3 v4 v5 v6 v7 v8 ((fun w0 w1 w2 w3 w4 w5 w6 w7 w8 w9 => zq34.d10 N w0 w1 w2 w3 w4 w5 w6 w7 w8 w9 c9)) ((fun w0 w1 => zq34.d11 N w0 w1))
theorem zq34.c8589933300_9 : zq34.c8589933300 = (.seq zq34.c17179866600 (.seq zq34.c34359733202 (.seq (.block 7 (.seq zq34.c274877865624 (.seq zq34.c549755731250 (.seq zq34.c1099511462502 (.seq zq34.c2199022925006 zq34.c2199022925007))))) zq34.c68719466407))) := by kernel_rfl
theorem zq34.d9.run (N : Nat) (Kn4294966650 : St D0 → Option zq34.R) (v0 : ByteArray) (v1 : Int) (v2 : List Int) (v3 : List Int) (v4 : ByteArray) (v5 : Int) (v6 : Int) (v7 : Int) (v8 : List S41) : runC zq34.C (zq34.O N) N zq34.c8589933300 8589933300 (mkSt [(1, .one (.str v0)), (2, .one (.ptr 2 0)), (9, .one (.int .i64 v1)), (25, .one (.sl true 3 v2)), (29, .one (.sl true 3 v3)), (37, .one (.str v4)), (458, .one (.int .i64 v5)), (459, .one (.int .i64 v6))] [(2, some (24, [.int .i64 v7, .sl false 41 v8]))] : St D0) (zq34.K8589933300 N Kn4294966650) = zq34.d9 N v0 v1 v2 v3 v4 v5 v6 v7 v8 ((fun w0 w1 w2 w3 w4 w5 w6 w7 w8 => Kn4294966650 (mkSt [(1, .one (.str w0)), (2, .one (.ptr 2 0)), (9, .one (.int .i64 w1)), (25, .one (.sl true 3 w2)), (29, .one (.sl true 3 w3)), (37, .one (.str w4)), (458, .one (.int .i64 w5)), (459, .one (.int .i64 w6))] [(2, some (24, [.int .i64 w7, .sl false 41 w8]))] : St D0))) := by
  rw [zq34.c8589933300_9]; unfold zq34.d9; exact (zq34.o9.run N (zq34.B4194303 N) Kn4294966650 zq34.c4294966655 zq34.c2199022925007 v0 v1 v2 v3 v4 v5 v6 v7 v8).trans (congr (congr rfl (funext fun w0 => funext fun w1 => funext fun w2 => funext fun w3 => funext fun w4 => funext fun w5 => funext fun w6 => funext fun w7 => funext fun w8 => funext fun w9 => zq34.d10.run N Kn4294966650 w0 w1 w2 w3 w4 w5 w6 w7 w8 w9)) (funext fun w0 => funext fun w1 => zq34.d11.run N w0 w1))
def zq34.K4294966650 (N : Nat) : Ex → St D0 → Option zq34.R := (blockK 6 ((fun up => (onN (fun s => zq34.C.tidy 1073741662 s (fun s' => runC zq34.C (zq34.O N) N zq34.c1073741663 1073741663 s' up)) up)) (onN (fun s => zq34.C.tidy 8388606 s (zq34.B4194303 N)) zq34.K0)))
def zq34.l9 (N : Nat) : Nat → ByteArray → Int → (List Int) → (List Int) → ByteArray → Int → Int → Int → (List S41) → Option zq34.R
  | 0, _, _, _, _, _, _, _, _, _ => none
  | n + 1, v0, v1, v2, v3, v4, v5, v6, v7, v8 => zq34.d9 N v0 v1 v2 v3 v4 v5 v6 v7 v8 ((fun w0 w1 w2 w3 w4 w5 w6 w7 w8 => zq34.l9 N n w0 w1 w2 w3 w4 w5 w6 w7 w8))
theorem zq34.loop4294966650 (N : Nat) : ∀ n, (∀ (v0 : ByteArray) (v1 : Int) (v2 : List Int) (v3 : List Int) (v4 : ByteArray) (v5 : Int) (v6 : Int) (v7 : Int) (v8 : List S41), iter (loopF zq34.C (zq34.O N) N zq34.c8589933300 4294966650) n (mkSt [(1, .one (.str v0)), (2, .one (.ptr 2 0)), (9, .one (.int .i64 v1)), (25, .one (.sl true 3 v2)), (29, .one (.sl true 3 v3)), (37, .one (.str v4)), (458, .one (.int .i64 v5)), (459, .one (.int .i64 v6))] [(2, some (24, [.int .i64 v7, .sl false 41 v8]))] : St D0) (zq34.K4294966650 N) = zq34.l9 N n v0 v1 v2 v3 v4 v5 v6 v7 v8)
  | 0 => (fun v0 v1 v2 v3 v4 v5 v6 v7 v8 => rfl)
  | n + 1 => (fun v0 v1 v2 v3 v4 v5 v6 v7 v8 => (zq34.d9.run N (fun s => iter (loopF zq34.C (zq34.O N) N zq34.c8589933300 4294966650) n s (zq34.K4294966650 N)) v0 v1 v2 v3 v4 v5 v6 v7 v8).trans (show _ = zq34.d9 N v0 v1 v2 v3 v4 v5 v6 v7 v8 ((fun w0 w1 w2 w3 w4 w5 w6 w7 w8 => zq34.l9 N n w0 w1 w2 w3 w4 w5 w6 w7 w8)) from (congr rfl (funext fun w0 => funext fun w1 => funext fun w2 => funext fun w3 => funext fun w4 => funext fun w5 => funext fun w6 => funext fun w7 => funext fun w8 => (zq34.loop4294966650 N n) w0 w1 w2 w3 w4 w5 w6 w7 w8))))
def zq34.K4294966644 (N : Nat) (Kn2147483322 : St D0 → Option zq34.R) : Ex → St D0 → Option zq34.R := ((fun up => (onN (fun s => zq34.C.tidy 2147483322 s ((onN Kn2147483322 up) .normal)) (onN Kn2147483322 up))) (blockK 4 ((fun up => (onN (fun s => zq34.C.tidy 536870830 s (fun s' => runC zq34.C (zq34.O N) N zq34.c536870831 536870831 s' up)) up)) (onN (fun s => zq34.C.tidy 8388606 s (zq34.B4194303 N)) zq34.K0))))
def zq34.o7 (N : Nat) (v0 : ByteArray) (v1 : List Int) (v2 : Int) (v3 : List S46) (v4 : List Int) (v5 : List Int) (v6 : ByteArray) (v7 : Int) (v8 : List Int) (v9 : Int) (v10 : Int) (v11 : Int) (v12 : List S41) (c8 : ByteArray → (List Int) → Int → (List S46) → (List Int) → (List Int) → ByteArray → Int → (List Int) → Int → Int → Bool → Int → (List S41) → Option zq34.R) (c9 : ByteArray → Int → (List Int) → (List Int) → ByteArray → Int → Int → Int → (List S41) → Option zq34.R) : Option zq34.R :=
 bif (decide (v10 < v9)) then
  bif (decide (0 ≤ v10)) then
   bif (decide (v10 < (v8.length : Int))) then
    (v8[(v10 : Int).toNat]?).bind fun x1 =>
    bif (decide (0 ≤ v10)) then
     bif (decide (v10 < (v3.length : Int))) then
      (v3[(v10 : Int).toNat]?).bind fun x2 =>
      (zq5.g N v7 x2.f0 x2.f1).bind fun r3 =>
      bif (decide (0 ≤ v10)) then
       bif (decide (v10 < (v3.length : Int))) then
        (v3[(v10 : Int).toNat]?).bind fun x4 =>
        (zq12.g N v7 x4.f0 x4.f1).bind fun r5 =>
        bif (!r3.2) then
         c8 v0 v1 v2 v3 v4 v5 v6 v7 v8 v9 v10 true v11 v12
        else
        bif (!r5.2) then
         c8 v0 v1 v2 v3 v4 v5 v6 v7 v8 v9 v10 true v11 v12
        else
        bif ((w64 ((w64 (60 * r3.1)) + r5.1)) != x1) then
         c8 v0 v1 v2 v3 v4 v5 v6 v7 v8 v9 v10 true v11 v12
        else
        bif (decide (v10 > 0)) then
         bif (decide (0 ≤ (w64 (v10 - 1)))) then
          bif (decide ((w64 (v10 - 1)) < (v1.length : Int))) then
           (v1[((w64 (v10 - 1)) : Int).toNat]?).bind fun x6 =>
           c8 v0 v1 v2 v3 v4 v5 v6 v7 v8 v9 v10 (decide (x6 ≥ x1)) v11 v12
          else
          none
         else
         none
        else
        c8 v0 v1 v2 v3 v4 v5 v6 v7 v8 v9 v10 false v11 v12
       else
       none
      else
      none
     else
     none
    else
    none
   else
   none
  else
  none
 else
 c9 v0 v2 v4 v5 v6 (v12.length : Int) 0 v11 v12
theorem zq34.o7.run (N : Nat) (Kb4194303 : St D0 → Option zq34.R) (Kn2147483322 : St D0 → Option zq34.R) (H8589933300 : Code) (H1099511461071 : Code) (v0 : ByteArray) (v1 : List Int) (v2 : Int) (v3 : List S46) (v4 : List Int) (v5 : List Int) (v6 : ByteArray) (v7 : Int) (v8 : List Int) (v9 : Int) (v10 : Int) (v11 : Int) (v12 : List S41) : runC zq34.C (zq34.O N) N (.seq zq34.c8589933288 (.seq zq34.c17179866578 (.seq (.block 5 (.seq zq34.c137438932632 (.seq zq34.c274877865266 (.seq zq34.c549755730534 (.seq zq34.c1099511461070 H1099511461071))))) zq34.c34359733159))) 4294966644 (mkSt [(1, .one (.str v0)), (2, .one (.ptr 2 0)), (5, .one (.sl false 3 v1)), (9, .one (.int .i64 v2)), (17, .one (.sl true 46 v3)), (25, .one (.sl true 3 v4)), (29, .one (.sl true 3 v5)), (37, .one (.str v6)), (41, .one (.int .i64 v7)), (403, .one (.sl true 3 v8)), (404, .one (.int .i64 v9)), (405, .one (.int .i64 v10))] [(2, some (24, [.int .i64 v11, .sl false 41 v12]))] : St D0) ((fun up => (onN (fun s => zq34.C.tidy 2147483322 s ((onN Kn2147483322 up) .normal)) (onN Kn2147483322 up))) (blockK 4 ((fun up => (onN (fun s => zq34.C.tidy 536870830 s (fun s' => runC zq34.C (zq34.O N) N (.seq (.seq zq34.c2147483324 (.block 6 (.loop H8589933300))) zq34.c1073741663) 536870831 s' up)) up)) (onN (fun s => zq34.C.tidy 8388606 s Kb4194303) zq34.K0)))) = zq34.o7 N v0 v1 v2 v3 v4 v5 v6 v7 v8 v9 v10 v11 v12 ((fun w0 w1 w2 w3 w4 w5 w6 w7 w8 w9 w10 w11 w12 w13 => runC zq34.C (zq34.O N) N H1099511461071 1099511461071 (mkSt [(1, .one (.str w0)), (2, .one (.ptr 2 0)), (5, .one (.sl false 3 w1)), (9, .one (.int .i64 w2)), (17, .one (.sl true 46 w3)), (25, .one (.sl true 3 w4)), (29, .one (.sl true 3 w5)), (37, .one (.str w6)), (41, .one (.int .i64 w7)), (403, .one (.sl true 3 w8)), (404, .one (.int .i64 w9)), (405, .one (.int .i64 w10)), (454, .one (.bool w11))] [(2, some (24, [.int .i64 w12, .sl false 41 w13]))] : St D0) (blockK 5 ((fun up => (onN (fun s => zq34.C.tidy 34359733158 s (fun s' => runC zq34.C (zq34.O N) N zq34.c34359733159 34359733159 s' up)) up)) ((fun up => (onN (fun s => zq34.C.tidy 2147483322 s ((onN Kn2147483322 up) .normal)) (onN Kn2147483322 up))) (blockK 4 ((fun up => (onN (fun s => zq34.C.tidy 536870830 s (fun s' => runC zq34.C (zq34.O N) N (.seq (.seq zq34.c2147483324 (.block 6 (.loop H8589933300))) zq34.c1073741663) 536870831 s' up)) up)) (onN (fun s => zq34.C.tidy 8388606 s Kb4194303) zq34.K0)))))))) ((fun w0 w1 w2 w3 w4 w5 w6 w7 w8 => iter (loopF zq34.C (zq34.O N) N H8589933300 4294966650) N (mkSt [(1, .one (.str w0)), (2, .one (.ptr 2 0)), (9, .one (.int .i64 w1)), (25, .one (.sl true 3 w2)), (29, .one (.sl true 3 w3)), (37, .one (.str w4)), (458, .one (.int .i64 w5)), (459, .one (.int .i64 w6))] [(2, some (24, [.int .i64 w7, .sl false 41 w8]))] : St D0) (blockK 6 ((fun up => (onN (fun s => zq34.C.tidy 1073741662 s (fun s' => runC zq34.C (zq34.O N) N zq34.c1073741663 1073741663 s' up)) up)) (onN (fun s => zq34.C.tidy 8388606 s Kb4194303) zq34.K0))))) := by kernel_rfl
def zq34.d7 (N : Nat) (v0 : ByteArray) (v1 : List Int) (v2 : Int) (v3 : List S46) (v4 : List Int) (v5 : List Int) (v6 : ByteArray) (v7 : Int) (v8 : List Int) (v9 : Int) (v10 : Int) (v11 : Int) (v12 : List S41) (c7 : ByteArray → (List Int) → Int → (List S46) → (List Int) → (List Int) → ByteArray → Int → (List Int) → Int → Int → Int → (List S41) → Option zq34.R) : Option zq34.R := zq34.o7 N v0 v1 v2 v3 v4 v5 v6 v7 v8 v9 v10 v11 v12 ((fun w0 w1 w2 w3 w4 w5 w6 w7 w8 w9 w10 w11 w12 w13 => zq34.d8 N w0 w1 w2 w3 w4 w5 w6 w7 w8 w9 w10 w11 w12 w13 c7)) ((fun w0 w1 w2 w3 w4 w5 w6 w7 w8 => zq34.l9 N N w0 w1 w2 w3 w4 w5 w6 w7 w8))
theorem zq34.c4294966644_7 : zq34.c4294966644 = (.seq zq34.c8589933288 (.seq zq34.c17179866578 (.seq (.block 5 (.seq zq34.c137438932632 (.seq zq34.c274877865266 (.seq zq34.c549755730534 (.seq zq34.c1099511461070 zq34.c1099511461071))))) zq34.c34359733159))) := by kernel_rfl
theorem zq34.d7.run (N : Nat) (Kn2147483322 : St D0 → Option zq34.R) (v0 : ByteArray) (v1 : List Int) (v2 : Int) (v3 : List S46) (v4 : List Int) (v5 : List Int) (v6 : ByteArray) (v7 : Int) (v8 : List Int) (v9 : Int) (v10 : Int) (v11 : Int) (v12 : List S41) : runC zq34.C (zq34.O N) N zq34.c4294966644 4294966644 (mkSt [(1, .one (.str v0)), (2, .one (.ptr 2 0)), (5, .one (.sl false 3 v1)), (9, .one (.int .i64 v2)), (17, .one (.sl true 46 v3)), (25, .one (.sl true 3 v4)), (29, .one (.sl true 3 v5)), (37, .one (.str v6)), (41, .one (.int .i64 v7)), (403, .one (.sl true 3 v8)), (404, .one (.int .i64 v9)), (405, .one (.int .i64 v10))] [(2, some (24, [.int .i64 v11, .sl false 41 v12]))] : St D0) (zq34.K4294966644 N Kn2147483322) = zq34.d7 N v0 v1 v2 v3 v4 v5 v6 v7 v8 v9 v10 v11 v12 ((fun w0 w1 w2 w3 w4 w5 w6 w7 w8 w9 w10 w11 w12 => Kn2147483322 (mkSt [(1, .one (.str w0)), (2, .one (.ptr 2 0)), (5, .one (.sl false 3 w1)), (9, .one (.int .i64 w2)), (17, .one (.sl true 46 w3)), (25, .one (.sl true 3 w4)), (29, .one (.sl true 3 w5)), (37, .one (.str w6)), (41, .one (.int .i64 w7)), (403, .one (.sl true 3 w8)), (404, .one (.int .i64 w9)), (405, .one (.int .i64 w10))] [(2, some (24, [.int .i64 w11, .sl false 41 w12]))] : St D0))) := by
  rw [zq34.c4294966644_7]; unfold zq34.d7; exact (zq34.o7.run N (zq34.B4194303 N) Kn2147483322 zq34.c8589933300 zq34.c1099511461071 v0 v1 v2 v3 v4 v5 v6 v7 v8 v9 v10 v11 v12).trans (congr (congr rfl (funext fun w0 => funext fun w1 => funext fun w2 => funext fun w3 => funext fun w4 => funext fun w5 => funext fun w6 => funext fun w7 => funext fun w8 => funext fun w9 => funext fun w10 => funext fun w11 => funext fun w12 => funext fun w13 => zq34.d8.run N Kn2147483322 w0 w1 w2 w3 w4 w5 w6 w7 w8 w9 w10 w11 w12 w13)) (funext fun w0 => funext fun w1 => funext fun w2 => funext fun w3 => funext fun w4 => funext fun w5 => funext fun w6 => funext fun w7 => funext fun w8 => (zq34.loop4294966650 N N) w0 w1 w2 w3 w4 w5 w6 w7 w8))
def zq34.K2147483322 (N : Nat) : Ex → St D0 → Option zq34.R := (blockK 4 ((fun up => (onN (fun s => zq34.C.tidy 536870830 s (fun s' => runC zq34.C (zq34.O N) N zq34.c536870831 536870831 s' up)) up)) (onN (fun s => zq34.C.tidy 8388606 s (zq34.B4194303 N)) zq34.K0)))
def zq34.l7 (N : Nat) : Nat → ByteArray → (List Int) → Int → (List S46) → (List Int) → (List Int) → ByteArray → Int → (List Int) → Int → Int → Int → (List S41) → Option zq34.R
  | 0, _, _, _, _, _, _, _, _, _, _, _, _, _ => none
  | n + 1, v0, v1, v2, v3, v4, v5, v6, v7, v8, v9, v10, v11, v12 => zq34.d7 N v0 v1 v2 v3 v4 v5 v6 v7 v8 v9 v10 v11 v12 ((fun w0 w1 w2 w3 w4 w5 w6 w7 w8 w9 w10 w11 w12 => zq34.l7 N n w0 w1 w2 w3 w4 w5 w6 w7 w8 w9 w10 w11 w12))
theorem zq34.loop2147483322 (N : Nat) : ∀ n, (∀ (v0 : ByteArray) (v1 : List Int) (v2 : Int) (v3 : List S46) (v4 : List Int) (v5 : List Int) (v6 : ByteArray) (v7 : Int) (v8 : List Int) (v9 : Int) (v10 : Int) (v11 : Int) (v12 : List S41), iter (loopF zq34.C (zq34.O N) N zq34.c4294966644 2147483322) n (mkSt [(1, .one (.str v0)), (2, .one (.ptr 2 0)), (5, .one (.sl false 3 v1)), (9, .one (.int .i64 v2)), (17, .one (.sl true 46 v3)), (25, .one (.sl true 3 v4)), (29, .one (.sl true 3 v5)), (37, .one (.str v6)), (41, .one (.int .i64 v7)), (403, .one (.sl true 3 v8)), (404, .one (.int .i64 v9)), (405, .one (.int .i64 v10))] [(2, some (24, [.int .i64 v11, .sl false 41 v12]))] : St D0) (zq34.K2147483322 N) = zq34.l7 N n v0 v1 v2 v3 v4 v5 v6 v7 v8 v9 v10 v11 v12)
  | 0 => (fun v0 v1 v2 v3 v4 v5 v6 v7 v8 v9 v10 v11 v12 => rfl)
  | n + 1 => (fun v0 v1 v2 v3 v4 v5 v6 v7 v8 v9 v10 v11 v12 => (zq34.d7.run N (fun s => iter (loopF zq34.C (zq34.O N) N zq34.c4294966644 2147483322) n s (zq34.K2147483322 N)) v0 v1 v2 v3 v4 v5 v6 v7 v8 v9 v10 v11 v12).trans (show _ = zq34.d7 N v0 v1 v2 v3 v4 v5 v6 v7 v8 v9 v10 v11 v12 ((fun w0 w1 w2 w3 w4 w5 w6 w7 w8 w9 w10 w11 w12 => zq34.l7 N n w0 w1 w2 w3 w4 w5 w6 w7 w8 w9 w10 w11 w12)) from (congr rfl (funext fun w0 => funext fun w1 => funext fun w2 => funext fun w3 => funext fun w4 => funext fun w5 => funext fun w6 => funext fun w7 => funext fun w8 => funext fun w9 => funext fun w10 => funext fun w11 => funext fun w12 => (zq34.loop2147483322 N n) w0 w1 w2 w3 w4 w5 w6 w7 w8 w9 w10 w11 w12))))
def zq34.K2147483316 (N : Nat) (Kn1073741658 : St D0 → Option zq34.R) : Ex → St D0 → Option zq34.R := ((fun up => (onN (fun s => zq34.C.tidy 1073741658 s ((onN Kn1073741658 up) .normal)) (onN Kn1073741658 up))) (blockK 0 ((fun up => (onN (fun s => zq34.C.tidy 268435414 s (fun s' => runC zq34.C (zq34.O N) N zq34.c268435415 268435415 s' up)) up)) (onN (fun s => zq34.C.tidy 8388606 s (zq34.B4194303 N)) zq34.K0))))
def zq34.o4 (N : Nat) (v0 : ByteArray) (v1 : List Int) (v2 : Int) (v3 : List S46) (v4 : List Int) (v5 : List Int) (v6 : ByteArray) (v7 : Int) (v8 : Int) (v9 : Int) (v10 : List S41) (c6 : ByteArray → (List Int) → Int → (List S46) → (List Int) → (List Int) → ByteArray → Int → Int → Bool → (List S41) → Int → Int → Int → (List S41) → Option zq34.R) (c7 : ByteArray → (List Int) → Int → (List S46) → (List Int) → (List Int) → ByteArray → Int → (List Int) → Int → Int → Int → (List S41) → Option zq34.R) : Option zq34.R :=
 bif (decide (v8 < (w64 (60 * v7)))) then
  c6 v0 v1 v2 v3 v4 v5 v6 v7 v8 true v10 (v10.length : Int) 0 v9 v10
 else
 c7 v0 v1 v2 v3 v4 v5 v6 v7 v1 (v1.length : Int) 0 v9 v10
theorem zq34.o4.run (N : Nat) (Kb4194303 : St D0 → Option zq34.R) (Kn1073741658 : St D0 → Option zq34.R) (H4294966644 : Code) (H549755729044 : Code) (v0 : ByteArray) (v1 : List Int) (v2 : Int) (v3 : List S46) (v4 : List Int) (v5 : List Int) (v6 : ByteArray) (v7 : Int) (v8 : Int) (v9 : Int) (v10 : List S41) : runC zq34.C (zq34.O N) N (.seq zq34.c4294966632 (.seq (.block 1 (.seq zq34.c34359733064 (.seq (.seq zq34.c137438932260 (.block 2 (.loop H549755729044))) zq34.c68719466131))) zq34.c8589933267)) 2147483316 (mkSt [(1, .one (.str v0)), (2, .one (.ptr 2 0)), (5, .one (.sl true 3 v1)), (9, .one (.int .i64 v2)), (17, .one (.sl true 46 v3)), (25, .one (.sl true 3 v4)), (29, .one (.sl true 3 v5)), (37, .one (.str v6)), (41, .one (.int .i64 v7)), (42, .one (.int .i64 v8))] [(2, some (24, [.int .i64 v9, .sl false 41 v10]))] : St D0) ((fun up => (onN (fun s => zq34.C.tidy 1073741658 s ((onN Kn1073741658 up) .normal)) (onN Kn1073741658 up))) (blockK 0 ((fun up => (onN (fun s => zq34.C.tidy 268435414 s (fun s' => runC zq34.C (zq34.O N) N (.seq (.seq zq34.c1073741660 (.block 4 (.loop H4294966644))) zq34.c536870831) 268435415 s' up)) up)) (onN (fun s => zq34.C.tidy 8388606 s Kb4194303) zq34.K0)))) = zq34.o4 N v0 v1 v2 v3 v4 v5 v6 v7 v8 v9 v10 ((fun w0 w1 w2 w3 w4 w5 w6 w7 w8 w9 w10 w11 w12 w13 w14 => iter (loopF zq34.C (zq34.O N) N H549755729044 274877864522) N (mkSt [(1, .one (.str w0)), (2, .one (.ptr 2 0)), (5, .one (.sl true 3 w1)), (9, .one (.int .i64 w2)), (17, .one (.sl true 46 w3)), (25, .one (.sl true 3 w4)), (29, .one (.sl true 3 w5)), (37, .one (.str w6)), (41, .one (.int .i64 w7)), (42, .one (.int .i64 w8)), (43, .one (.bool w9)), (378, .one (.sl false 41 w10)), (379, .one (.int .i64 w11)), (380, .one (.int .i64 w12))] [(2, some (24, [.int .i64 w13, .sl false 41 w14]))] : St D0) (blockK 2 ((fun up => (onN (fun s => zq34.C.tidy 68719466130 s (fun s' => runC zq34.C (zq34.O N) N zq34.c68719466131 68719466131 s' up)) up)) (blockK 1 ((fun up => (onN (fun s => zq34.C.tidy 8589933266 s (fun s' => runC zq34.C (zq34.O N) N zq34.c8589933267 8589933267 s' up)) up)) ((fun up => (onN (fun s => zq34.C.tidy 1073741658 s ((onN Kn1073741658 up) .normal)) (onN Kn1073741658 up))) (blockK 0 ((fun up => (onN (fun s => zq34.C.tidy 268435414 s (fun s' => runC zq34.C (zq34.O N) N (.seq (.seq zq34.c1073741660 (.block 4 (.loop H4294966644))) zq34.c536870831) 268435415 s' up)) up)) (onN (fun s => zq34.C.tidy 8388606 s Kb4194303) zq34.K0)))))))))) ((fun w0 w1 w2 w3 w4 w5 w6 w7 w8 w9 w10 w11 w12 => iter (loopF zq34.C (zq34.O N) N H4294966644 2147483322) N (mkSt [(1, .one (.str w0)), (2, .one (.ptr 2 0)), (5, .one (.sl false 3 w1)), (9, .one (.int .i64 w2)), (17, .one (.sl true 46 w3)), (25, .one (.sl true 3 w4)), (29, .one (.sl true 3 w5)), (37, .one (.str w6)), (41, .one (.int .i64 w7)), (403, .one (.sl true 3 w8)), (404, .one (.int .i64 w9)), (405, .one (.int .i64 w10))] [(2, some (24, [.int .i64 w11, .sl false 41 w12]))] : St D0) (blockK 4 ((fun up => (onN (fun s => zq34.C.tidy 536870830 s (fun s' => runC zq34.C (zq34.O N) N zq34.c536870831 536870831 s' up)) up)) (onN (fun s => zq34.C.tidy 8388606 s Kb4194303) zq34.K0))))) := by kernel_rfl
def zq34.d4 (N : Nat) (v0 : ByteArray) (v1 : List Int) (v2 : Int) (v3 : List S46) (v4 : List Int) (v5 : List Int) (v6 : ByteArray) (v7 : Int) (v8 : Int) (v9 : Int) (v10 : List S41) (c4 : ByteArray → (List Int) → Int → (List S46) → (List Int) → (List Int) → ByteArray → Int → Int → Int → (List S41) → Option zq34.R) : Option zq34.R := zq34.o4 N v0 v1 v2 v3 v4 v5 v6 v7 v8 v9 v10 ((fun w0 w1 w2 w3 w4 w5 w6 w7 w8 w9 w10 w11 w12 w13 w14 => zq34.l6 N N w0 w1 w2 w3 w4 w5 w6 w7 w8 w9 w10 w11 w12 w13 w14 c4)) ((fun w0 w1 w2 w3 w4 w5 w6 w7 w8 w9 w10 w11 w12 => zq34.l7 N N w0 w1 w2 w3 w4 w5 w6 w7 w8 w9 w10 w11 w12))
theorem zq34.c2147483316_4 : zq34.c2147483316 = (.seq zq34.c4294966632 (.seq (.block 1 (.seq zq34.c34359733064 (.seq (.seq zq34.c137438932260 (.block 2 (.loop zq34.c549755729044))) zq34.c68719466131))) zq34.c8589933267)) := by kernel_rfl
theorem zq34.d4.run (N : Nat) (Kn1073741658 : St D0 → Option zq34.R) (v0 : ByteArray) (v1 : List Int) (v2 : Int) (v3 : List S46) (v4 : List Int) (v5 : List Int) (v6 : ByteArray) (v7 : Int) (v8 : Int) (v9 : Int) (v10 : List S41) : runC zq34.C (zq34.O N) N zq34.c2147483316 2147483316 (mkSt [(1, .one (.str v0)), (2, .one (.ptr 2 0)), (5, .one (.sl true 3 v1)), (9, .one (.int .i64 v2)), (17, .one (.sl true 46 v3)), (25, .one (.sl true 3 v4)), (29, .one (.sl true 3 v5)), (37, .one (.str v6)), (41, .one (.int .i64 v7)), (42, .one (.int .i64 v8))] [(2, some (24, [.int .i64 v9, .sl false 41 v10]))] : St D0) (zq34.K2147483316 N Kn1073741658) = zq34.d4 N v0 v1 v2 v3 v4 v5 v6 v7 v8 v9 v10 ((fun w0 w1 w2 w3 w4 w5 w6 w7 w8 w9 w10 => Kn1073741658 (mkSt [(1, .one (.str w0)), (2, .one (.ptr 2 0)), (5, .one (.sl true 3 w1)), (9, .one (.int .i64 w2)), (17, .one (.sl true 46 w3)), (25, .one (.sl true 3 w4)), (29, .one (.sl true 3 w5)), (37, .one (.str w6)), (41, .one (.int .i64 w7)), (42, .one (.int .i64 w8))] [(2, some (24, [.int .i64 w9, .sl false 41 w10]))] : St D0))) := by
  rw [zq34.c2147483316_4]; unfold zq34.d4; exact (zq34.o4.run N (zq34.B4194303 N) Kn1073741658 zq34.c4294966644 zq34.c549755729044 v0 v1 v2 v3 v4 v5 v6 v7 v8 v9 v10).trans (congr (congr rfl (funext fun w0 => funext fun w1 => funext fun w2 => funext fun w3 => funext fun w4 => funext fun w5 => funext fun w6 => funext fun w7 => funext fun w8 => funext fun w9 => funext fun w10 => funext fun w11 => funext fun w12 => funext fun w13 => funext fun w14 => (zq34.loop274877864522 N Kn1073741658 N) w0 w1 w2 w3 w4 w5 w6 w7 w8 w9 w10 w11 w12 w13 w14)) (funext fun w0 => funext fun w1 => funext fun w2 => funext fun w3 => funext fun w4 => funext fun w5 => funext fun w6 => funext fun w7 => funext fun w8 => funext fun w9 => funext fun w10 => funext fun w11 => funext fun w12 => (zq34.loop2147483322 N N) w0 w1 w2 w3 w4 w5 w6 w7 w8 w9 w10 w11 w12))
def zq34.K1073741658 (N : Nat) : Ex → St D0 → Option zq34.R := (blockK 0 ((fun up => (onN (fun s => zq34.C.tidy 268435414 s (fun s' => runC zq34.C (zq34.O N) N zq34.c268435415 268435415 s' up)) up)) (onN (fun s => zq34.C.tidy 8388606 s (zq34.B4194303 N)) zq34.K0)))
def zq34.l4 (N : Nat) : Nat → ByteArray → (List Int) → Int → (List S46) → (List Int) → (List Int) → ByteArray → Int → Int → Int → (List S41) → Option zq34.R
  | 0, _, _, _, _, _, _, _, _, _, _, _ => none
  | n + 1, v0, v1, v2, v3, v4, v5, v6, v7, v8, v9, v10 => zq34.d4 N v0 v1 v2 v3 v4 v5 v6 v7 v8 v9 v10 ((fun w0 w1 w2 w3 w4 w5 w6 w7 w8 w9 w10 => zq34.l4 N n w0 w1 w2 w3 w4 w5 w6 w7 w8 w9 w10))
theorem zq34.loop1073741658 (N : Nat) : ∀ n, (∀ (v0 : ByteArray) (v1 : List Int) (v2 : Int) (v3 : List S46) (v4 : List Int) (v5 : List Int) (v6 : ByteArray) (v7 : Int) (v8 : Int) (v9 : Int) (v10 : List S41), iter (loopF zq34.C (zq34.O N) N zq34.c2147483316 1073741658) n (mkSt [(1, .one (.str v0)), (2, .one (.ptr 2 0)), (5, .one (.sl true 3 v1)), (9, .one (.int .i64 v2)), (17, .one (.sl true 46 v3)), (25, .one (.sl true 3 v4)), (29, .one (.sl true 3 v5)), (37, .one (.str v6)), (41, .one (.int .i64 v7)), (42, .one (.int .i64 v8))] [(2, some (24, [.int .i64 v9, .sl false 41 v10]))] : St D0) (zq34.K1073741658 N) = zq34.l4 N n v0 v1 v2 v3 v4 v5 v6 v7 v8 v9 v10)
  | 0 => (fun v0 v1 v2 v3 v4 v5 v6 v7 v8 v9 v10 => rfl)
  | n + 1 => (fun v0 v1 v2 v3 v4 v5 v6 v7 v8 v9 v10 => (zq34.d4.run N (fun s => iter (loopF zq34.C (zq34.O N) N zq34.c2147483316 1073741658) n s (zq34.K1073741658 N)) v0 v1 v2 v3 v4 v5 v6 v7 v8 v9 v10).trans (show _ = zq34.d4 N v0 v1 v2 v3 v4 v5 v6 v7 v8 v9 v10 ((fun w0 w1 w2 w3 w4 w5 w6 w7 w8 w9 w10 => zq34.l4 N n w0 w1 w2 w3 w4 w5 w6 w7 w8 w9 w10)) from (congr rfl (funext fun w0 => funext fun w1 => funext fun w2 => funext fun w3 => funext fun w4 => funext fun w5 => funext fun w6 => funext fun w7 => funext fun w8 => funext fun w9 => funext fun w10 => (zq34.loop1073741658 N n) w0 w1 w2 w3 w4 w5 w6 w7 w8 w9 w10))))
def zq34.K268435413 (N : Nat) : Ex → St D0 → Option zq34.R := ((fun up => (onN (fun s => zq34.C.tidy 134217706 s (fun s' => runC zq34.C (zq34.O N) N zq34.c134217707 134217707 s' up)) up)) (onN (fun s => zq34.C.tidy 8388606 s (zq34.B4194303 N)) zq34.K0))
def zq34.o2 (N : Nat) (v0 : ByteArray) (v1 : List Int) (v2 : Int) (v3 : List S46) (v4 : List Int) (v5 : List Int) (v6 : ByteArray) (v7 : Int) (v8 : Bool) (v9 : Int) (v10 : List S41) (c4 : ByteArray → (List Int) → Int → (List S46) → (List Int) → (List Int) → ByteArray → Int → Int → Int → (List S41) → Option zq34.R) : Option zq34.R :=
 bif v8 then
  some (false)
 else
 c4 v0 v1 v2 v3 v4 v5 v6 v7 0 v9 v10
theorem zq34.o2.run (N : Nat) (Kb4194303 : St D0 → Option zq34.R) (H2147483316 : Code) (v0 : ByteArray) (v1 : List Int) (v2 : Int) (v3 : List S46) (v4 : List Int) (v5 : List Int) (v6 : ByteArray) (v7 : Int) (v8 : Bool) (v9 : Int) (v10 : List S41) : runC zq34.C (zq34.O N) N zq34.c268435413 268435413 (mkSt [(1, .one (.str v0)), (2, .one (.ptr 2 0)), (5, .one (.sl true 3 v1)), (9, .one (.int .i64 v2)), (17, .one (.sl true 46 v3)), (25, .one (.sl true 3 v4)), (29, .one (.sl true 3 v5)), (37, .one (.str v6)), (41, .one (.int .i64 v7)), (370, .one (.bool v8))] [(2, some (24, [.int .i64 v9, .sl false 41 v10]))] : St D0) ((fun up => (onN (fun s => zq34.C.tidy 134217706 s (fun s' => runC zq34.C (zq34.O N) N (.seq (.seq zq34.c536870828 (.block 0 (.loop H2147483316))) zq34.c268435415) 134217707 s' up)) up)) (onN (fun s => zq34.C.tidy 8388606 s Kb4194303) zq34.K0)) = zq34.o2 N v0 v1 v2 v3 v4 v5 v6 v7 v8 v9 v10 ((fun w0 w1 w2 w3 w4 w5 w6 w7 w8 w9 w10 => iter (loopF zq34.C (zq34.O N) N H2147483316 1073741658) N (mkSt [(1, .one (.str w0)), (2, .one (.ptr 2 0)), (5, .one (.sl true 3 w1)), (9, .one (.int .i64 w2)), (17, .one (.sl true 46 w3)), (25, .one (.sl true 3 w4)), (29, .one (.sl true 3 w5)), (37, .one (.str w6)), (41, .one (.int .i64 w7)), (42, .one (.int .i64 w8))] [(2, some (24, [.int .i64 w9, .sl false 41 w10]))] : St D0) (blockK 0 ((fun up => (onN (fun s => zq34.C.tidy 268435414 s (fun s' => runC zq34.C (zq34.O N) N zq34.c268435415 268435415 s' up)) up)) (onN (fun s => zq34.C.tidy 8388606 s Kb4194303) zq34.K0))))) := by kernel_rfl
def zq34.d2 (N : Nat) (v0 : ByteArray) (v1 : List Int) (v2 : Int) (v3 : List S46) (v4 : List Int) (v5 : List Int) (v6 : ByteArray) (v7 : Int) (v8 : Bool) (v9 : Int) (v10 : List S41) : Option zq34.R := zq34.o2 N v0 v1 v2 v3 v4 v5 v6 v7 v8 v9 v10 ((fun w0 w1 w2 w3 w4 w5 w6 w7 w8 w9 w10 => zq34.l4 N N w0 w1 w2 w3 w4 w5 w6 w7 w8 w9 w10))
theorem zq34.d2.run (N : Nat) (v0 : ByteArray) (v1 : List Int) (v2 : Int) (v3 : List S46) (v4 : List Int) (v5 : List Int) (v6 : ByteArray) (v7 : Int) (v8 : Bool) (v9 : Int) (v10 : List S41) : runC zq34.C (zq34.O N) N zq34.c268435413 268435413 (mkSt [(1, .one (.str v0)), (2, .one (.ptr 2 0)), (5, .one (.sl true 3 v1)), (9, .one (.int .i64 v2)), (17, .one (.sl true 46 v3)), (25, .one (.sl true 3 v4)), (29, .one (.sl true 3 v5)), (37, .one (.str v6)), (41, .one (.int .i64 v7)), (370, .one (.bool v8))] [(2, some (24, [.int .i64 v9, .sl false 41 v10]))] : St D0) (zq34.K268435413 N) = zq34.d2 N v0 v1 v2 v3 v4 v5 v6 v7 v8 v9 v10 := by
  unfold zq34.d2; exact (zq34.o2.run N (zq34.B4194303 N) zq34.c2147483316 v0 v1 v2 v3 v4 v5 v6 v7 v8 v9 v10).trans (congr rfl (funext fun w0 => funext fun w1 => funext fun w2 => funext fun w3 => funext fun w4 => funext fun w5 => funext fun w6 => funext fun w7 => funext fun w8 => funext fun w9 => funext fun w10 => (zq34.loop1073741658 N N) w0 w1 w2 w3 w4 w5 w6 w7 w8 w9 w10))
def zq34.K8388605 (N : Nat) : Ex → St D0 → Option zq34.R := (onN (fun s => zq34.C.tidy 4194302 s (fun s' => runC zq34.C (zq34.O N) N zq34.c4194303 4194303 s' zq34.K0)) zq34.K0)
def zq34.o1 (N : Nat) (v0 : ByteArray) (v1 : List Int) (v2 : Bool) (v3 : Int) (v4 : Int) (v5 : Bool) (v6 : List S46) (v7 : Bool) (v8 : List Int) (v9 : List Int) (v10 : ByteArray) (v11 : Bool) (v12 : Int) (v13 : List S41) (c2 : ByteArray → (List Int) → Int → (List S46) → (List Int) → (List Int) → ByteArray → Int → Bool → Int → (List S41) → Option zq34.R) (c3 : ByteArray → Option zq34.R) : Option zq34.R :=
 bif v11 then
  some (false)
 else
 bif v2 then
  bif ((v1.length : Int) != v3) then
   c2 v0 v1 v3 v6 v8 v9 v10 v12 true v12 v13
  else
  bif (!(v7 == (v3 == 1))) then
   c2 v0 v1 v3 v6 v8 v9 v10 v12 true v12 v13
  else
  bif ((v6.length : Int) != v3) then
   c2 v0 v1 v3 v6 v8 v9 v10 v12 true v12 v13
  else
  bif ((v9.length : Int) != (w64 ((v13.length : Int) + 1))) then
   c2 v0 v1 v3 v6 v8 v9 v10 v12 true v12 v13
  else
  bif (decide (0 < (v9.length : Int))) then
   (v9[(0 : Int).toNat]?).bind fun x1 =>
   bif (x1 != (w64 (60 * v12))) then
    c2 v0 v1 v3 v6 v8 v9 v10 v12 true v12 v13
   else
   bif (decide (0 ≤ (v13.length : Int))) then
    bif (decide ((v13.length : Int) < (v9.length : Int))) then
     (v9[((v13.length : Int) : Int).toNat]?).bind fun x2 =>
     bif (x2 != v3) then
      c2 v0 v1 v3 v6 v8 v9 v10 v12 true v12 v13
     else
     bif v5 then
      bif (decide (0 < (v1.length : Int))) then
       (v1[(0 : Int).toNat]?).bind fun x3 =>
       c2 v0 v1 v3 v6 v8 v9 v10 v12 (v4 != x3) v12 v13
      else
      none
     else
     c2 v0 v1 v3 v6 v8 v9 v10 v12 false v12 v13
    else
    none
   else
   none
  else
  none
 else
 c3 v0
theorem zq34.o1.run (N : Nat) (H8388607 : Code) (H268435413 : Code) (v0 : ByteArray) (v1 : List Int) (v2 : Bool) (v3 : Int) (v4 : Int) (v5 : Bool) (v6 : List S46) (v7 : Bool) (v8 : List Int) (v9 : List Int) (v10 : ByteArray) (v11 : Bool) (v12 : Int) (v13 : List S41) : runC zq34.C (zq34.O N) N zq34.c8388605 8388605 (mkSt [(1, .one (.str v0)), (2, .one (.ptr 2 0)), (5, .one (.sl true 3 v1)), (6, .one (.bool v2)), (9, .one (.int .i64 v3)), (13, .one (.int .i64 v4)), (14, .one (.bool v5)), (17, .one (.sl true 46 v6)), (21, .one (.bool v7)), (25, .one (.sl true 3 v8)), (29, .one (.sl true 3 v9)), (37, .one (.str v10)), (314, .one (.bool v11))] [(2, some (24, [.int .i64 v12, .sl false 41 v13]))] : St D0) (onN (fun s => zq34.C.tidy 4194302 s (fun s' => runC zq34.C (zq34.O N) N (.seq (.seq zq34.c16777212 (.cond (.tmp 315) (.seq zq34.c67108852 (.seq (.seq zq34.c268435412 H268435413) zq34.c134217707)) zq34.c33554427)) H8388607) 4194303 s' zq34.K0)) zq34.K0) = zq34.o1 N v0 v1 v2 v3 v4 v5 v6 v7 v8 v9 v10 v11 v12 v13 ((fun w0 w1 w2 w3 w4 w5 w6 w7 w8 w9 w10 => runC zq34.C (zq34.O N) N H268435413 268435413 (mkSt [(1, .one (.str w0)), (2, .one (.ptr 2 0)), (5, .one (.sl true 3 w1)), (9, .one (.int .i64 w2)), (17, .one (.sl true 46 w3)), (25, .one (.sl true 3 w4)), (29, .one (.sl true 3 w5)), (37, .one (.str w6)), (41, .one (.int .i64 w7)), (370, .one (.bool w8))] [(2, some (24, [.int .i64 w9, .sl false 41 w10]))] : St D0) ((fun up => (onN (fun s => zq34.C.tidy 134217706 s (fun s' => runC zq34.C (zq34.O N) N zq34.c134217707 134217707 s' up)) up)) (onN (fun s => zq34.C.tidy 8388606 s (fun s' => runC zq34.C (zq34.O N) N H8388607 8388607 s' zq34.K0)) zq34.K0)))) ((fun w0 => runC zq34.C (zq34.O N) N H8388607 8388607 (mkSt [(1, .one (.str w0))] [] : St D0) zq34.K0)) := by kernel_rfl
def zq34.d1 (N : Nat) (v0 : ByteArray) (v1 : List Int) (v2 : Bool) (v3 : Int) (v4 : Int) (v5 : Bool) (v6 : List S46) (v7 : Bool) (v8 : List Int) (v9 : List Int) (v10 : ByteArray) (v11 : Bool) (v12 : Int) (v13 : List S41) : Option zq34.R := zq34.o1 N v0 v1 v2 v3 v4 v5 v6 v7 v8 v9 v10 v11 v12 v13 ((fun w0 w1 w2 w3 w4 w5 w6 w7 w8 w9 w10 => zq34.d2 N w0 w1 w2 w3 w4 w5 w6 w7 w8 w9 w10)) ((fun w0 => zq34.d3 N w0))
theorem zq34.d1.run (N : Nat) (v0 : ByteArray) (v1 : List Int) (v2 : Bool) (v3 : Int) (v4 : Int) (v5 : Bool) (v6 : List S46) (v7 : Bool) (v8 : List Int) (v9 : List Int) (v10 : ByteArray) (v11 : Bool) (v12 : Int) (v13 : List S41) : runC zq34.C (zq34.O N) N zq34.c8388605 8388605 (mkSt [(1, .one (.str v0)), (2, .one (.ptr 2 0)), (5, .one (.sl true 3 v1)), (6, .one (.bool v2)), (9, .one (.int .i64 v3)), (13, .one (.int .i64 v4)), (14, .one (.bool v5)), (17, .one (.sl true 46 v6)), (21, .one (.bool v7)), (25, .one (.sl true 3 v8)), (29, .one (.sl true 3 v9)), (37, .one (.str v10)), (314, .one (.bool v11))] [(2, some (24, [.int .i64 v12, .sl false 41 v13]))] : St D0) (zq34.K8388605 N) = zq34.d1 N v0 v1 v2 v3 v4 v5 v6 v7 v8 v9 v10 v11 v12 v13 := by
  unfold zq34.d1; exact (zq34.o1.run N zq34.c8388607 zq34.c268435413 v0 v1 v2 v3 v4 v5 v6 v7 v8 v9 v10 v11 v12 v13).trans (congr (congr rfl (funext fun w0 => funext fun w1 => funext fun w2 => funext fun w3 => funext fun w4 => funext fun w5 => funext fun w6 => funext fun w7 => funext fun w8 => funext fun w9 => funext fun w10 => zq34.d2.run N w0 w1 w2 w3 w4 w5 w6 w7 w8 w9 w10)) (funext fun w0 => zq34.d3.run N w0))
def zq34.o0 (N : Nat) (a0_0 : Int) (a0_1 : List S41) (a1 : ByteArray) (c1 : ByteArray → (List Int) → Bool → Int → Int → Bool → (List S46) → Bool → (List Int) → (List Int) → ByteArray → Bool → Int → (List S41) → Option zq34.R) : Option zq34.R :=
 bif (decide ((a1.size : Int) > 1048576)) then
  some (true)
 else
 (zq17.g N a0_0 a0_1).bind fun r1 =>
 (zq58.g N a0_0 a0_1).bind fun r2 =>
 (zq1.g N a0_0 a0_1).bind fun r3 =>
 (zq46.g N a0_0 a0_1).bind fun r4 =>
 (zq4.g N a0_0 a0_1).bind fun r5 =>
 (zq50.g N a0_0 a0_1).bind fun r6 =>
 (zq16.g N a0_0 a0_1).bind fun r7 =>
 (zq57.g N a0_0 a0_1).bind fun r8 =>
 (zq9.g N a0_0 a0_1).bind fun r9 =>
 (zq52.g N a0_0 a0_1).bind fun r10 =>
 (zq13.g N a0_0 a0_1).bind fun r11 =>
 (zq54.g N a0_0 a0_1).bind fun r12 =>
 (zq11.g N a0_0 a0_1).bind fun r13 =>
 (zq53.g N a0_0 a0_1).bind fun r14 =>
 (zq0.g N a0_0 a0_1).bind fun r15 =>
 (zq45.g N a0_0 a0_1).bind fun r16 =>
 (zq15.g N a0_0 a0_1).bind fun r17 =>
 (zq56.g N a0_0 a0_1).bind fun r18 =>
 bif (!(r1.2 == r2.2)) then
  c1 a1 r1.1 r1.2 r3.1 r5.1 r5.2 r7.1 r9.1 r11.1 r13.1 r17.1 true a0_0 a0_1
 else
 (zq38.g N r1.1 r2.1).bind fun r19 =>
 bif (!r19) then
  c1 a1 r1.1 r1.2 r3.1 r5.1 r5.2 r7.1 r9.1 r11.1 r13.1 r17.1 true a0_0 a0_1
 else
 bif (!(r3.2 == r4.2)) then
  c1 a1 r1.1 r1.2 r3.1 r5.1 r5.2 r7.1 r9.1 r11.1 r13.1 r17.1 true a0_0 a0_1
 else
 bif (r3.1 != r4.1) then
  c1 a1 r1.1 r1.2 r3.1 r5.1 r5.2 r7.1 r9.1 r11.1 r13.1 r17.1 true a0_0 a0_1
 else
 bif (!(r5.2 == r6.2)) then
  c1 a1 r1.1 r1.2 r3.1 r5.1 r5.2 r7.1 r9.1 r11.1 r13.1 r17.1 true a0_0 a0_1
 else
 bif (r5.1 != r6.1) then
  c1 a1 r1.1 r1.2 r3.1 r5.1 r5.2 r7.1 r9.1 r11.1 r13.1 r17.1 true a0_0 a0_1
 else
 bif (!(r7.2 == r8.2)) then
  c1 a1 r1.1 r1.2 r3.1 r5.1 r5.2 r7.1 r9.1 r11.1 r13.1 r17.1 true a0_0 a0_1
 else
 (zq39.g N r7.1 r8.1).bind fun r20 =>
 bif (!r20) then
  c1 a1 r1.1 r1.2 r3.1 r5.1 r5.2 r7.1 r9.1 r11.1 r13.1 r17.1 true a0_0 a0_1
 else
 bif (!(r9.2 == r10.2)) then
  c1 a1 r1.1 r1.2 r3.1 r5.1 r5.2 r7.1 r9.1 r11.1 r13.1 r17.1 true a0_0 a0_1
 else
 bif (!(r9.1 == r10.1)) then
  c1 a1 r1.1 r1.2 r3.1 r5.1 r5.2 r7.1 r9.1 r11.1 r13.1 r17.1 true a0_0 a0_1
 else
 bif (!(r11.2 == r12.2)) then
  c1 a1 r1.1 r1.2 r3.1 r5.1 r5.2 r7.1 r9.1 r11.1 r13.1 r17.1 true a0_0 a0_1
 else
 (zq38.g N r11.1 r12.1).bind fun r21 =>
 bif (!r21) then
  c1 a1 r1.1 r1.2 r3.1 r5.1 r5.2 r7.1 r9.1 r11.1 r13.1 r17.1 true a0_0 a0_1
 else
 bif (!(r13.2 == r14.2)) then
  c1 a1 r1.1 r1.2 r3.1 r5.1 r5.2 r7.1 r9.1 r11.1 r13.1 r17.1 true a0_0 a0_1
 else
 (zq38.g N r13.1 r14.1).bind fun r22 =>
 bif (!r22) then
  c1 a1 r1.1 r1.2 r3.1 r5.1 r5.2 r7.1 r9.1 r11.1 r13.1 r17.1 true a0_0 a0_1
 else
 bif (!(r15.2 == r16.2)) then
  c1 a1 r1.1 r1.2 r3.1 r5.1 r5.2 r7.1 r9.1 r11.1 r13.1 r17.1 true a0_0 a0_1
 else
 bif (r15.1 != r16.1) then
  c1 a1 r1.1 r1.2 r3.1 r5.1 r5.2 r7.1 r9.1 r11.1 r13.1 r17.1 true a0_0 a0_1
 else
 bif (!(r17.2 == r18.2)) then
  c1 a1 r1.1 r1.2 r3.1 r5.1 r5.2 r7.1 r9.1 r11.1 r13.1 r17.1 true a0_0 a0_1
 else
 bif (!(r17.1.toList == r18.1.toList)) then
  c1 a1 r1.1 r1.2 r3.1 r5.1 r5.2 r7.1 r9.1 r11.1 r13.1 r17.1 true a0_0 a0_1
 else
 (zq7.g N a0_0 a0_1).bind fun r23 =>
 bif (!(r1.2 == r23)) then
  c1 a1 r1.1 r1.2 r3.1 r5.1 r5.2 r7.1 r9.1 r11.1 r13.1 r17.1 true a0_0 a0_1
 else
 (zq7.g N a0_0 a0_1).bind fun r24 =>
 (zq51.g N a0_0 a0_1).bind fun r25 =>
 bif (!(r24 == r25)) then
  c1 a1 r1.1 r1.2 r3.1 r5.1 r5.2 r7.1 r9.1 r11.1 r13.1 r17.1 true a0_0 a0_1
 else
 bif (!(r3.2 == r1.2)) then
  c1 a1 r1.1 r1.2 r3.1 r5.1 r5.2 r7.1 r9.1 r11.1 r13.1 r17.1 true a0_0 a0_1
 else
 bif r1.2 then
  bif (!(r5.2 == (decide (r3.1 > 0)))) then
   c1 a1 r1.1 r1.2 r3.1 r5.1 r5.2 r7.1 r9.1 r11.1 r13.1 r17.1 true a0_0 a0_1
  else
  bif (!(r7.2 == r1.2)) then
   c1 a1 r1.1 r1.2 r3.1 r5.1 r5.2 r7.1 r9.1 r11.1 r13.1 r17.1 true a0_0 a0_1
  else
  bif (!(r9.2 == r1.2)) then
   c1 a1 r1.1 r1.2 r3.1 r5.1 r5.2 r7.1 r9.1 r11.1 r13.1 r17.1 true a0_0 a0_1
  else
  bif (!(r11.2 == r1.2)) then
   c1 a1 r1.1 r1.2 r3.1 r5.1 r5.2 r7.1 r9.1 r11.1 r13.1 r17.1 true a0_0 a0_1
  else
  bif (!(r13.2 == r1.2)) then
   c1 a1 r1.1 r1.2 r3.1 r5.1 r5.2 r7.1 r9.1 r11.1 r13.1 r17.1 true a0_0 a0_1
  else
  bif r1.2 then
   bif (!(r15.2 == (decide ((a0_1.length : Int) > 0)))) then
    c1 a1 r1.1 r1.2 r3.1 r5.1 r5.2 r7.1 r9.1 r11.1 r13.1 r17.1 true a0_0 a0_1
   else
   c1 a1 r1.1 r1.2 r3.1 r5.1 r5.2 r7.1 r9.1 r11.1 r13.1 r17.1 (!(r17.2 == r1.2)) a0_0 a0_1
  else
  bif (!(r15.2 == false)) then
   c1 a1 r1.1 r1.2 r3.1 r5.1 r5.2 r7.1 r9.1 r11.1 r13.1 r17.1 true a0_0 a0_1
  else
  c1 a1 r1.1 r1.2 r3.1 r5.1 r5.2 r7.1 r9.1 r11.1 r13.1 r17.1 (!(r17.2 == r1.2)) a0_0 a0_1
 else
 bif (!(r5.2 == false)) then
  c1 a1 r1.1 r1.2 r3.1 r5.1 r5.2 r7.1 r9.1 r11.1 r13.1 r17.1 true a0_0 a0_1
 else
 bif (!(r7.2 == r1.2)) then
  c1 a1 r1.1 r1.2 r3.1 r5.1 r5.2 r7.1 r9.1 r11.1 r13.1 r17.1 true a0_0 a0_1
 else
 bif (!(r9.2 == r1.2)) then
  c1 a1 r1.1 r1.2 r3.1 r5.1 r5.2 r7.1 r9.1 r11.1 r13.1 r17.1 true a0_0 a0_1
 else
 bif (!(r11.2 == r1.2)) then
  c1 a1 r1.1 r1.2 r3.1 r5.1 r5.2 r7.1 r9.1 r11.1 r13.1 r17.1 true a0_0 a0_1
 else
 bif (!(r13.2 == r1.2)) then
  c1 a1 r1.1 r1.2 r3.1 r5.1 r5.2 r7.1 r9.1 r11.1 r13.1 r17.1 true a0_0 a0_1
 else
 bif r1.2 then
  bif (!(r15.2 == (decide ((a0_1.length : Int) > 0)))) then
   c1 a1 r1.1 r1.2 r3.1 r5.1 r5.2 r7.1 r9.1 r11.1 r13.1 r17.1 true a0_0 a0_1
  else
  c1 a1 r1.1 r1.2 r3.1 r5.1 r5.2 r7.1 r9.1 r11.1 r13.1 r17.1 (!(r17.2 == r1.2)) a0_0 a0_1
 else
 bif (!(r15.2 == false)) then
  c1 a1 r1.1 r1.2 r3.1 r5.1 r5.2 r7.1 r9.1 r11.1 r13.1 r17.1 true a0_0 a0_1
 else
 c1 a1 r1.1 r1.2 r3.1 r5.1 r5.2 r7.1 r9.1 r11.1 r13.1 r17.1 (!(r17.2 == r1.2)) a0_0 a0_1
theorem zq34.o0.run (N : Nat) (H8388605 : Code) (a0_0 : Int) (a0_1 : List S41) (a1 : ByteArray) : runC zq34.C (zq34.O N) N (.seq zq34.c2 (.seq zq34.c6 (.seq zq34.c14 (.seq zq34.c30 (.seq zq34.c62 (.seq zq34.c126 (.seq zq34.c254 (.seq zq34.c510 (.seq zq34.c1022 (.seq zq34.c2046 (.seq zq34.c4094 (.seq zq34.c8190 (.seq zq34.c16382 (.seq zq34.c32766 (.seq zq34.c65534 (.seq zq34.c131070 (.seq zq34.c262142 (.seq zq34.c524286 (.seq zq34.c1048574 (.seq zq34.c2097150 (.seq (.seq zq34.c8388604 H8388605) zq34.c4194303))))))))))))))))))))) 1 (st0 [.agg [.int .i64 a0_0, .sl false 41 a0_1], .one (.str a1)] [] : St D0) zq34.K0 = zq34.o0 N a0_0 a0_1 a1 ((fun w0 w1 w2 w3 w4 w5 w6 w7 w8 w9 w10 w11 w12 w13 => runC zq34.C (zq34.O N) N H8388605 8388605 (mkSt [(1, .one (.str w0)), (2, .one (.ptr 2 0)), (5, .one (.sl true 3 w1)), (6, .one (.bool w2)), (9, .one (.int .i64 w3)), (13, .one (.int .i64 w4)), (14, .one (.bool w5)), (17, .one (.sl true 46 w6)), (21, .one (.bool w7)), (25, .one (.sl true 3 w8)), (29, .one (.sl true 3 w9)), (37, .one (.str w10)), (314, .one (.bool w11))] [(2, some (24, [.int .i64 w12, .sl false 41 w13]))] : St D0) (onN (fun s => zq34.C.tidy 4194302 s (fun s' => runC zq34.C (zq34.O N) N zq34.c4194303 4194303 s' zq34.K0)) zq34.K0))) := by kernel_rfl
def zq34.g (N : Nat) (a0_0 : Int) (a0_1 : List S41) (a1 : ByteArray) : Option zq34.R := zq34.o0 N a0_0 a0_1 a1 ((fun w0 w1 w2 w3 w4 w5 w6 w7 w8 w9 w10 w11 w12 w13 => zq34.d1 N w0 w1 w2 w3 w4 w5 w6 w7 w8 w9 w10 w11 w12 w13))
theorem zq34.c1_0 : zq34.c1 = (.seq zq34.c2 (.seq zq34.c6 (.seq zq34.c14 (.seq zq34.c30 (.seq zq34.c62 (.seq zq34.c126 (.seq zq34.c254 (.seq zq34.c510 (.seq zq34.c1022 (.seq zq34.c2046 (.seq zq34.c4094 (.seq zq34.c8190 (.seq zq34.c16382 (.seq zq34.c32766 (.seq zq34.c65534 (.seq zq34.c131070 (.seq zq34.c262142 (.seq zq34.c524286 (.seq zq34.c1048574 (.seq zq34.c2097150 (.seq (.seq zq34.c8388604 zq34.c8388605) zq34.c4194303))))))))))))))))))))) := by kernel_rfl
theorem zq34.g.run (N : Nat) (a0_0 : Int) (a0_1 : List S41) (a1 : ByteArray) : runC zq34.C (zq34.O N) N zq34.c1 1 (st0 [.agg [.int .i64 a0_0, .sl false 41 a0_1], .one (.str a1)] [] : St D0) zq34.K0 = zq34.g N a0_0 a0_1 a1 := by
  rw [zq34.c1_0]; unfold zq34.g; exact (zq34.o0.run N zq34.c8388605 a0_0 a0_1 a1).trans (congr rfl (funext fun w0 => funext fun w1 => funext fun w2 => funext fun w3 => funext fun w4 => funext fun w5 => funext fun w6 => funext fun w7 => funext fun w8 => funext fun w9 => funext fun w10 => funext fun w11 => funext fun w12 => funext fun w13 => zq34.d1.run N w0 w1 w2 w3 w4 w5 w6 w7 w8 w9 w10 w11 w12 w13))
theorem zq34.good (N : Nat) (a0_0 : Int) (a0_1 : List S41) (a1 : ByteArray) (r : zq34.R) (h : zq34.g N a0_0 a0_1 a1 = some r) : Go.PM.Good Tryz.prog T0 3 [.agg [.int .i64 a0_0, .sl false 41 a0_1], .one (.str a1)] [] (zq34.sig.ret r) (zq34.sig.bs r) :=
  good_fn tabOk0 mixed0 zq34.sig (zq34.E N) Tryz.func3 (by kernel_rfl) (by kernel_rfl) 42177343641095021277996325090266777016362126809771168265585212144492764733774160110032235067294625864987618363880033689837208633898489445685048333699053439156215 0 0 [(8388604, [1, 2, 5, 6, 9, 13, 14, 17, 21, 25, 29, 37, 314], [2]), (8388606, [1], []), (134217724, [1, 61, 62, 532], [61]), (268435412, [1, 2, 5, 9, 17, 25, 29, 37, 41, 370], [2]), (1073741658, [1, 2, 5, 9, 17, 25, 29, 37, 41, 42], [2]), (2147483322, [1, 2, 5, 9, 17, 25, 29, 37, 41, 403, 404, 405], [2]), (4294966650, [1, 2, 9, 25, 29, 37, 458, 459], [2]), (4294966654, [1, 513], []), (274877864522, [1, 2, 5, 9, 17, 25, 29, 37, 41, 42, 43, 378, 379, 380], [2]), (1099511461070, [1, 2, 5, 9, 17, 25, 29, 37, 41, 403, 404, 405, 454], [2]), (2199022925006, [1, 2, 9, 25, 29, 37, 458, 459, 499], [2])] 21594954508835228158003591198192552499358000950170250559508097698778593560060073139727453444717452242395332784978290451769053213589988915513458575598712363199496192 false [] [(false, [.any])] (by kernel_rfl) rfl rfl ((zq34.g.run N a0_0 a0_1 a1).trans h)
def zq34.ent (N : Nat) : Ent Tryz.prog T0 := mkEnt 3 [(true, [.any, .ro 41]), (false, [.any])] zq34.sig (fun t => zq34.g N t.1 t.2.1 t.2.2) (fun t r h => zq34.good N t.1 t.2.1 t.2.2 r h)
/-! ### zq70 -/
abbrev zq70.R : Type := ByteArray × List Int × Int × Int
abbrev zq70.sig : Sig := ⟨[(false, 1), (false, 1), (false, 1)], [(80, 3)], [.ptr 0 0, .str, .str, .sl false 5, .int .i64, .int .u64], [(false, 1)], [(80, 3)], [.str, .sl false 5, .int .i64, .int .u64]⟩
def zq70.C : Cfg D0 := ⟨Tryz.prog, T0, 36046423565272007, 0, 68, 1, [(26, [0, 1, 2, 7], [0]), (104, [0, 1, 2, 7], [0]), (210, [0, 1, 2, 7], [0])], 15427856452832797696, false, []⟩
def zq70.E (N : Nat) : List (Ent Tryz.prog T0) := [zq68.ent N]
def zq70.O (N : Nat) : Orc D0 zq70.R := orcOf (zq70.E N)
def zq70.K0 : Ex → St D0 → Option zq70.R := exitK zq70.C Tryz.f65.results.toList [(false, [.any])] (decOut zq70.sig)
def zq70.c1 : Code := codeAt (Tryz.f65.body.getD .skip) []
def zq70.c2 : Code := codeAt (Tryz.f65.body.getD .skip) [false]
def zq70.c7 : Code := codeAt (Tryz.f65.body.getD .skip) [true, true]
def zq70.c12 : Code := codeAt (Tryz.f65.body.getD .skip) [true, false, false]
def zq70.c52 : Code := codeAt (Tryz.f65.body.getD .skip) [true, false, true, false, false]
def zq70.c104 : Code := codeAt (Tryz.f65.body.getD .skip) [true, false, true, false, false, false]
def zq70.c105 : Code := codeAt (Tryz.f65.body.getD .skip) [true, false, true, false, false, true]
def zq70.c210 : Code := codeAt (Tryz.f65.body.getD .skip) [true, false, true, false, false, true, false]
def zq70.c211 : Code := codeAt (Tryz.f65.body.getD .skip) [true, false, true, false, false, true, true]
def zq70.K211 (N : Nat) (Kn26 : St D0 → Option zq70.R) : Ex → St D0 → Option zq70.R := ((fun up => (onN (fun s => zq70.C.tidy 26 s ((onN Kn26 up) .normal)) (onN Kn26 up))) (blockK 0 (onN (fun s => zq70.C.tidy 6 s (fun s' => runC zq70.C (zq70.O N) N zq70.c7 7 s' zq70.K0)) zq70.K0)))
def zq70.o3 (N : Nat) (v0 : ByteArray) (v1 : ByteArray) (v2 : Int) (v3 : List Int) (v4 : Int) (v5 : Int) (c1 : ByteArray → ByteArray → Int → (List Int) → Int → Int → Option zq70.R) : Option zq70.R :=
 c1 v0 v1 (w64 (v2 - 1)) v3 v4 v5
theorem zq70.o3.run (N : Nat) (Kn26 : St D0 → Option zq70.R) (v0 : ByteArray) (v1 : ByteArray) (v2 : Int) (v3 : List Int) (v4 : Int) (v5 : Int) : runC zq70.C (zq70.O N) N zq70.c211 211 (mkSt [(0, .one (.ptr 0 0)), (1, .one (.str v0)), (2, .one (.str v1)), (7, .one (.int .i64 v2))] [(0, some (80, [.sl false 5 v3, .int .i64 v4, .int .u64 v5]))] : St D0) ((fun up => (onN (fun s => zq70.C.tidy 26 s ((onN Kn26 up) .normal)) (onN Kn26 up))) (blockK 0 (onN (fun s => zq70.C.tidy 6 s (fun s' => runC zq70.C (zq70.O N) N zq70.c7 7 s' zq70.K0)) zq70.K0))) = zq70.o3 N v0 v1 v2 v3 v4 v5 ((fun w0 w1 w2 w3 w4 w5 => Kn26 (mkSt [(0, .one (.ptr 0 0)), (1, .one (.str w0)), (2, .one (.str w1)), (7, .one (.int .i64 w2))] [(0, some (80, [.sl false 5 w3, .int .i64 w4, .int .u64 w5]))] : St D0))) := by kernel_rfl
def zq70.d3 (N : Nat) (v0 : ByteArray) (v1 : ByteArray) (v2 : Int) (v3 : List Int) (v4 : Int) (v5 : Int) (c1 : ByteArray → ByteArray → Int → (List Int) → Int → Int → Option zq70.R) : Option zq70.R := zq70.o3 N v0 v1 v2 v3 v4 v5 c1
theorem zq70.d3.run (N : Nat) (Kn26 : St D0 → Option zq70.R) (v0 : ByteArray) (v1 : ByteArray) (v2 : Int) (v3 : List Int) (v4 : Int) (v5 : Int) : runC zq70.C (zq70.O N) N zq70.c211 211 (mkSt [(0, .one (.ptr 0 0)), (1, .one (.str v0)), (2, .one (.str v1)), (7, .one (.int .i64 v2))] [(0, some (80, [.sl false 5 v3, .int .i64 v4, .int .u64 v5]))] : St D0) (zq70.K211 N Kn26) = zq70.d3 N v0 v1 v2 v3 v4 v5 ((fun w0 w1 w2 w3 w4 w5 => Kn26 (mkSt [(0, .one (.ptr 0 0)), (1, .one (.str w0)), (2, .one (.str w1)), (7, .one (.int .i64 w2))] [(0, some (80, [.sl false 5 w3, .int .i64 w4, .int .u64 w5]))] : St D0))) := by
  exact (zq70.o3.run N Kn26 v0 v1 v2 v3 v4 v5).trans rfl
def zq70.K105 (N : Nat) (Kn26 : St D0 → Option zq70.R) : Ex → St D0 → Option zq70.R := ((fun up => (onN (fun s => zq70.C.tidy 26 s ((onN Kn26 up) .normal)) (onN Kn26 up))) (blockK 0 (onN (fun s => zq70.C.tidy 6 s (fun s' => runC zq70.C (zq70.O N) N zq70.c7 7 s' zq70.K0)) zq70.K0)))
def zq70.o2 (N : Nat) (v0 : ByteArray) (v1 : ByteArray) (v2 : Int) (v3 : List Int) (v4 : Int) (v5 : Int) (c3 : ByteArray → ByteArray → Int → (List Int) → Int → Int → Option zq70.R) : Option zq70.R :=
 (zq68.g N (v0.size : Int) v3 v4 v5).bind fun r1 =>
 (zq68.g N (v1.size : Int) r1.2.1 r1.2.2.1 r1.2.2.2).bind fun r2 =>
 bif (decide (0 ≤ r2.1)) then
  bif (decide (r2.1 < (v1.size : Int))) then
   (numsO T0 5 ([(bt v1 r2.1)] : List Int)).bind fun r3 =>
   (zq68.g N 3 r2.2.1 r2.2.2.1 r2.2.2.2).bind fun r4 =>
   bif (r4.1 == 0) then
    bif (decide (0 ≤ r1.1)) then
     bif (decide (r1.1 ≤ (v0.size : Int))) then
      bif (decide (0 ≤ r1.1)) then
       bif (Nat.ble ((v0.extract (0 : Int).toNat (r1.1 : Int).toNat).size + (strOfNums r3).size) 9223372036854775807) then
        bif (decide (0 ≤ (v0.size : Int))) then
         bif (decide ((v0.size : Int) ≤ (v0.size : Int))) then
          bif (decide (0 ≤ r1.1)) then
           bif (decide (r1.1 ≤ (v0.size : Int))) then
            bif (Nat.ble (((v0.extract (0 : Int).toNat (r1.1 : Int).toNat) ++ (strOfNums r3)).size + (v0.extract (r1.1 : Int).toNat ((v0.size : Int) : Int).toNat).size) 9223372036854775807) then
             c3 (((v0.extract (0 : Int).toNat (r1.1 : Int).toNat) ++ (strOfNums r3)) ++ (v0.extract (r1.1 : Int).toNat ((v0.size : Int) : Int).toNat)) v1 v2 r4.2.1 r4.2.2.1 r4.2.2.2
            else
            none
           else
           none
          else
          none
         else
         none
        else
        none
       else
       none
      else
      none
     else
     none
    else
    none
   else
   bif (r4.1 == 1) then
    bif (decide (0 ≤ r1.1)) then
     bif (decide (r1.1 ≤ (v0.size : Int))) then
      bif (decide (0 ≤ r1.1)) then
       bif (Nat.ble ((v0.extract (0 : Int).toNat (r1.1 : Int).toNat).size + (strOfNums r3).size) 9223372036854775807) then
        bif (decide (0 ≤ (v0.size : Int))) then
         bif (decide ((v0.size : Int) ≤ (v0.size : Int))) then
          bif (decide (0 ≤ (w64 (r1.1 + 1)))) then
           bif (decide ((w64 (r1.1 + 1)) ≤ (v0.size : Int))) then
            bif (Nat.ble (((v0.extract (0 : Int).toNat (r1.1 : Int).toNat) ++ (strOfNums r3)).size + (v0.extract ((w64 (r1.1 + 1)) : Int).toNat ((v0.size : Int) : Int).toNat).size) 9223372036854775807) then
             c3 (((v0.extract (0 : Int).toNat (r1.1 : Int).toNat) ++ (strOfNums r3)) ++ (v0.extract ((w64 (r1.1 + 1)) : Int).toNat ((v0.size : Int) : Int).toNat)) v1 v2 r4.2.1 r4.2.2.1 r4.2.2.2
            else
            none
           else
           none
          else
          none
         else
         none
        else
        none
       else
       none
      else
      none
     else
     none
    else
    none
   else
   bif (decide (0 ≤ r1.1)) then
    bif (decide (r1.1 ≤ (v0.size : Int))) then
     bif (decide (0 ≤ r1.1)) then
      bif (decide (0 ≤ (v0.size : Int))) then
       bif (decide ((v0.size : Int) ≤ (v0.size : Int))) then
        bif (decide (0 ≤ (w64 (r1.1 + 1)))) then
         bif (decide ((w64 (r1.1 + 1)) ≤ (v0.size : Int))) then
          bif (Nat.ble ((v0.extract (0 : Int).toNat (r1.1 : Int).toNat).size + (v0.extract ((w64 (r1.1 + 1)) : Int).toNat ((v0.size : Int) : Int).toNat).size) 9223372036854775807) then
           c3 ((v0.extract (0 : Int).toNat (r1.1 : Int).toNat) ++ (v0.extract ((w64 (r1.1 + 1)) : Int).toNat ((v0.size : Int) : Int).toNat)) v1 v2 r4.2.1 r4.2.2.1 r4.2.2.2
          else
          none
         else
         none
        else
        none
       else
       none
      else
      none
     else
     none
    else
    none
   else
   none
  else
  none
 else
 none
theorem zq70.o2.run (N : Nat) (Kn26 : St D0 → Option zq70.R) (H211 : Code) (v0 : ByteArray) (v1 : ByteArray) (v2 : Int) (v3 : List Int) (v4 : Int) (v5 : Int) : runC zq70.C (zq70.O N) N (.seq zq70.c210 H211) 105 (mkSt [(0, .one (.ptr 0 0)), (1, .one (.str v0)), (2, .one (.str v1)), (7, .one (.int .i64 v2))] [(0, some (80, [.sl false 5 v3, .int .i64 v4, .int .u64 v5]))] : St D0) ((fun up => (onN (fun s => zq70.C.tidy 26 s ((onN Kn26 up) .normal)) (onN Kn26 up))) (blockK 0 (onN (fun s => zq70.C.tidy 6 s (fun s' => runC zq70.C (zq70.O N) N zq70.c7 7 s' zq70.K0)) zq70.K0))) = zq70.o2 N v0 v1 v2 v3 v4 v5 ((fun w0 w1 w2 w3 w4 w5 => runC zq70.C (zq70.O N) N H211 211 (mkSt [(0, .one (.ptr 0 0)), (1, .one (.str w0)), (2, .one (.str w1)), (7, .one (.int .i64 w2))] [(0, some (80, [.sl false 5 w3, .int .i64 w4, .int .u64 w5]))] : St D0) ((fun up => (onN (fun s => zq70.C.tidy 26 s ((onN Kn26 up) .normal)) (onN Kn26 up))) (blockK 0 (onN (fun s => zq70.C.tidy 6 s (fun s' => runC zq70.C (zq70.O N) N zq70.c7 7 s' zq70.K0)) zq70.K0))))) := by kernel_rfl
def zq70.d2 (N : Nat) (v0 : ByteArray) (v1 : ByteArray) (v2 : Int) (v3 : List Int) (v4 : Int) (v5 : Int) (c1 : ByteArray → ByteArray → Int → (List Int) → Int → Int → Option zq70.R) : Option zq70.R := zq70.o2 N v0 v1 v2 v3 v4 v5 ((fun w0 w1 w2 w3 w4 w5 => zq70.d3 N w0 w1 w2 w3 w4 w5 c1))
theorem zq70.c105_2 : zq70.c105 = (.seq zq70.c210 zq70.c211) := by kernel_rfl
theorem zq70.d2.run (N : Nat) (Kn26 : St D0 → Option zq70.R) (v0 : ByteArray) (v1 : ByteArray) (v2 : Int) (v3 : List Int) (v4 : Int) (v5 : Int) : runC zq70.C (zq70.O N) N zq70.c105 105 (mkSt [(0, .one (.ptr 0 0)), (1, .one (.str v0)), (2, .one (.str v1)), (7, .one (.int .i64 v2))] [(0, some (80, [.sl false 5 v3, .int .i64 v4, .int .u64 v5]))] : St D0) (zq70.K105 N Kn26) = zq70.d2 N v0 v1 v2 v3 v4 v5 ((fun w0 w1 w2 w3 w4 w5 => Kn26 (mkSt [(0, .one (.ptr 0 0)), (1, .one (.str w0)), (2, .one (.str w1)), (7, .one (.int .i64 w2))] [(0, some (80, [.sl false 5 w3, .int .i64 w4, .int .u64 w5]))] : St D0))) := by
  rw [zq70.c105_2]; unfold zq70.d2; exact (zq70.o2.run N Kn26 zq70.c211 v0 v1 v2 v3 v4 v5).trans (congr rfl (funext fun w0 => funext fun w1 => funext fun w2 => funext fun w3 => funext fun w4 => funext fun w5 => zq70.d3.run N Kn26 w0 w1 w2 w3 w4 w5))
def zq70.K52 (N : Nat) (Kn26 : St D0 → Option zq70.R) : Ex → St D0 → Option zq70.R := ((fun up => (onN (fun s => zq70.C.tidy 26 s ((onN Kn26 up) .normal)) (onN Kn26 up))) (blockK 0 (onN (fun s => zq70.C.tidy 6 s (fun s' => runC zq70.C (zq70.O N) N zq70.c7 7 s' zq70.K0)) zq70.K0)))
def zq70.o1 (N : Nat) (v0 : ByteArray) (v1 : ByteArray) (v2 : Int) (v3 : List Int) (v4 : Int) (v5 : Int) (c2 : ByteArray → ByteArray → Int → (List Int) → Int → Int → Option zq70.R) : Option zq70.R :=
 bif (decide (v2 > 0)) then
  bif (decide ((v0.size : Int) > 0)) then
   c2 v0 v1 v2 v3 v4 v5
  else
  some (v0, v3, v4, v5)
 else
 some (v0, v3, v4, v5)
theorem zq70.o1.run (N : Nat) (Kn26 : St D0 → Option zq70.R) (H105 : Code) (v0 : ByteArray) (v1 : ByteArray) (v2 : Int) (v3 : List Int) (v4 : Int) (v5 : Int) : runC zq70.C (zq70.O N) N (.seq zq70.c104 H105) 52 (mkSt [(0, .one (.ptr 0 0)), (1, .one (.str v0)), (2, .one (.str v1)), (7, .one (.int .i64 v2))] [(0, some (80, [.sl false 5 v3, .int .i64 v4, .int .u64 v5]))] : St D0) ((fun up => (onN (fun s => zq70.C.tidy 26 s ((onN Kn26 up) .normal)) (onN Kn26 up))) (blockK 0 (onN (fun s => zq70.C.tidy 6 s (fun s' => runC zq70.C (zq70.O N) N zq70.c7 7 s' zq70.K0)) zq70.K0))) = zq70.o1 N v0 v1 v2 v3 v4 v5 ((fun w0 w1 w2 w3 w4 w5 => runC zq70.C (zq70.O N) N H105 105 (mkSt [(0, .one (.ptr 0 0)), (1, .one (.str w0)), (2, .one (.str w1)), (7, .one (.int .i64 w2))] [(0, some (80, [.sl false 5 w3, .int .i64 w4, .int .u64 w5]))] : St D0) ((fun up => (onN (fun s => zq70.C.tidy 26 s ((onN Kn26 up) .normal)) (onN Kn26 up))) (blockK 0 (onN (fun s => zq70.C.tidy 6 s (fun s' => runC zq70.C (zq70.O N) N zq70.c7 7 s' zq70.K0)) zq70.K0))))) := by kernel_rfl
def zq70.d1 (N : Nat) (v0 : ByteArray) (v1 : ByteArray) (v2 : Int) (v3 : List Int) (v4 : Int) (v5 : Int) (c1 : ByteArray → ByteArray → Int → (List Int) → Int → Int → Option zq70.R) : Option zq70.R := zq70.o1 N v0 v1 v2 v3 v4 v5 ((fun w0 w1 w2 w3 w4 w5 => zq70.d2 N w0 w1 w2 w3 w4 w5 c1))
theorem zq70.c52_1 : zq70.c52 = (.seq zq70.c104 zq70.c105) := by kernel_rfl
theorem zq70.d1.run (N : Nat) (Kn26 : St D0 → Option zq70.R) (v0 : ByteArray) (v1 : ByteArray) (v2 : Int) (v3 : List Int) (v4 : Int) (v5 : Int) : runC zq70.C (zq70.O N) N zq70.c52 52 (mkSt [(0, .one (.ptr 0 0)), (1, .one (.str v0)), (2, .one (.str v1)), (7, .one (.int .i64 v2))] [(0, some (80, [.sl false 5 v3, .int .i64 v4, .int .u64 v5]))] : St D0) (zq70.K52 N Kn26) = zq70.d1 N v0 v1 v2 v3 v4 v5 ((fun w0 w1 w2 w3 w4 w5 => Kn26 (mkSt [(0, .one (.ptr 0 0)), (1, .one (.str w0)), (2, .one (.str w1)), (7, .one (.int .i64 w2))] [(0, some (80, [.sl false 5 w3, .int .i64 w4, .int .u64 w5]))] : St D0))) := by
  rw [zq70.c52_1]; unfold zq70.d1; exact (zq70.o1.run N Kn26 zq70.c105 v0 v1 v2 v3 v4 v5).trans (congr rfl (funext fun w0 => funext fun w1 => funext fun w2 => funext fun w3 => funext fun w4 => funext fun w5 => zq70.d2.run N Kn26 w0 w1 w2 w3 w4 w5))
def zq70.K26 (N : Nat) : Ex → St D0 → Option zq70.R := (blockK 0 (onN (fun s => zq70.C.tidy 6 s (fun s' => runC zq70.C (zq70.O N) N zq70.c7 7 s' zq70.K0)) zq70.K0))
def zq70.l1 (N : Nat) : Nat → ByteArray → ByteArray → Int → (List Int) → Int → Int → Option zq70.R
  | 0, _, _, _, _, _, _ => none
  | n + 1, v0, v1, v2, v3, v4, v5 => zq70.d1 N v0 v1 v2 v3 v4 v5 ((fun w0 w1 w2 w3 w4 w5 => zq70.l1 N n w0 w1 w2 w3 w4 w5))
theorem zq70.loop26 (N : Nat) : ∀ n, (∀ (v0 : ByteArray) (v1 : ByteArray) (v2 : Int) (v3 : List Int) (v4 : Int) (v5 : Int), iter (loopF zq70.C (zq70.O N) N zq70.c52 26) n (mkSt [(0, .one (.ptr 0 0)), (1, .one (.str v0)), (2, .one (.str v1)), (7, .one (.int .i64 v2))] [(0, some (80, [.sl false 5 v3, .int .i64 v4, .int .u64 v5]))] : St D0) (zq70.K26 N) = zq70.l1 N n v0 v1 v2 v3 v4 v5)
  | 0 => (fun v0 v1 v2 v3 v4 v5 => rfl)
  | n + 1 => (fun v0 v1 v2 v3 v4 v5 => (zq70.d1.run N (fun s => iter (loopF zq70.C (zq70.O N) N zq70.c52 26) n s (zq70.K26 N)) v0 v1 v2 v3 v4 v5).trans (show _ = zq70.d1 N v0 v1 v2 v3 v4 v5 ((fun w0 w1 w2 w3 w4 w5 => zq70.l1 N n w0 w1 w2 w3 w4 w5)) from (congr rfl (funext fun w0 => funext fun w1 => funext fun w2 => funext fun w3 => funext fun w4 => funext fun w5 => (zq70.loop26 N n) w0 w1 w2 w3 w4 w5))))
def zq70.o0 (N : Nat) (a1 : ByteArray) (a2 : ByteArray) (b0_0 : List Int) (b0_1 : Int) (b0_2 : Int) (c1 : ByteArray → ByteArray → Int → (List Int) → Int → Int → Option zq70.R) : Option zq70.R :=
 (zq68.g N 2 b0_0 b0_1 b0_2).bind fun r1 =>
 c1 a1 a2 (w64 (1 + r1.1)) r1.2.1 r1.2.2.1 r1.2.2.2
theorem zq70.o0.run (N : Nat) (H52 : Code) (a1 : ByteArray) (a2 : ByteArray) (b0_0 : List Int) (b0_1 : Int) (b0_2 : Int) : runC zq70.C (zq70.O N) N (.seq zq70.c2 (.seq (.seq zq70.c12 (.block 0 (.loop H52))) zq70.c7)) 1 (st0 [.one (.ptr 0 0), .one (.str a1), .one (.str a2)] [(80, [.sl false 5 b0_0, .int .i64 b0_1, .int .u64 b0_2])] : St D0) zq70.K0 = zq70.o0 N a1 a2 b0_0 b0_1 b0_2 ((fun w0 w1 w2 w3 w4 w5 => iter (loopF zq70.C (zq70.O N) N H52 26) N (mkSt [(0, .one (.ptr 0 0)), (1, .one (.str w0)), (2, .one (.str w1)), (7, .one (.int .i64 w2))] [(0, some (80, [.sl false 5 w3, .int .i64 w4, .int .u64 w5]))] : St D0) (blockK 0 (onN (fun s => zq70.C.tidy 6 s (fun s' => runC zq70.C (zq70.O N) N zq70.c7 7 s' zq70.K0)) zq70.K0)))) := by kernel_rfl
def zq70.g (N : Nat) (a1 : ByteArray) (a2 : ByteArray) (b0_0 : List Int) (b0_1 : Int) (b0_2 : Int) : Option zq70.R := zq70.o0 N a1 a2 b0_0 b0_1 b0_2 ((fun w0 w1 w2 w3 w4 w5 => zq70.l1 N N w0 w1 w2 w3 w4 w5))
theorem zq70.c1_0 : zq70.c1 = (.seq zq70.c2 (.seq (.seq zq70.c12 (.block 0 (.loop zq70.c52))) zq70.c7)) := by kernel_rfl
theorem zq70.g.run (N : Nat) (a1 : ByteArray) (a2 : ByteArray) (b0_0 : List Int) (b0_1 : Int) (b0_2 : Int) : runC zq70.C (zq70.O N) N zq70.c1 1 (st0 [.one (.ptr 0 0), .one (.str a1), .one (.str a2)] [(80, [.sl false 5 b0_0, .int .i64 b0_1, .int .u64 b0_2])] : St D0) zq70.K0 = zq70.g N a1 a2 b0_0 b0_1 b0_2 := by
  rw [zq70.c1_0]; unfold zq70.g; exact (zq70.o0.run N zq70.c52 a1 a2 b0_0 b0_1 b0_2).trans (congr rfl (funext fun w0 => funext fun w1 => funext fun w2 => funext fun w3 => funext fun w4 => funext fun w5 => (zq70.loop26 N N) w0 w1 w2 w3 w4 w5))
theorem zq70.good (N : Nat) (a1 : ByteArray) (a2 : ByteArray) (b0_0 : List Int) (b0_1 : Int) (b0_2 : Int) (r : zq70.R) (h : zq70.g N a1 a2 b0_0 b0_1 b0_2 = some r) : Go.PM.Good Tryz.prog T0 65 [.one (.ptr 0 0), .one (.str a1), .one (.str a2)] [(80, [.sl false 5 b0_0, .int .i64 b0_1, .int .u64 b0_2])] (zq70.sig.ret r) (zq70.sig.bs r) :=
  good_fn tabOk0 mixed0 zq70.sig (zq70.E N) Tryz.func65 (by kernel_rfl) (by kernel_rfl) 36046423565272007 0 1 [(26, [0, 1, 2, 7], [0]), (104, [0, 1, 2, 7], [0]), (210, [0, 1, 2, 7], [0])] 15427856452832797696 false [] [(false, [.any])] (by kernel_rfl) rfl rfl ((zq70.g.run N a1 a2 b0_0 b0_1 b0_2).trans h)
def zq70.ent (N : Nat) : Ent Tryz.prog T0 := mkEnt 65 [(false, [.any]), (false, [.any]), (false, [.any])] zq70.sig (fun t => zq70.g N t.2.1 t.2.2.1 t.2.2.2.1 t.2.2.2.2.1 t.2.2.2.2.2) (fun t r h => zq70.good N t.2.1 t.2.2.1 t.2.2.2.1 t.2.2.2.2.1 t.2.2.2.2.2 r h)
/-! ### zq48 -/
abbrev zq48.R : Type := ByteArray
abbrev zq48.sig : Sig := ⟨[(false, 1)], [], [.sl false 5], [(false, 1)], [], [.str]⟩
def zq48.C : Cfg D0 := ⟨Tryz.prog, T0, 4125, 0, 17, 0, [(30, [4], [])], 26880, false, []⟩
def zq48.E (N : Nat) : List (Ent Tryz.prog T0) := [zq71.ent N, zq87.ent N, zq67.ent N, zq70.ent N]
def zq48.O (N : Nat) : Orc D0 zq48.R := orcOf (zq48.E N)
def zq48.K0 : Ex → St D0 → Option zq48.R := exitK zq48.C Tryz.f37.results.toList [(false, [.any])] (decOut zq48.sig)
def zq48.c1 : Code := codeAt (Tryz.f37.body.getD .skip) []
def zq48.c2 : Code := codeAt (Tryz.f37.body.getD .skip) [false]
def zq48.c6 : Code := codeAt (Tryz.f37.body.getD .skip) [true, false]
def zq48.c14 : Code := codeAt (Tryz.f37.body.getD .skip) [true, true, false]
def zq48.c30 : Code := codeAt (Tryz.f37.body.getD .skip) [true, true, true, false]
def zq48.c31 : Code := codeAt (Tryz.f37.body.getD .skip) [true, true, true, true]
def zq48.K31 (N : Nat) : Ex → St D0 → Option zq48.R := zq48.K0
def zq48.o1 (N : Nat) (v0 : ByteArray) : Option zq48.R :=
 some (v0)
theorem zq48.o1.run (N : Nat) (v0 : ByteArray) : runC zq48.C (zq48.O N) N zq48.c31 31 (mkSt [(4, .one (.str v0))] [] : St D0) zq48.K0 = zq48.o1 N v0 := by kernel_rfl
def zq48.d1 (N : Nat) (v0 : ByteArray) : Option zq48.R := zq48.o1 N v0
theorem zq48.d1.run (N : Nat) (v0 : ByteArray) : runC zq48.C (zq48.O N) N zq48.c31 31 (mkSt [(4, .one (.str v0))] [] : St D0) (zq48.K31 N) = zq48.d1 N v0 := by
  exact (zq48.o1.run N v0).trans rfl
def zq48.o0 (N : Nat) (a0 : List Int) (c1 : ByteArray → Option zq48.R) : Option zq48.R :=
 (zq71.g N 4 a0 0 0).bind fun r1 =>
 (zq87.g N r1.1 r1.2.1).bind fun r2 =>
 (zq67.g N 3 r1.2.2.1 r1.2.2.2.1 r1.2.2.2.2).bind fun r3 =>
 bif r3.1 then
  (zq70.g N r2 (⟨#[48, 49, 50, 51, 52, 53, 54, 46, 44, 58]⟩ : ByteArray) r3.2.1 r3.2.2.1 r3.2.2.2).bind fun r4 =>
  c1 r4.1
 else
 c1 r2
theorem zq48.o0.run (N : Nat) (H31 : Code) (a0 : List Int) : runC zq48.C (zq48.O N) N (.seq zq48.c2 (.seq zq48.c6 (.seq zq48.c14 (.seq zq48.c30 H31)))) 1 (st0 [.one (.sl false 5 a0)] [] : St D0) zq48.K0 = zq48.o0 N a0 ((fun w0 => runC zq48.C (zq48.O N) N H31 31 (mkSt [(4, .one (.str w0))] [] : St D0) zq48.K0)) := by kernel_rfl
def zq48.g (N : Nat) (a0 : List Int) : Option zq48.R := zq48.o0 N a0 ((fun w0 => zq48.d1 N w0))
theorem zq48.c1_0 : zq48.c1 = (.seq zq48.c2 (.seq zq48.c6 (.seq zq48.c14 (.seq zq48.c30 zq48.c31)))) := by kernel_rfl
theorem zq48.g.run (N : Nat) (a0 : List Int) : runC zq48.C (zq48.O N) N zq48.c1 1 (st0 [.one (.sl false 5 a0)] [] : St D0) zq48.K0 = zq48.g N a0 := by
  rw [zq48.c1_0]; unfold zq48.g; exact (zq48.o0.run N zq48.c31 a0).trans (congr rfl (funext fun w0 => zq48.d1.run N w0))
theorem zq48.good (N : Nat) (a0 : List Int) (r : zq48.R) (h : zq48.g N a0 = some r) : Go.PM.Good Tryz.prog T0 37 [.one (.sl false 5 a0)] [] (zq48.sig.ret r) (zq48.sig.bs r) :=
  good_fn tabOk0 mixed0 zq48.sig (zq48.E N) Tryz.func37 (by kernel_rfl) (by kernel_rfl) 4125 0 0 [(30, [4], [])] 26880 false [] [(false, [.any])] (by kernel_rfl) rfl rfl ((zq48.g.run N a0).trans h)
def zq48.ent (N : Nat) : Ent Tryz.prog T0 := mkEnt 37 [(false, [.ro 5])] zq48.sig (fun t => zq48.g N t) (fun t r h => zq48.good N t r h)
/-! ### zq47 -/
abbrev zq47.R : Type := Int × List S41
abbrev zq47.sig : Sig := ⟨[(false, 1)], [], [.sl false 5], [(true, 2)], [], [.int .i64, .sl true 41]⟩
def zq47.C : Cfg D0 := ⟨Tryz.prog, T0, 13, 0, 9, 0, [], 128, false, []⟩
def zq47.E (N : Nat) : List (Ent Tryz.prog T0) := [zq69.ent N]
def zq47.O (N : Nat) : Orc D0 zq47.R := orcOf (zq47.E N)
def zq47.K0 : Ex → St D0 → Option zq47.R := exitK zq47.C Tryz.f62.results.toList [(true, [.any, .own 41])] (decOut zq47.sig)
def zq47.c1 : Code := codeAt (Tryz.f62.body.getD .skip) []
def zq47.o0 (N : Nat) (a0 : List Int) : Option zq47.R :=
 (zq69.g N a0 0 0).bind fun r1 =>
 some (r1.1, r1.2.1)
theorem zq47.o0.run (N : Nat) (a0 : List Int) : runC zq47.C (zq47.O N) N zq47.c1 1 (st0 [.one (.sl false 5 a0)] [] : St D0) zq47.K0 = zq47.o0 N a0 := by kernel_rfl
def zq47.g (N : Nat) (a0 : List Int) : Option zq47.R := zq47.o0 N a0
theorem zq47.g.run (N : Nat) (a0 : List Int) : runC zq47.C (zq47.O N) N zq47.c1 1 (st0 [.one (.sl false 5 a0)] [] : St D0) zq47.K0 = zq47.g N a0 := by
  exact (zq47.o0.run N a0).trans rfl
theorem zq47.good (N : Nat) (a0 : List Int) (r : zq47.R) (h : zq47.g N a0 = some r) : Go.PM.Good Tryz.prog T0 62 [.one (.sl false 5 a0)] [] (zq47.sig.ret r) (zq47.sig.bs r) :=
  good_fn tabOk0 mixed0 zq47.sig (zq47.E N) Tryz.func62 (by kernel_rfl) (by kernel_rfl) 13 0 0 [] 128 false [] [(true, [.any, .own 41])] (by kernel_rfl) rfl rfl ((zq47.g.run N a0).trans h)
def zq47.ent (N : Nat) : Ent Tryz.prog T0 := mkEnt 62 [(false, [.ro 5])] zq47.sig (fun t => zq47.g N t) (fun t r h => zq47.good N t r h)
/-! ### zq49 -/
abbrev zq49.R : Type := Int × List S41
abbrev zq49.sig : Sig := ⟨[(false, 1)], [], [.sl false 5], [(true, 2)], [], [.int .i64, .sl true 41]⟩
def zq49.C : Cfg D0 := ⟨Tryz.prog, T0, 5, 0, 5, 0, [], 8, false, []⟩
def zq49.E (N : Nat) : List (Ent Tryz.prog T0) := [zq47.ent N]
def zq49.O (N : Nat) : Orc D0 zq49.R := orcOf (zq49.E N)
def zq49.K0 : Ex → St D0 → Option zq49.R := exitK zq49.C Tryz.f36.results.toList [(true, [.any, .own 41])] (decOut zq49.sig)
def zq49.c1 : Code := codeAt (Tryz.f36.body.getD .skip) []
def zq49.o0 (N : Nat) (a0 : List Int) : Option zq49.R :=
 (zq47.g N a0).bind fun r1 =>
 some (r1.1, r1.2)
theorem zq49.o0.run (N : Nat) (a0 : List Int) : runC zq49.C (zq49.O N) N zq49.c1 1 (st0 [.one (.sl false 5 a0)] [] : St D0) zq49.K0 = zq49.o0 N a0 := by kernel_rfl
def zq49.g (N : Nat) (a0 : List Int) : Option zq49.R := zq49.o0 N a0
theorem zq49.g.run (N : Nat) (a0 : List Int) : runC zq49.C (zq49.O N) N zq49.c1 1 (st0 [.one (.sl false 5 a0)] [] : St D0) zq49.K0 = zq49.g N a0 := by
  exact (zq49.o0.run N a0).trans rfl
theorem zq49.good (N : Nat) (a0 : List Int) (r : zq49.R) (h : zq49.g N a0 = some r) : Go.PM.Good Tryz.prog T0 36 [.one (.sl false 5 a0)] [] (zq49.sig.ret r) (zq49.sig.bs r) :=
  good_fn tabOk0 mixed0 zq49.sig (zq49.E N) Tryz.func36 (by kernel_rfl) (by kernel_rfl) 5 0 0 [] 8 false [] [(true, [.any, .own 41])] (by kernel_rfl) rfl rfl ((zq49.g.run N a0).trans h)
def zq49.ent (N : Nat) : Ent Tryz.prog T0 := mkEnt 36 [(false, [.ro 5])] zq49.sig (fun t => zq49.g N t) (fun t r h => zq49.good N t r h)
/-! ### zq35 -/
abbrev zq35.R : Type := Bool
abbrev zq35.sig : Sig := ⟨[(false, 1), (false, 1)], [], [.sl false 5, .sl false 5], [(false, 1)], [], [.bool]⟩
def zq35.C : Cfg D0 := ⟨Tryz.prog, T0, 19, 0, 16, 0, [], 2592, false, []⟩
def zq35.E (N : Nat) : List (Ent Tryz.prog T0) := []
def zq35.O (N : Nat) : Orc D0 zq35.R := orcOf (zq35.E N)
def zq35.K0 : Ex → St D0 → Option zq35.R := exitK zq35.C Tryz.f35.results.toList [(false, [.any])] (decOut zq35.sig)
def zq35.c1 : Code := codeAt (Tryz.f35.body.getD .skip) []
def zq35.o0 (N : Nat) (a0 : List Int) (a1 : List Int) : Option zq35.R :=
 bif (decide ((a0.length : Int) > 1048576)) then
  some (true)
 else
 some ((decide ((a1.length : Int) > (w64 (1048576 - (a0.length : Int))))))
theorem zq35.o0.run (N : Nat) (a0 : List Int) (a1 : List Int) : runC zq35.C (zq35.O N) N zq35.c1 1 (st0 [.one (.sl false 5 a0), .one (.sl false 5 a1)] [] : St D0) zq35.K0 = zq35.o0 N a0 a1 := by kernel_rfl
def zq35.g (N : Nat) (a0 : List Int) (a1 : List Int) : Option zq35.R := zq35.o0 N a0 a1
theorem zq35.g.run (N : Nat) (a0 : List Int) (a1 : List Int) : runC zq35.C (zq35.O N) N zq35.c1 1 (st0 [.one (.sl false 5 a0), .one (.sl false 5 a1)] [] : St D0) zq35.K0 = zq35.g N a0 a1 := by
  exact (zq35.o0.run N a0 a1).trans rfl
theorem zq35.good (N : Nat) (a0 : List Int) (a1 : List Int) (r : zq35.R) (h : zq35.g N a0 a1 = some r) : Go.PM.Good Tryz.prog T0 35 [.one (.sl false 5 a0), .one (.sl false 5 a1)] [] (zq35.sig.ret r) (zq35.sig.bs r) :=
  good_fn tabOk0 mixed0 zq35.sig (zq35.E N) Tryz.func35 (by kernel_rfl) (by kernel_rfl) 19 0 0 [] 2592 false [] [(false, [.any])] (by kernel_rfl) rfl rfl ((zq35.g.run N a0 a1).trans h)
def zq35.ent (N : Nat) : Ent Tryz.prog T0 := mkEnt 35 [(false, [.ro 5]), (false, [.ro 5])] zq35.sig (fun t => zq35.g N t.1 t.2) (fun t r h => zq35.good N t.1 t.2 r h)
/-! ### zq33 -/
abbrev zq33.R : Type := Bool
abbrev zq33.sig : Sig := ⟨[(false, 1), (false, 1)], [], [.sl false 5, .sl false 5], [(false, 1)], [], [.bool]⟩
def zq33.C : Cfg D0 := ⟨Tryz.prog, T0, 2699348705801958712712683529902960268753157732192201177144703401987211147042556103404084069823464899557266303607164941842839057867348265991005750733665088781156339, 0, 551, 0, [(16777212, [1, 5, 6, 7, 10, 14, 15, 18, 22, 26, 30, 38, 318], [5]), (16777214, [1], []), (536870868, [1, 5, 6, 10, 18, 26, 30, 38, 42, 374], [5]), (536870908, [62, 63, 64, 538], [63]), (2147483482, [1, 5, 6, 10, 18, 26, 30, 38, 42, 43], [5]), (4294966970, [1, 5, 6, 10, 18, 26, 30, 38, 42, 407, 408, 409], [5]), (8589933946, [1, 5, 10, 26, 30, 38, 462, 463], [5]), (8589933950, [1, 517], []), (549755771466, [1, 5, 6, 10, 18, 26, 30, 38, 42, 43, 44, 382, 383, 384], [5]), (2199023088846, [1, 5, 6, 10, 18, 26, 30, 38, 42, 407, 408, 409, 458], [5]), (4398046180558, [1, 5, 10, 26, 30, 38, 462, 463, 503], [5])], 1382077089412862363338913850666433979187948805226154457371097328219408404533805936673612570931192792814996491275212330313726838354565336463088090162380949180387426304, false, []⟩
def zq33.E (N : Nat) : List (Ent Tryz.prog T0) := [zq35.ent N, zq49.ent N, zq17.ent N, zq58.ent N, zq1.ent N, zq46.ent N, zq4.ent N, zq50.ent N, zq16.ent N, zq57.ent N, zq9.ent N, zq52.ent N, zq13.ent N, zq54.ent N, zq11.ent N, zq53.ent N, zq0.ent N, zq45.ent N, zq15.ent N, zq56.ent N, zq38.ent N, zq39.ent N, zq7.ent N, zq51.ent N, zq48.ent N, zq14.ent N, zq55.ent N, zq37.ent N, zq2.ent N, zq36.ent N, zq5.ent N, zq12.ent N, zq3.ent N]
def zq33.O (N : Nat) : Orc D0 zq33.R := orcOf (zq33.E N)
def zq33.K0 : Ex → St D0 → Option zq33.R := exitK zq33.C Tryz.f4.results.toList [(false, [.any])] (decOut zq33.sig)
def zq33.c1 : Code := codeAt (Tryz.f4.body.getD .skip) []
def zq33.c2 : Code := codeAt (Tryz.f4.body.getD .skip) [false]
def zq33.c6 : Code := codeAt (Tryz.f4.body.getD .skip) [true, false]
def zq33.c14 : Code := codeAt (Tryz.f4.body.getD .skip) [true, true, false]
def zq33.c30 : Code := codeAt (Tryz.f4.body.getD .skip) [true, true, true, false]
def zq33.c62 : Code := codeAt (Tryz.f4.body.getD .skip) [true, true, true, true, false]
def zq33.c126 : Code := codeAt (Tryz.f4.body.getD .skip) [true, true, true, true, true, false]
def zq33.c254 : Code := codeAt (Tryz.f4.body.getD .skip) [true, true, true, true, true, true, false]
def zq33.c510 : Code := codeAt (Tryz.f4.body.getD .skip) [true, true, true, true, true, true, true, false]
def zq33.c1022 : Code := codeAt (Tryz.f4.body.getD .skip) [true, true, true, true, true, true, true, true, false]
def zq33.c2046 : Code := codeAt (Tryz.f4.body.getD .skip) [true, true, true, true, true, true, true, true, true, false]
def zq33.c4094 : Code := codeAt (Tryz.f4.body.getD .skip) [true, true, true, true, true, true, true, true, true, true, false]
def zq33.c8190 : Code := codeAt (Tryz.f4.body.getD .skip) [true, true, true, true, true, true, true, true, true, true, true, false]
def zq33.c16382 : Code := codeAt (Tryz.f4.body.getD .skip) [true, true, true, true, true, true, true, true, true, true, true, true, false]
def zq33.c32766 : Code := codeAt (Tryz.f4.body.getD .skip) [true, true, true, true, true, true, true, true, true, true, true, true, true, false]
def zq33.c65534 : Code := codeAt (Tryz.f4.body.getD .skip) [true, true, true, true, true, true, true, true, true, true, true, true, true, true, false]
def zq33.c131070 : Code := codeAt (Tryz.f4.body.getD .skip) [true, true, true, true, true, true, true, true, true, true, true, true, true, true, true, false]
def zq33.c262142 : Code := codeAt (Tryz.f4.body.getD .skip) [true, true, true, true, true, true, true, true, true, true, true, true, true, true, true, true, false]
def zq33.c524286 : Code := codeAt (Tryz.f4.body.getD .skip) [true, true, true, true, true, true, true, true, true, true, true, true, true, true, true, true, true, false]
def zq33.c1048574 : Code := codeAt (Tryz.f4.body.getD .skip) [true, true, true, true, true, true, true, true, true, true, true, true, true, true, true, true, true, true, false]
def zq33.c2097150 : Code := codeAt (Tryz.f4.body.getD .skip) [true, true, true, true, true, true, true, true, true, true, true, true, true, true, true, true, true, true, true, false]
def zq33.c4194302 : Code := codeAt (Tryz.f4.body.getD .skip) [true, true, true, true, true, true, true, true, true, true, true, true, true, true, true, true, true, true, true, true, false]
def zq33.c8388607 : Code := codeAt (Tryz.f4.body.getD .skip) [true, true, true, true, true, true, true, true, true, true, true, true, true, true, true, true, true, true, true, true, true, true]
def zq33.c16777212 : Code := codeAt (Tryz.f4.body.getD .skip) [true, true, true, true, true, true, true, true, true, true, true, true, true, true, true, true, true, true, true, true, true, false, false]
def zq33.c16777213 : Code := codeAt (Tryz.f4.body.getD .skip) [true, true, true, true, true, true, true, true, true, true, true, true, true, true, true, true, true, true, true, true, true, false, true]
def zq33.c16777215 : Code := codeAt (Tryz.f4.body.getD .skip) [true, true, true, true, true, true, true, true, true, true, true, true, true, true, true, true, true, true, true, true, true, true, true]
def zq33.c33554428 : Code := codeAt (Tryz.f4.body.getD .skip) [true, true, true, true, true, true, true, true, true, true, true, true, true, true, true, true, true, true, true, true, true, true, false, false]
def zq33.c33554430 : Code := codeAt (Tryz.f4.body.getD .skip) [true, true, true, true, true, true, true, true, true, true, true, true, true, true, true, true, true, true, true, true, true, true, true, false]
def zq33.c67108859 : Code := codeAt (Tryz.f4.body.getD .skip) [true, true, true, true, true, true, true, true, true, true, true, true, true, true, true, true, true, true, true, true, true, true, false, true, true]
def zq33.c67108862 : Code := codeAt (Tryz.f4.body.getD .skip) [true, true, true, true, true, true, true, true, true, true, true, true, true, true, true, true, true, true, true, true, true, true, true, true, false]
def zq33.c134217716 : Code := codeAt (Tryz.f4.body.getD .skip) [true, true, true, true, true, true, true, true, true, true, true, true, true, true, true, true, true, true, true, true, true, true, false, true, false, false]
def zq33.c134217726 : Code := codeAt (Tryz.f4.body.getD .skip) [true, true, true, true, true, true, true, true, true, true, true, true, true, true, true, true, true, true, true, true, true, true, true, true, true, false]
def zq33.c268435435 : Code := codeAt (Tryz.f4.body.getD .skip) [true, true, true, true, true, true, true, true, true, true, true, true, true, true, true, true, true, true, true, true, true, true, false, true, false, true, true]
def zq33.c268435455 : Code := codeAt (Tryz.f4.body.getD .skip) [true, true, true, true, true, true, true, true, true, true, true, true, true, true, true, true, true, true, true, true, true, true, true, true, true, true, true]
def zq33.c536870868 : Code := codeAt (Tryz.f4.body.getD .skip) [true, true, true, true, true, true, true, true, true, true, true, true, true, true, true, true, true, true, true, true, true, true, false, true, false, true, false, false]
def zq33.c536870869 : Code := codeAt (Tryz.f4.body.getD .skip) [true, true, true, true, true, true, true, true, true, true, true, true, true, true, true, true, true, true, true, true, true, true, false, true, false, true, false, true]
def zq33.c536870871 : Code := codeAt (Tryz.f4.body.getD .skip) [true, true, true, true, true, true, true, true, true, true, true, true, true, true, true, true, true, true, true, true, true, true, false, true, false, true, true, true]
def zq33.c536870908 : Code := codeAt (Tryz.f4.body.getD .skip) [true, true, true, true, true, true, true, true, true, true, true, true, true, true, true, true, true, true, true, true, true, true, true, true, true, true, false, false]
def zq33.c536870909 : Code := codeAt (Tryz.f4.body.getD .skip) [true, true, true, true, true, true, true, true, true, true, true, true, true, true, true, true, true, true, true, true, true, true, true, true, true, true, false, true]
def zq33.c1073741740 : Code := codeAt (Tryz.f4.body.getD .skip) [true, true, true, true, true, true, true, true, true, true, true, true, true, true, true, true, true, true, true, true, true, true, false, true, false, true, true, false, false]
def zq33.c1073741743 : Code := codeAt (Tryz.f4.body.getD .skip) [true, true, true, true, true, true, true, true, true, true, true, true, true, true, true, true, true, true, true, true, true, true, false, true, false, true, true, true, true]
def zq33.c2147483484 : Code := codeAt (Tryz.f4.body.getD .skip) [true, true, true, true, true, true, true, true, true, true, true, true, true, true, true, true, true, true, true, true, true, true, false, true, false, true, true, true, false, false]
def zq33.c2147483487 : Code := codeAt (Tryz.f4.body.getD .skip) [true, true, true, true, true, true, true, true, true, true, true, true, true, true, true, true, true, true, true, true, true, true, false, true, false, true, true, true, true, true]
def zq33.c4294966964 : Code := codeAt (Tryz.f4.body.getD .skip) [true, true, true, true, true, true, true, true, true, true, true, true, true, true, true, true, true, true, true, true, true, true, false, true, false, true, true, false, true, false, false]
def zq33.c4294966972 : Code := codeAt (Tryz.f4.body.getD .skip) [true, true, true, true, true, true, true, true, true, true, true, true, true, true, true, true, true, true, true, true, true, true, false, true, false, true, true, true, true, false, false]
def zq33.c4294966974 : Code := codeAt (Tryz.f4.body.getD .skip) [true, true, true, true, true, true, true, true, true, true, true, true, true, true, true, true, true, true, true, true, true, true, false, true, false, true, true, true, true, true, false]
def zq33.c8589933928 : Code := codeAt (Tryz.f4.body.getD .skip) [true, true, true, true, true, true, true, true, true, true, true, true, true, true, true, true, true, true, true, true, true, true, false, true, false, true, true, false, true, false, false, false]
def zq33.c8589933940 : Code := codeAt (Tryz.f4.body.getD .skip) [true, true, true, true, true, true, true, true, true, true, true, true, true, true, true, true, true, true, true, true, true, true, false, true, false, true, true, true, false, true, false, false]
def zq33.c8589933950 : Code := codeAt (Tryz.f4.body.getD .skip) [true, true, true, true, true, true, true, true, true, true, true, true, true, true, true, true, true, true, true, true, true, true, false, true, false, true, true, true, true, true, true, false]
def zq33.c8589933951 : Code := codeAt (Tryz.f4.body.getD .skip) [true, true, true, true, true, true, true, true, true, true, true, true, true, true, true, true, true, true, true, true, true, true, false, true, false, true, true, true, true, true, true, true]
def zq33.c17179867859 : Code := codeAt (Tryz.f4.body.getD .skip) [true, true, true, true, true, true, true, true, true, true, true, true, true, true, true, true, true, true, true, true, true, true, false, true, false, true, true, false, true, false, false, true, true]
def zq33.c17179867880 : Code := codeAt (Tryz.f4.body.getD .skip) [true, true, true, true, true, true, true, true, true, true, true, true, true, true, true, true, true, true, true, true, true, true, false, true, false, true, true, true, false, true, false, false, false]
def zq33.c17179867892 : Code := codeAt (Tryz.f4.body.getD .skip) [true, true, true, true, true, true, true, true, true, true, true, true, true, true, true, true, true, true, true, true, true, true, false, true, false, true, true, true, true, false, true, false, false]
def zq33.c34359735762 : Code := codeAt (Tryz.f4.body.getD .skip) [true, true, true, true, true, true, true, true, true, true, true, true, true, true, true, true, true, true, true, true, true, true, false, true, false, true, true, true, false, true, false, false, true, false]
def zq33.c34359735784 : Code := codeAt (Tryz.f4.body.getD .skip) [true, true, true, true, true, true, true, true, true, true, true, true, true, true, true, true, true, true, true, true, true, true, false, true, false, true, true, true, true, false, true, false, false, false]
def zq33.c68719471432 : Code := codeAt (Tryz.f4.body.getD .skip) [true, true, true, true, true, true, true, true, true, true, true, true, true, true, true, true, true, true, true, true, true, true, false, true, false, true, true, false, true, false, false, true, false, false, false]
def zq33.c68719471527 : Code := codeAt (Tryz.f4.body.getD .skip) [true, true, true, true, true, true, true, true, true, true, true, true, true, true, true, true, true, true, true, true, true, true, false, true, false, true, true, true, false, true, false, false, true, true, true]
def zq33.c68719471570 : Code := codeAt (Tryz.f4.body.getD .skip) [true, true, true, true, true, true, true, true, true, true, true, true, true, true, true, true, true, true, true, true, true, true, false, true, false, true, true, true, true, false, true, false, false, true, false]
def zq33.c137438942867 : Code := codeAt (Tryz.f4.body.getD .skip) [true, true, true, true, true, true, true, true, true, true, true, true, true, true, true, true, true, true, true, true, true, true, false, true, false, true, true, false, true, false, false, true, false, false, true, true]
def zq33.c137438943143 : Code := codeAt (Tryz.f4.body.getD .skip) [true, true, true, true, true, true, true, true, true, true, true, true, true, true, true, true, true, true, true, true, true, true, false, true, false, true, true, true, true, false, true, false, false, true, true, true]
def zq33.c274877885732 : Code := codeAt (Tryz.f4.body.getD .skip) [true, true, true, true, true, true, true, true, true, true, true, true, true, true, true, true, true, true, true, true, true, true, false, true, false, true, true, false, true, false, false, true, false, false, true, false, false]
def zq33.c274877886104 : Code := codeAt (Tryz.f4.body.getD .skip) [true, true, true, true, true, true, true, true, true, true, true, true, true, true, true, true, true, true, true, true, true, true, false, true, false, true, true, true, false, true, false, false, true, true, false, false, false]
def zq33.c549755772210 : Code := codeAt (Tryz.f4.body.getD .skip) [true, true, true, true, true, true, true, true, true, true, true, true, true, true, true, true, true, true, true, true, true, true, false, true, false, true, true, true, false, true, false, false, true, true, false, false, true, false]
def zq33.c549755772568 : Code := codeAt (Tryz.f4.body.getD .skip) [true, true, true, true, true, true, true, true, true, true, true, true, true, true, true, true, true, true, true, true, true, true, false, true, false, true, true, true, true, false, true, false, false, true, true, false, false, false]
def zq33.c1099511542932 : Code := codeAt (Tryz.f4.body.getD .skip) [true, true, true, true, true, true, true, true, true, true, true, true, true, true, true, true, true, true, true, true, true, true, false, true, false, true, true, false, true, false, false, true, false, false, true, false, true, false, false]
def zq33.c1099511544422 : Code := codeAt (Tryz.f4.body.getD .skip) [true, true, true, true, true, true, true, true, true, true, true, true, true, true, true, true, true, true, true, true, true, true, false, true, false, true, true, true, false, true, false, false, true, true, false, false, true, true, false]
def zq33.c1099511545138 : Code := codeAt (Tryz.f4.body.getD .skip) [true, true, true, true, true, true, true, true, true, true, true, true, true, true, true, true, true, true, true, true, true, true, false, true, false, true, true, true, true, false, true, false, false, true, true, false, false, true, false]
def zq33.c2199023088846 : Code := codeAt (Tryz.f4.body.getD .skip) [true, true, true, true, true, true, true, true, true, true, true, true, true, true, true, true, true, true, true, true, true, true, false, true, false, true, true, true, false, true, false, false, true, true, false, false, true, true, true, false]
def zq33.c2199023088847 : Code := codeAt (Tryz.f4.body.getD .skip) [true, true, true, true, true, true, true, true, true, true, true, true, true, true, true, true, true, true, true, true, true, true, false, true, false, true, true, true, false, true, false, false, true, true, false, false, true, true, true, true]
def zq33.c2199023090278 : Code := codeAt (Tryz.f4.body.getD .skip) [true, true, true, true, true, true, true, true, true, true, true, true, true, true, true, true, true, true, true, true, true, true, false, true, false, true, true, true, true, false, true, false, false, true, true, false, false, true, true, false]
def zq33.c4398046180558 : Code := codeAt (Tryz.f4.body.getD .skip) [true, true, true, true, true, true, true, true, true, true, true, true, true, true, true, true, true, true, true, true, true, true, false, true, false, true, true, true, true, false, true, false, false, true, true, false, false, true, true, true, false]
def zq33.c4398046180559 : Code := codeAt (Tryz.f4.body.getD .skip) [true, true, true, true, true, true, true, true, true, true, true, true, true, true, true, true, true, true, true, true, true, true, false, true, false, true, true, true, true, false, true, false, false, true, true, false, false, true, true, true, true]
def zq33.K16777215 (N : Nat) : Ex → St D0 → Option zq33.R := zq33.K0
def zq33.B8388607 (N : Nat) : St D0 → Option zq33.R := fun s' => runC zq33.C (zq33.O N) N zq33.c16777215 16777215 s' (zq33.K16777215 N)
def zq33.K1099511542932 (N : Nat) (Kn2147483482 : St D0 → Option zq33.R) (Kn549755771466 : St D0 → Option zq33.R) : Ex → St D0 → Option zq33.R := ((fun up => (onN (fun s => zq33.C.tidy 549755771466 s ((onN Kn549755771466 up) .normal)) (onN Kn549755771466 up))) (blockK 2 ((fun up => (onN (fun s => zq33.C.tidy 137438942866 s (fun s' => runC zq33.C (zq33.O N) N zq33.c137438942867 137438942867 s' up)) up)) (blockK 1 ((fun up => (onN (fun s => zq33.C.tidy 17179867858 s (fun s' => runC zq33.C (zq33.O N) N zq33.c17179867859 17179867859 s' up)) up)) ((fun up => (onN (fun s => zq33.C.tidy 2147483482 s ((onN Kn2147483482 up) .normal)) (onN Kn2147483482 up))) (blockK 0 ((fun up => (onN (fun s => zq33.C.tidy 536870870 s (fun s' => runC zq33.C (zq33.O N) N zq33.c536870871 536870871 s' up)) up)) (onN (fun s => zq33.C.tidy 16777214 s (zq33.B8388607 N)) zq33.K0)))))))))
def zq33.o6 (N : Nat) (v0 : List Int) (v1 : List Int) (v2 : Int) (v3 : List S46) (v4 : List Int) (v5 : List Int) (v6 : ByteArray) (v7 : Int) (v8 : Int) (v9 : Bool) (v10 : List S41) (v11 : Int) (v12 : Int) (v13 : Int) (v14 : List S41) (c6 : (List Int) → (List Int) → Int → (List S46) → (List Int) → (List Int) → ByteArray → Int → Int → Bool → (List S41) → Int → Int → Int → (List S41) → Option zq33.R) (c4 : (List Int) → (List Int) → Int → (List S46) → (List Int) → (List Int) → ByteArray → Int → Int → Int → (List S41) → Option zq33.R) : Option zq33.R :=
 bif (decide (v12 < v11)) then
  bif (decide (0 ≤ v12)) then
   bif (decide (v12 < (v10.length : Int))) then
    (v10[(v12 : Int).toNat]?).bind fun x1 =>
    (zq2.g N v7 x1.f0 x1.f1 x1.f2 v8).bind fun r2 =>
    bif (!r2.2) then
     some (false)
    else
    bif v9 then
     c6 v0 v1 v2 v3 v4 v5 v6 v7 v8 r2.1 v10 v11 (w64 (v12 + 1)) v13 v14
    else
    c6 v0 v1 v2 v3 v4 v5 v6 v7 v8 false v10 v11 (w64 (v12 + 1)) v13 v14
   else
   none
  else
  none
 else
 (zq36.g N v1 v8).bind fun r3 =>
 bif (!(v9 == r3)) then
  some (false)
 else
 c4 v0 v1 v2 v3 v4 v5 v6 v7 (w64 (v8 + 1)) v13 v14
theorem zq33.o6.run (N : Nat) (Kb8388607 : St D0 → Option zq33.R) (Kn2147483482 : St D0 → Option zq33.R) (Kn549755771466 : St D0 → Option zq33.R) (v0 : List Int) (v1 : List Int) (v2 : Int) (v3 : List S46) (v4 : List Int) (v5 : List Int) (v6 : ByteArray) (v7 : Int) (v8 : Int) (v9 : Bool) (v10 : List S41) (v11 : Int) (v12 : Int) (v13 : Int) (v14 : List S41) : runC zq33.C (zq33.O N) N zq33.c1099511542932 1099511542932 (mkSt [(1, .one (.sl false 5 v0)), (5, .one (.ptr 5 0)), (6, .one (.sl true 3 v1)), (10, .one (.int .i64 v2)), (18, .one (.sl true 46 v3)), (26, .one (.sl true 3 v4)), (30, .one (.sl true 3 v5)), (38, .one (.str v6)), (42, .one (.int .i64 v7)), (43, .one (.int .i64 v8)), (44, .one (.bool v9)), (382, .one (.sl false 41 v10)), (383, .one (.int .i64 v11)), (384, .one (.int .i64 v12))] [(5, some (24, [.int .i64 v13, .sl true 41 v14]))] : St D0) ((fun up => (onN (fun s => zq33.C.tidy 549755771466 s ((onN Kn549755771466 up) .normal)) (onN Kn549755771466 up))) (blockK 2 ((fun up => (onN (fun s => zq33.C.tidy 137438942866 s (fun s' => runC zq33.C (zq33.O N) N zq33.c137438942867 137438942867 s' up)) up)) (blockK 1 ((fun up => (onN (fun s => zq33.C.tidy 17179867858 s (fun s' => runC zq33.C (zq33.O N) N zq33.c17179867859 17179867859 s' up)) up)) ((fun up => (onN (fun s => zq33.C.tidy 2147483482 s ((onN Kn2147483482 up) .normal)) (onN Kn2147483482 up))) (blockK 0 ((fun up => (onN (fun s => zq33.C.tidy 536870870 s (fun s' => runC zq33.C (zq33.O N) N zq33.c536870871 536870871 s' up)) up)) (onN (fun s => zq33.C.tidy 16777214 s Kb8388607) zq33.K0))))))))) = zq33.o6 N v0 v1 v2 v3 v4 v5 v6 v7 v8 v9 v10 v11 v12 v13 v14 ((fun w0 w1 w2 w3 w4 w5 w6 w7 w8 w9 w10 w11 w12 w13 w14 => Kn549755771466 (mkSt [(1, .one (.sl false 5 w0)), (5, .one (.ptr 5 0)), (6, .one (.sl true 3 w1)), (10, .one (.int .i64 w2)), (18, .one (.sl true 46 w3)), (26, .one (.sl true 3 w4)), (30, .one (.sl true 3 w5)), (38, .one (.str w6)), (42, .one (.int .i64 w7)), (43, .one (.int .i64 w8)), (44, .one (.bool w9)), (382, .one (.sl false 41 w10)), (383, .one (.int .i64 w11)), (384, .one (.int .i64 w12))] [(5, some (24, [.int .i64 w13, .sl true 41 w14]))] : St D0))) ((fun w0 w1 w2 w3 w4 w5 w6 w7 w8 w9 w10 => Kn2147483482 (mkSt [(1, .one (.sl false 5 w0)), (5, .one (.ptr 5 0)), (6, .one (.sl true 3 w1)), (10, .one (.int .i64 w2)), (18, .one (.sl true 46 w3)), (26, .one (.sl true 3 w4)), (30, .one (.sl true 3 w5)), (38, .one (.str w6)), (42, .one (.int .i64 w7)), (43, .one (.int .i64 w8))] [(5, some (24, [.int .i64 w9, .sl true 41 w10]))] : St D0))) := by kernel_rfl
def zq33.d6 (N : Nat) (v0 : List Int) (v1 : List Int) (v2 : Int) (v3 : List S46) (v4 : List Int) (v5 : List Int) (v6 : ByteArray) (v7 : Int) (v8 : Int) (v9 : Bool) (v10 : List S41) (v11 : Int) (v12 : Int) (v13 : Int) (v14 : List S41) (c4 : (List Int) → (List Int) → Int → (List S46) → (List Int) → (List Int) → ByteArray → Int → Int → Int → (List S41) → Option zq33.R) (c6 : (List Int) → (List Int) → Int → (List S46) → (List Int) → (List Int) → ByteArray → Int → Int → Bool → (List S41) → Int → Int → Int → (List S41) → Option zq33.R) : Option zq33.R := zq33.o6 N v0 v1 v2 v3 v4 v5 v6 v7 v8 v9 v10 v11 v12 v13 v14 c6 c4
theorem zq33.d6.run (N : Nat) (Kn2147483482 : St D0 → Option zq33.R) (Kn549755771466 : St D0 → Option zq33.R) (v0 : List Int) (v1 : List Int) (v2 : Int) (v3 : List S46) (v4 : List Int) (v5 : List Int) (v6 : ByteArray) (v7 : Int) (v8 : Int) (v9 : Bool) (v10 : List S41) (v11 : Int) (v12 : Int) (v13 : Int) (v14 : List S41) : runC zq33.C (zq33.O N) N zq33.c1099511542932 1099511542932 (mkSt [(1, .one (.sl false 5 v0)), (5, .one (.ptr 5 0)), (6, .one (.sl true 3 v1)), (10, .one (.int .i64 v2)), (18, .one (.sl true 46 v3)), (26, .one (.sl true 3 v4)), (30, .one (.sl true 3 v5)), (38, .one (.str v6)), (42, .one (.int .i64 v7)), (43, .one (.int .i64 v8)), (44, .one (.bool v9)), (382, .one (.sl false 41 v10)), (383, .one (.int .i64 v11)), (384, .one (.int .i64 v12))] [(5, some (24, [.int .i64 v13, .sl true 41 v14]))] : St D0) (zq33.K1099511542932 N Kn2147483482 Kn549755771466) = zq33.d6 N v0 v1 v2 v3 v4 v5 v6 v7 v8 v9 v10 v11 v12 v13 v14 ((fun w0 w1 w2 w3 w4 w5 w6 w7 w8 w9 w10 => Kn2147483482 (mkSt [(1, .one (.sl false 5 w0)), (5, .one (.ptr 5 0)), (6, .one (.sl true 3 w1)), (10, .one (.int .i64 w2)), (18, .one (.sl true 46 w3)), (26, .one (.sl true 3 w4)), (30, .one (.sl true 3 w5)), (38, .one (.str w6)), (42, .one (.int .i64 w7)), (43, .one (.int .i64 w8))] [(5, some (24, [.int .i64 w9, .sl true 41 w10]))] : St D0))) ((fun w0 w1 w2 w3 w4 w5 w6 w7 w8 w9 w10 w11 w12 w13 w14 => Kn549755771466 (mkSt [(1, .one (.sl false 5 w0)), (5, .one (.ptr 5 0)), (6, .one (.sl true 3 w1)), (10, .one (.int .i64 w2)), (18, .one (.sl true 46 w3)), (26, .one (.sl true 3 w4)), (30, .one (.sl true 3 w5)), (38, .one (.str w6)), (42, .one (.int .i64 w7)), (43, .one (.int .i64 w8)), (44, .one (.bool w9)), (382, .one (.sl false 41 w10)), (383, .one (.int .i64 w11)), (384, .one (.int .i64 w12))] [(5, some (24, [.int .i64 w13, .sl true 41 w14]))] : St D0))) := by
  exact (zq33.o6.run N (zq33.B8388607 N) Kn2147483482 Kn549755771466 v0 v1 v2 v3 v4 v5 v6 v7 v8 v9 v10 v11 v12 v13 v14).trans rfl
def zq33.K549755771466 (N : Nat) (Kn2147483482 : St D0 → Option zq33.R) : Ex → St D0 → Option zq33.R := (blockK 2 ((fun up => (onN (fun s => zq33.C.tidy 137438942866 s (fun s' => runC zq33.C (zq33.O N) N zq33.c137438942867 137438942867 s' up)) up)) (blockK 1 ((fun up => (onN (fun s => zq33.C.tidy 17179867858 s (fun s' => runC zq33.C (zq33.O N) N zq33.c17179867859 17179867859 s' up)) up)) ((fun up => (onN (fun s => zq33.C.tidy 2147483482 s ((onN Kn2147483482 up) .normal)) (onN Kn2147483482 up))) (blockK 0 ((fun up => (onN (fun s => zq33.C.tidy 536870870 s (fun s' => runC zq33.C (zq33.O N) N zq33.c536870871 536870871 s' up)) up)) (onN (fun s => zq33.C.tidy 16777214 s (zq33.B8388607 N)) zq33.K0))))))))
def zq33.l6 (N : Nat) : Nat → (List Int) → (List Int) → Int → (List S46) → (List Int) → (List Int) → ByteArray → Int → Int → Bool → (List S41) → Int → Int → Int → (List S41) → ((List Int) → (List Int) → Int → (List S46) → (List Int) → (List Int) → ByteArray → Int → Int → Int → (List S41) → Option zq33.R) → Option zq33.R
  | 0, _, _, _, _, _, _, _, _, _, _, _, _, _, _, _, _ => none
  | n + 1, v0, v1, v2, v3, v4, v5, v6, v7, v8, v9, v10, v11, v12, v13, v14, c4 => zq33.d6 N v0 v1 v2 v3 v4 v5 v6 v7 v8 v9 v10 v11 v12 v13 v14 c4 ((fun w0 w1 w2 w3 w4 w5 w6 w7 w8 w9 w10 w11 w12 w13 w14 => zq33.l6 N n w0 w1 w2 w3 w4 w5 w6 w7 w8 w9 w10 w11 w12 w13 w14 c4))
theorem zq33.loop549755771466 (N : Nat) (Kn2147483482 : St D0 → Option zq33.R) : ∀ n, (∀ (v0 : List Int) (v1 : List Int) (v2 : Int) (v3 : List S46) (v4 : List Int) (v5 : List Int) (v6 : ByteArray) (v7 : Int) (v8 : Int) (v9 : Bool) (v10 : List S41) (v11 : Int) (v12 : Int) (v13 : Int) (v14 : List S41), iter (loopF zq33.C (zq33.O N) N zq33.c1099511542932 549755771466) n (mkSt [(1, .one (.sl false 5 v0)), (5, .one (.ptr 5 0)), (6, .one (.sl true 3 v1)), (10, .one (.int .i64 v2)), (18, .one (.sl true 46 v3)), (26, .one (.sl true 3 v4)), (30, .one (.sl true 3 v5)), (38, .one (.str v6)), (42, .one (.int .i64 v7)), (43, .one (.int .i64 v8)), (44, .one (.bool v9)), (382, .one (.sl false 41 v10)), (383, .one (.int .i64 v11)), (384, .one (.int .i64 v12))] [(5, some (24, [.int .i64 v13, .sl true 41 v14]))] : St D0) (zq33.K549755771466 N Kn2147483482) = zq33.l6 N n v0 v1 v2 v3 v4 v5 v6 v7 v8 v9 v10 v11 v12 v13 v14 ((fun w0 w1 w2 w3 w4 w5 w6 w7 w8 w9 w10 => Kn2147483482 (mkSt [(1, .one (.sl false 5 w0)), (5, .one (.ptr 5 0)), (6, .one (.sl true 3 w1)), (10, .one (.int .i64 w2)), (18, .one (.sl true 46 w3)), (26, .one (.sl true 3 w4)), (30, .one (.sl true 3 w5)), (38, .one (.str w6)), (42, .one (.int .i64 w7)), (43, .one (.int .i64 w8))] [(5, some (24, [.int .i64 w9, .sl true 41 w10]))] : St D0))))
  | 0 => (fun v0 v1 v2 v3 v4 v5 v6 v7 v8 v9 v10 v11 v12 v13 v14 => rfl)
  | n + 1 => (fun v0 v1 v2 v3 v4 v5 v6 v7 v8 v9 v10 v11 v12 v13 v14 => (zq33.d6.run N Kn2147483482 (fun s => iter (loopF zq33.C (zq33.O N) N zq33.c1099511542932 549755771466) n s (zq33.K549755771466 N Kn2147483482)) v0 v1 v2 v3 v4 v5 v6 v7 v8 v9 v10 v11 v12 v13 v14).trans (show _ = zq33.d6 N v0 v1 v2 v3 v4 v5 v6 v7 v8 v9 v10 v11 v12 v13 v14 ((fun w0 w1 w2 w3 w4 w5 w6 w7 w8 w9 w10 => Kn2147483482 (mkSt [(1, .one (.sl false 5 w0)), (5, .one (.ptr 5 0)), (6, .one (.sl true 3 w1)), (10, .one (.int .i64 w2)), (18, .one (.sl true 46 w3)), (26, .one (.sl true 3 w4)), (30, .one (.sl true 3 w5)), (38, .one (.str w6)), (42, .one (.int .i64 w7)), (43, .one (.int .i64 w8))] [(5, some (24, [.int .i64 w9, .sl true 41 w10]))] : St D0))) ((fun w0 w1 w2 w3 w4 w5 w6 w7 w8 w9 w10 w11 w12 w13 w14 => zq33.l6 N n w0 w1 w2 w3 w4 w5 w6 w7 w8 w9 w10 w11 w12 w13 w14 ((fun w0 w1 w2 w3 w4 w5 w6 w7 w8 w9 w10 => Kn2147483482 (mkSt [(1, .one (.sl false 5 w0)), (5, .one (.ptr 5 0)), (6, .one (.sl true 3 w1)), (10, .one (.int .i64 w2)), (18, .one (.sl true 46 w3)), (26, .one (.sl true 3 w4)), (30, .one (.sl true 3 w5)), (38, .one (.str w6)), (42, .one (.int .i64 w7)), (43, .one (.int .i64 w8))] [(5, some (24, [.int .i64 w9, .sl true 41 w10]))] : St D0))))) from (congr (congr rfl rfl) (funext fun w0 => funext fun w1 => funext fun w2 => funext fun w3 => funext fun w4 => funext fun w5 => funext fun w6 => funext fun w7 => funext fun w8 => funext fun w9 => funext fun w10 => funext fun w11 => funext fun w12 => funext fun w13 => funext fun w14 => (zq33.loop549755771466 N Kn2147483482 n) w0 w1 w2 w3 w4 w5 w6 w7 w8 w9 w10 w11 w12 w13 w14))))
def zq33.K2199023088847 (N : Nat) (Kn4294966970 : St D0 → Option zq33.R) : Ex → St D0 → Option zq33.R := (blockK 5 ((fun up => (onN (fun s => zq33.C.tidy 68719471526 s (fun s' => runC zq33.C (zq33.O N) N zq33.c68719471527 68719471527 s' up)) up)) ((fun up => (onN (fun s => zq33.C.tidy 4294966970 s ((onN Kn4294966970 up) .normal)) (onN Kn4294966970 up))) (blockK 4 ((fun up => (onN (fun s => zq33.C.tidy 1073741742 s (fun s' => runC zq33.C (zq33.O N) N zq33.c1073741743 1073741743 s' up)) up)) (onN (fun s => zq33.C.tidy 16777214 s (zq33.B8388607 N)) zq33.K0))))))
def zq33.o8 (N : Nat) (v0 : List Int) (v1 : List Int) (v2 : Int) (v3 : List S46) (v4 : List Int) (v5 : List Int) (v6 : ByteArray) (v7 : Int) (v8 : List Int) (v9 : Int) (v10 : Int) (v11 : Bool) (v12 : Int) (v13 : List S41) (c7 : (List Int) → (List Int) → Int → (List S46) → (List Int) → (List Int) → ByteArray → Int → (List Int) → Int → Int → Int → (List S41) → Option zq33.R) : Option zq33.R :=
 bif v11 then
  some (false)
 else
 c7 v0 v1 v2 v3 v4 v5 v6 v7 v8 v9 (w64 (v10 + 1)) v12 v13
theorem zq33.o8.run (N : Nat) (Kb8388607 : St D0 → Option zq33.R) (Kn4294966970 : St D0 → Option zq33.R) (v0 : List Int) (v1 : List Int) (v2 : Int) (v3 : List S46) (v4 : List Int) (v5 : List Int) (v6 : ByteArray) (v7 : Int) (v8 : List Int) (v9 : Int) (v10 : Int) (v11 : Bool) (v12 : Int) (v13 : List S41) : runC zq33.C (zq33.O N) N zq33.c2199023088847 2199023088847 (mkSt [(1, .one (.sl false 5 v0)), (5, .one (.ptr 5 0)), (6, .one (.sl false 3 v1)), (10, .one (.int .i64 v2)), (18, .one (.sl true 46 v3)), (26, .one (.sl true 3 v4)), (30, .one (.sl true 3 v5)), (38, .one (.str v6)), (42, .one (.int .i64 v7)), (407, .one (.sl true 3 v8)), (408, .one (.int .i64 v9)), (409, .one (.int .i64 v10)), (458, .one (.bool v11))] [(5, some (24, [.int .i64 v12, .sl true 41 v13]))] : St D0) (blockK 5 ((fun up => (onN (fun s => zq33.C.tidy 68719471526 s (fun s' => runC zq33.C (zq33.O N) N zq33.c68719471527 68719471527 s' up)) up)) ((fun up => (onN (fun s => zq33.C.tidy 4294966970 s ((onN Kn4294966970 up) .normal)) (onN Kn4294966970 up))) (blockK 4 ((fun up => (onN (fun s => zq33.C.tidy 1073741742 s (fun s' => runC zq33.C (zq33.O N) N zq33.c1073741743 1073741743 s' up)) up)) (onN (fun s => zq33.C.tidy 16777214 s Kb8388607) zq33.K0)))))) = zq33.o8 N v0 v1 v2 v3 v4 v5 v6 v7 v8 v9 v10 v11 v12 v13 ((fun w0 w1 w2 w3 w4 w5 w6 w7 w8 w9 w10 w11 w12 => Kn4294966970 (mkSt [(1, .one (.sl false 5 w0)), (5, .one (.ptr 5 0)), (6, .one (.sl false 3 w1)), (10, .one (.int .i64 w2)), (18, .one (.sl true 46 w3)), (26, .one (.sl true 3 w4)), (30, .one (.sl true 3 w5)), (38, .one (.str w6)), (42, .one (.int .i64 w7)), (407, .one (.sl true 3 w8)), (408, .one (.int .i64 w9)), (409, .one (.int .i64 w10))] [(5, some (24, [.int .i64 w11, .sl true 41 w12]))] : St D0))) := by kernel_rfl
def zq33.d8 (N : Nat) (v0 : List Int) (v1 : List Int) (v2 : Int) (v3 : List S46) (v4 : List Int) (v5 : List Int) (v6 : ByteArray) (v7 : Int) (v8 : List Int) (v9 : Int) (v10 : Int) (v11 : Bool) (v12 : Int) (v13 : List S41) (c7 : (List Int) → (List Int) → Int → (List S46) → (List Int) → (List Int) → ByteArray → Int → (List Int) → Int → Int → Int → (List S41) → Option zq33.R) : Option zq33.R := zq33.o8 N v0 v1 v2 v3 v4 v5 v6 v7 v8 v9 v10 v11 v12 v13 c7
theorem zq33.d8.run (N : Nat) (Kn4294966970 : St D0 → Option zq33.R) (v0 : List Int) (v1 : List Int) (v2 : Int) (v3 : List S46) (v4 : List Int) (v5 : List Int) (v6 : ByteArray) (v7 : Int) (v8 : List Int) (v9 : Int) (v10 : Int) (v11 : Bool) (v12 : Int) (v13 : List S41) : runC zq33.C (zq33.O N) N zq33.c2199023088847 2199023088847 (mkSt [(1, .one (.sl false 5 v0)), (5, .one (.ptr 5 0)), (6, .one (.sl false 3 v1)), (10, .one (.int .i64 v2)), (18, .one (.sl true 46 v3)), (26, .one (.sl true 3 v4)), (30, .one (.sl true 3 v5)), (38, .one (.str v6)), (42, .one (.int .i64 v7)), (407, .one (.sl true 3 v8)), (408, .one (.int .i64 v9)), (409, .one (.int .i64 v10)), (458, .one (.bool v11))] [(5, some (24, [.int .i64 v12, .sl true 41 v13]))] : St D0) (zq33.K2199023088847 N Kn4294966970) = zq33.d8 N v0 v1 v2 v3 v4 v5 v6 v7 v8 v9 v10 v11 v12 v13 ((fun w0 w1 w2 w3 w4 w5 w6 w7 w8 w9 w10 w11 w12 => Kn4294966970 (mkSt [(1, .one (.sl false 5 w0)), (5, .one (.ptr 5 0)), (6, .one (.sl false 3 w1)), (10, .one (.int .i64 w2)), (18, .one (.sl true 46 w3)), (26, .one (.sl true 3 w4)), (30, .one (.sl true 3 w5)), (38, .one (.str w6)), (42, .one (.int .i64 w7)), (407, .one (.sl true 3 w8)), (408, .one (.int .i64 w9)), (409, .one (.int .i64 w10))] [(5, some (24, [.int .i64 w11, .sl true 41 w12]))] : St D0))) := by
  exact (zq33.o8.run N (zq33.B8388607 N) Kn4294966970 v0 v1 v2 v3 v4 v5 v6 v7 v8 v9 v10 v11 v12 v13).trans rfl
def zq33.K4398046180559 (N : Nat) (Kn8589933946 : St D0 → Option zq33.R) : Ex → St D0 → Option zq33.R := (blockK 7 ((fun up => (onN (fun s => zq33.C.tidy 137438943142 s (fun s' => runC zq33.C (zq33.O N) N zq33.c137438943143 137438943143 s' up)) up)) ((fun up => (onN (fun s => zq33.C.tidy 8589933946 s ((onN Kn8589933946 up) .normal)) (onN Kn8589933946 up))) (blockK 6 ((fun up => (onN (fun s => zq33.C.tidy 2147483486 s (fun s' => runC zq33.C (zq33.O N) N zq33.c2147483487 2147483487 s' up)) up)) (onN (fun s => zq33.C.tidy 16777214 s (zq33.B8388607 N)) zq33.K0))))))
def zq33.o10 (N : Nat) (v0 : List Int) (v1 : Int) (v2 : List Int) (v3 : List Int) (v4 : ByteArray) (v5 : Int) (v6 : Int) (v7 : Bool) (v8 : Int) (v9 : List S41) (c9 : (List Int) → Int → (List Int) → (List Int) → ByteArray → Int → Int → Int → (List S41) → Option zq33.R) : Option zq33.R :=
 bif v7 then
  some (false)
 else
 c9 v0 v1 v2 v3 v4 v5 (w64 (v6 + 1)) v8 v9
theorem zq33.o10.run (N : Nat) (Kb8388607 : St D0 → Option zq33.R) (Kn8589933946 : St D0 → Option zq33.R) (v0 : List Int) (v1 : Int) (v2 : List Int) (v3 : List Int) (v4 : ByteArray) (v5 : Int) (v6 : Int) (v7 : Bool) (v8 : Int) (v9 : List S41) : runC zq33.C (zq33.O N) N zq33.c4398046180559 4398046180559 (mkSt [(1, .one (.sl false 5 v0)), (5, .one (.ptr 5 0)), (10, .one (.int .i64 v1)), (26, .one (.sl true 3 v2)), (30, .one (.sl true 3 v3)), (38, .one (.str v4)), (462, .one (.int .i64 v5)), (463, .one (.int .i64 v6)), (503, .one (.bool v7))] [(5, some (24, [.int .i64 v8, .sl true 41 v9]))] : St D0) (blockK 7 ((fun up => (onN (fun s => zq33.C.tidy 137438943142 s (fun s' => runC zq33.C (zq33.O N) N zq33.c137438943143 137438943143 s' up)) up)) ((fun up => (onN (fun s => zq33.C.tidy 8589933946 s ((onN Kn8589933946 up) .normal)) (onN Kn8589933946 up))) (blockK 6 ((fun up => (onN (fun s => zq33.C.tidy 2147483486 s (fun s' => runC zq33.C (zq33.O N) N zq33.c2147483487 2147483487 s' up)) up)) (onN (fun s => zq33.C.tidy 16777214 s Kb8388607) zq33.K0)))))) = zq33.o10 N v0 v1 v2 v3 v4 v5 v6 v7 v8 v9 ((fun w0 w1 w2 w3 w4 w5 w6 w7 w8 => Kn8589933946 (mkSt [(1, .one (.sl false 5 w0)), (5, .one (.ptr 5 0)), (10, .one (.int .i64 w1)), (26, .one (.sl true 3 w2)), (30, .one (.sl true 3 w3)), (38, .one (.str w4)), (462, .one (.int .i64 w5)), (463, .one (.int .i64 w6))] [(5, some (24, [.int .i64 w7, .sl true 41 w8]))] : St D0))) := by kernel_rfl
def zq33.d10 (N : Nat) (v0 : List Int) (v1 : Int) (v2 : List Int) (v3 : List Int) (v4 : ByteArray) (v5 : Int) (v6 : Int) (v7 : Bool) (v8 : Int) (v9 : List S41) (c9 : (List Int) → Int → (List Int) → (List Int) → ByteArray → Int → Int → Int → (List S41) → Option zq33.R) : Option zq33.R := zq33.o10 N v0 v1 v2 v3 v4 v5 v6 v7 v8 v9 c9
theorem zq33.d10.run (N : Nat) (Kn8589933946 : St D0 → Option zq33.R) (v0 : List Int) (v1 : Int) (v2 : List Int) (v3 : List Int) (v4 : ByteArray) (v5 : Int) (v6 : Int) (v7 : Bool) (v8 : Int) (v9 : List S41) : runC zq33.C (zq33.O N) N zq33.c4398046180559 4398046180559 (mkSt [(1, .one (.sl false 5 v0)), (5, .one (.ptr 5 0)), (10, .one (.int .i64 v1)), (26, .one (.sl true 3 v2)), (30, .one (.sl true 3 v3)), (38, .one (.str v4)), (462, .one (.int .i64 v5)), (463, .one (.int .i64 v6)), (503, .one (.bool v7))] [(5, some (24, [.int .i64 v8, .sl true 41 v9]))] : St D0) (zq33.K4398046180559 N Kn8589933946) = zq33.d10 N v0 v1 v2 v3 v4 v5 v6 v7 v8 v9 ((fun w0 w1 w2 w3 w4 w5 w6 w7 w8 => Kn8589933946 (mkSt [(1, .one (.sl false 5 w0)), (5, .one (.ptr 5 0)), (10, .one (.int .i64 w1)), (26, .one (.sl true 3 w2)), (30, .one (.sl true 3 w3)), (38, .one (.str w4)), (462, .one (.int .i64 w5)), (463, .one (.int .i64 w6))] [(5, some (24, [.int .i64 w7, .sl true 41 w8]))] : St D0))) := by
  exact (zq33.o10.run N (zq33.B8388607 N) Kn8589933946 v0 v1 v2 v3 v4 v5 v6 v7 v8 v9).trans rfl
def zq33.K536870909 (N : Nat) : Ex → St D0 → Option zq33.R := (onN (fun s => zq33.C.tidy 268435454 s (fun s' => runC zq33.C (zq33.O N) N zq33.c268435455 268435455 s' zq33.K0)) zq33.K0)
def zq33.o5 (N : Nat) (v0 : ByteArray) (v1 : Bool) (v2 : Bool) (v3 : Int) (v4 : List S41) : Option zq33.R :=
 bif v2 then
  some (false)
 else
 bif v1 then
  (zq15.g N v3 v4).bind fun r1 =>
  bif r1.2 then
   some ((r1.1.toList == v0.toList))
  else
  some (false)
 else
 some (true)
theorem zq33.o5.run (N : Nat) (v0 : ByteArray) (v1 : Bool) (v2 : Bool) (v3 : Int) (v4 : List S41) : runC zq33.C (zq33.O N) N zq33.c536870909 536870909 (mkSt [(62, .one (.str v0)), (63, .one (.ptr 63 0)), (64, .one (.bool v1)), (538, .one (.bool v2))] [(63, some (24, [.int .i64 v3, .sl true 41 v4]))] : St D0) (onN (fun s => zq33.C.tidy 268435454 s (fun s' => runC zq33.C (zq33.O N) N zq33.c268435455 268435455 s' zq33.K0)) zq33.K0) = zq33.o5 N v0 v1 v2 v3 v4 := by kernel_rfl
def zq33.d5 (N : Nat) (v0 : ByteArray) (v1 : Bool) (v2 : Bool) (v3 : Int) (v4 : List S41) : Option zq33.R := zq33.o5 N v0 v1 v2 v3 v4
theorem zq33.d5.run (N : Nat) (v0 : ByteArray) (v1 : Bool) (v2 : Bool) (v3 : Int) (v4 : List S41) : runC zq33.C (zq33.O N) N zq33.c536870909 536870909 (mkSt [(62, .one (.str v0)), (63, .one (.ptr 63 0)), (64, .one (.bool v1)), (538, .one (.bool v2))] [(63, some (24, [.int .i64 v3, .sl true 41 v4]))] : St D0) (zq33.K536870909 N) = zq33.d5 N v0 v1 v2 v3 v4 := by
  exact (zq33.o5.run N v0 v1 v2 v3 v4).trans rfl
def zq33.o3 (N : Nat) (v0 : List Int) (c5 : ByteArray → Bool → Bool → Int → (List S41) → Option zq33.R) : Option zq33.R :=
 (zq48.g N v0).bind fun r1 =>
 (zq14.g N r1).bind fun r2 =>
 (zq55.g N r1).bind fun r3 =>
 bif (!(r2.2.2 == r3.2.2)) then
  c5 r1 r2.2.2 true r2.1 r2.2.1
 else
 (zq37.g N r2.1 r2.2.1 r3.1 r3.2.1).bind fun r4 =>
 c5 r1 r2.2.2 (!r4) r2.1 r2.2.1
theorem zq33.o3.run (N : Nat) (H536870909 : Code) (v0 : List Int) : runC zq33.C (zq33.O N) N (.seq zq33.c33554430 (.seq zq33.c67108862 (.seq zq33.c134217726 (.seq (.seq zq33.c536870908 H536870909) zq33.c268435455)))) 16777215 (mkSt [(1, .one (.sl false 5 v0))] [] : St D0) zq33.K0 = zq33.o3 N v0 ((fun w0 w1 w2 w3 w4 => runC zq33.C (zq33.O N) N H536870909 536870909 (mkSt [(62, .one (.str w0)), (63, .one (.ptr 63 0)), (64, .one (.bool w1)), (538, .one (.bool w2))] [(63, some (24, [.int .i64 w3, .sl true 41 w4]))] : St D0) (onN (fun s => zq33.C.tidy 268435454 s (fun s' => runC zq33.C (zq33.O N) N zq33.c268435455 268435455 s' zq33.K0)) zq33.K0))) := by kernel_rfl
def zq33.d3 (N : Nat) (v0 : List Int) : Option zq33.R := zq33.o3 N v0 ((fun w0 w1 w2 w3 w4 => zq33.d5 N w0 w1 w2 w3 w4))
theorem zq33.c16777215_3 : zq33.c16777215 = (.seq zq33.c33554430 (.seq zq33.c67108862 (.seq zq33.c134217726 (.seq (.seq zq33.c536870908 zq33.c536870909) zq33.c268435455)))) := by kernel_rfl
theorem zq33.d3.run (N : Nat) (v0 : List Int) : runC zq33.C (zq33.O N) N zq33.c16777215 16777215 (mkSt [(1, .one (.sl false 5 v0))] [] : St D0) (zq33.K16777215 N) = zq33.d3 N v0 := by
  rw [zq33.c16777215_3]; unfold zq33.d3; exact (zq33.o3.run N zq33.c536870909 v0).trans (congr rfl (funext fun w0 => funext fun w1 => funext fun w2 => funext fun w3 => funext fun w4 => zq33.d5.run N w0 w1 w2 w3 w4))
def zq33.K8589933951 (N : Nat) : Ex → St D0 → Option zq33.R := (onN (fun s => zq33.C.tidy 16777214 s (zq33.B8388607 N)) zq33.K0)
def zq33.o11 (N : Nat) (v0 : List Int) (v1 : Bool) (c3 : (List Int) → Option zq33.R) : Option zq33.R :=
 bif v1 then
  some (false)
 else
 c3 v0
theorem zq33.o11.run (N : Nat) (Kb8388607 : St D0 → Option zq33.R) (v0 : List Int) (v1 : Bool) : runC zq33.C (zq33.O N) N zq33.c8589933951 8589933951 (mkSt [(1, .one (.sl false 5 v0)), (517, .one (.bool v1))] [] : St D0) (onN (fun s => zq33.C.tidy 16777214 s Kb8388607) zq33.K0) = zq33.o11 N v0 v1 ((fun w0 => Kb8388607 (mkSt [(1, .one (.sl false 5 w0))] [] : St D0))) := by kernel_rfl
def zq33.d11 (N : Nat) (v0 : List Int) (v1 : Bool) : Option zq33.R := zq33.o11 N v0 v1 ((fun w0 => zq33.d3 N w0))
theorem zq33.d11.run (N : Nat) (v0 : List Int) (v1 : Bool) : runC zq33.C (zq33.O N) N zq33.c8589933951 8589933951 (mkSt [(1, .one (.sl false 5 v0)), (517, .one (.bool v1))] [] : St D0) (zq33.K8589933951 N) = zq33.d11 N v0 v1 := by
  unfold zq33.d11; exact (zq33.o11.run N (zq33.B8388607 N) v0 v1).trans (congr rfl (funext fun w0 => zq33.d3.run N w0))
def zq33.K17179867892 (N : Nat) (Kn8589933946 : St D0 → Option zq33.R) : Ex → St D0 → Option zq33.R := ((fun up => (onN (fun s => zq33.C.tidy 8589933946 s ((onN Kn8589933946 up) .normal)) (onN Kn8589933946 up))) (blockK 6 ((fun up => (onN (fun s => zq33.C.tidy 2147483486 s (fun s' => runC zq33.C (zq33.O N) N zq33.c2147483487 2147483487 s' up)) up)) (onN (fun s => zq33.C.tidy 16777214 s (zq33.B8388607 N)) zq33.K0))))
def zq33.o9 (N : Nat) (v0 : List Int) (v1 : Int) (v2 : List Int) (v3 : List Int) (v4 : ByteArray) (v5 : Int) (v6 : Int) (v7 : Int) (v8 : List S41) (c10 : (List Int) → Int → (List Int) → (List Int) → ByteArray → Int → Int → Bool → Int → (List S41) → Option zq33.R) (c11 : (List Int) → Bool → Option zq33.R) : Option zq33.R :=
 bif (decide (v6 < v5)) then
  (zq3.g N v7 v8 v6).bind fun r1 =>
  (zq1.g N r1.1 r1.2.1).bind fun r2 =>
  bif (!r1.2.2) then
   c10 v0 v1 v2 v3 v4 v5 v6 true v7 v8
  else
  bif (!r2.2) then
   c10 v0 v1 v2 v3 v4 v5 v6 true v7 v8
  else
  (zq36.g N v2 v6).bind fun r3 =>
  bif (!(r3 == (r2.1 == v1))) then
   c10 v0 v1 v2 v3 v4 v5 v6 true v7 v8
  else
  bif (decide (0 ≤ (w64 (v6 + 1)))) then
   bif (decide ((w64 (v6 + 1)) < (v3.length : Int))) then
    (v3[((w64 (v6 + 1)) : Int).toNat]?).bind fun x4 =>
    bif (decide (0 ≤ v6)) then
     bif (decide (v6 < (v3.length : Int))) then
      (v3[(v6 : Int).toNat]?).bind fun x5 =>
      c10 v0 v1 v2 v3 v4 v5 v6 (decide (x4 > x5)) v7 v8
     else
     none
    else
    none
   else
   none
  else
  none
 else
 (zq14.g N v4).bind fun r6 =>
 bif (!r6.2.2) then
  c11 v0 true
 else
 (zq37.g N r6.1 r6.2.1 v7 v8).bind fun r7 =>
 c11 v0 (!r7)
theorem zq33.o9.run (N : Nat) (Kb8388607 : St D0 → Option zq33.R) (Kn8589933946 : St D0 → Option zq33.R) (H8589933951 : Code) (H4398046180559 : Code) (v0 : List Int) (v1 : Int) (v2 : List Int) (v3 : List Int) (v4 : ByteArray) (v5 : Int) (v6 : Int) (v7 : Int) (v8 : List S41) : runC zq33.C (zq33.O N) N (.seq zq33.c34359735784 (.seq zq33.c68719471570 (.seq (.block 7 (.seq zq33.c549755772568 (.seq zq33.c1099511545138 (.seq zq33.c2199023090278 (.seq zq33.c4398046180558 H4398046180559))))) zq33.c137438943143))) 17179867892 (mkSt [(1, .one (.sl false 5 v0)), (5, .one (.ptr 5 0)), (10, .one (.int .i64 v1)), (26, .one (.sl true 3 v2)), (30, .one (.sl true 3 v3)), (38, .one (.str v4)), (462, .one (.int .i64 v5)), (463, .one (.int .i64 v6))] [(5, some (24, [.int .i64 v7, .sl true 41 v8]))] : St D0) ((fun up => (onN (fun s => zq33.C.tidy 8589933946 s ((onN Kn8589933946 up) .normal)) (onN Kn8589933946 up))) (blockK 6 ((fun up => (onN (fun s => zq33.C.tidy 2147483486 s (fun s' => runC zq33.C (zq33.O N) N (.seq zq33.c4294966974 (.seq zq33.c8589933950 H8589933951)) 2147483487 s' up)) up)) (onN (fun s => zq33.C.tidy 16777214 s Kb8388607) zq33.K0)))) = zq33.o9 N v0 v1 v2 v3 v4 v5 v6 v7 v8 ((fun w0 w1 w2 w3 w4 w5 w6 w7 w8 w9 => runC zq33.C (zq33.O N) N H4398046180559 4398046180559 (mkSt [(1, .one (.sl false 5 w0)), (5, .one (.ptr 5 0)), (10, .one (.int .i64 w1)), (26, .one (.sl true 3 w2)), (30, .one (.sl true 3 w3)), (38, .one (.str w4)), (462, .one (.int .i64 w5)), (463, .one (.int .i64 w6)), (503, .one (.bool w7))] [(5, some (24, [.int .i64 w8, .sl true 41 w9]))] : St D0) (blockK 7 ((fun up => (onN (fun s => zq33.C.tidy 137438943142 s (fun s' => runC zq33.C (zq33.O N) N zq33.c137438943143 137438943143 s' up)) up)) ((fun up => (onN (fun s => zq33.C.tidy 8589933946 s ((onN Kn8589933946 up) .normal)) (onN Kn8589933946 up))) (blockK 6 ((fun up => (onN (fun s => zq33.C.tidy 2147483486 s (fun s' => runC zq33.C (zq33.O N) N (.seq zq33.c4294966974 (.seq zq33.c8589933950 H8589933951)) 2147483487 s' up)) up)) (onN (fun s => zq33.C.tidy 16777214 s Kb8388607) zq33.K0)))))))) ((fun w0 w1 => runC zq33.C (zq33.O N) N H8589933951 8589933951 (mkSt [(1, .one (.sl false 5 w0)), (517, .one (.bool w1))] [] : St D0) (onN (fun s => zq33.C.tidy 16777214 s Kb8388607) zq33.K0))) := by kernel_rfl
def zq33.d9 (N : Nat) (v0 : List Int) (v1 : Int) (v2 : List Int) (v3 : List Int) (v4 : ByteArray) (v5 : Int) (v6 : Int) (v7 : Int) (v8 : List S41) (c9 : (List Int) → Int → (List Int) → (List Int) → ByteArray → Int → Int → Int → (List S41) → Option zq33.R) : Option zq33.R := zq33.o9 N v0 v1 v2 v3 v4 v5 v6 v7 v8 ((fun w0 w1 w2 w3 w4 w5 w6 w7 w8 w9 => zq33.d10 N w0 w1 w2 w3 w4 w5 w6 w7 w8 w9 c9)) ((fun w0 w1 => zq33.d11 N w0 w1))
theorem zq33.c17179867892_9 : zq33.c17179867892 = (.seq zq33.c34359735784 (.seq zq33.c68719471570 (.seq (.block 7 (.seq zq33.c549755772568 (.seq zq33.c1099511545138 (.seq zq33.c2199023090278 (.seq zq33.c4398046180558 zq33.c4398046180559))))) zq33.c137438943143))) := by kernel_rfl
theorem zq33.d9.run (N : Nat) (Kn8589933946 : St D0 → Option zq33.R) (v0 : List Int) (v1 : Int) (v2 : List Int) (v3 : List Int) (v4 : ByteArray) (v5 : Int) (v6 : Int) (v7 : Int) (v8 : List S41) : runC zq33.C (zq33.O N) N zq33.c17179867892 17179867892 (mkSt [(1, .one (.sl false 5 v0)), (5, .one (.ptr 5 0)), (10, .one (.int .i64 v1)), (26, .one (.sl true 3 v2)), (30, .one (.sl true 3 v3)), (38, .one (.str v4)), (462, .one (.int .i64 v5)), (463, .one (.int .i64 v6))] [(5, some (24, [.int .i64 v7, .sl true 41 v8]))] : St D0) (zq33.K17179867892 N Kn8589933946) = zq33.d9 N v0 v1 v2 v3 v4 v5 v6 v7 v8 ((fun w0 w1 w2 w3 w4 w5 w6 w7 w8 => Kn8589933946 (mkSt [(1, .one (.sl false 5 w0)), (5, .one (.ptr 5 0)), (10, .one (.int .i64 w1)), (26, .one (.sl true 3 w2)), (30, .one (.sl true 3 w3)), (38, .one (.str w4)), (462, .one (.int .i64 w5)), (463, .one (.int .i64 w6))] [(5, some (24, [.int .i64 w7, .sl true 41 w8]))] : St D0))) := by
  rw [zq33.c17179867892_9]; unfold zq33.d9; exact (zq33.o9.run N (zq33.B8388607 N) Kn8589933946 zq33.c8589933951 zq33.c4398046180559 v0 v1 v2 v3 v4 v5 v6 v7 v8).trans (congr (congr rfl (funext fun w0 => funext fun w1 => funext fun w2 => funext fun w3 => funext fun w4 => funext fun w5 => funext fun w6 => funext fun w7 => funext fun w8 => funext fun w9 => zq33.d10.run N Kn8589933946 w0 w1 w2 w3 w4 w5 w6 w7 w8 w9)) (funext fun w0 => funext fun w1 => zq33.d11.run N w0 w1))
def zq33.K8589933946 (N : Nat) : Ex → St D0 → Option zq33.R := (blockK 6 ((fun up => (onN (fun s => zq33.C.tidy 2147483486 s (fun s' => runC zq33.C (zq33.O N) N zq33.c2147483487 2147483487 s' up)) up)) (onN (fun s => zq33.C.tidy 16777214 s (zq33.B8388607 N)) zq33.K0)))
def zq33.l9 (N : Nat) : Nat → (List Int) → Int → (List Int) → (List Int) → ByteArray → Int → Int → Int → (List S41) → Option zq33.R
  | 0, _, _, _, _, _, _, _, _, _ => none
  | n + 1, v0, v1, v2, v3, v4, v5, v6, v7, v8 => zq33.d9 N v0 v1 v2 v3 v4 v5 v6 v7 v8 ((fun w0 w1 w2 w3 w4 w5 w6 w7 w8 => zq33.l9 N n w0 w1 w2 w3 w4 w5 w6 w7 w8))
theorem zq33.loop8589933946 (N : Nat) : ∀ n, (∀ (v0 : List Int) (v1 : Int) (v2 : List Int) (v3 : List Int) (v4 : ByteArray) (v5 : Int) (v6 : Int) (v7 : Int) (v8 : List S41), iter (loopF zq33.C (zq33.O N) N zq33.c17179867892 8589933946) n (mkSt [(1, .one (.sl false 5 v0)), (5, .one (.ptr 5 0)), (10, .one (.int .i64 v1)), (26, .one (.sl true 3 v2)), (30, .one (.sl true 3 v3)), (38, .one (.str v4)), (462, .one (.int .i64 v5)), (463, .one (.int .i64 v6))] [(5, some (24, [.int .i64 v7, .sl true 41 v8]))] : St D0) (zq33.K8589933946 N) = zq33.l9 N n v0 v1 v2 v3 v4 v5 v6 v7 v8)
  | 0 => (fun v0 v1 v2 v3 v4 v5 v6 v7 v8 => rfl)
  | n + 1 => (fun v0 v1 v2 v3 v4 v5 v6 v7 v8 => (zq33.d9.run N (fun s => iter (loopF zq33.C (zq33.O N) N zq33.c17179867892 8589933946) n s (zq33.K8589933946 N)) v0 v1 v2 v3 v4 v5 v6 v7 v8).trans (show _ = zq33.d9 N v0 v1 v2 v3 v4 v5 v6 v7 v8 ((fun w0 w1 w2 w3 w4 w5 w6 w7 w8 => zq33.l9 N n w0 w1 w2 w3 w4 w5 w6 w7 w8)) from (congr rfl (funext fun w0 => funext fun w1 => funext fun w2 => funext fun w3 => funext fun w4 => funext fun w5 => funext fun w6 => funext fun w7 => funext fun w8 => (zq33.loop8589933946 N n) w0 w1 w2 w3 w4 w5 w6 w7 w8))))
def zq33.K8589933940 (N : Nat) (Kn4294966970 : St D0 → Option zq33.R) : Ex → St D0 → Option zq33.R := ((fun up => (onN (fun s => zq33.C.tidy 4294966970 s ((onN Kn4294966970 up) .normal)) (onN Kn4294966970 up))) (blockK 4 ((fun up => (onN (fun s => zq33.C.tidy 1073741742 s (fun s' => runC zq33.C (zq33.O N) N zq33.c1073741743 1073741743 s' up)) up)) (onN (fun s => zq33.C.tidy 16777214 s (zq33.B8388607 N)) zq33.K0))))
def zq33.o7 (N : Nat) (v0 : List Int) (v1 : List Int) (v2 : Int) (v3 : List S46) (v4 : List Int) (v5 : List Int) (v6 : ByteArray) (v7 : Int) (v8 : List Int) (v9 : Int) (v10 : Int) (v11 : Int) (v12 : List S41) (c8 : (List Int) → (List Int) → Int → (List S46) → (List Int) → (List Int) → ByteArray → Int → (List Int) → Int → Int → Bool → Int → (List S41) → Option zq33.R) (c9 : (List Int) → Int → (List Int) → (List Int) → ByteArray → Int → Int → Int → (List S41) → Option zq33.R) : Option zq33.R :=
 bif (decide (v10 < v9)) then
  bif (decide (0 ≤ v10)) then
   bif (decide (v10 < (v8.length : Int))) then
    (v8[(v10 : Int).toNat]?).bind fun x1 =>
    bif (decide (0 ≤ v10)) then
     bif (decide (v10 < (v3.length : Int))) then
      (v3[(v10 : Int).toNat]?).bind fun x2 =>
      (zq5.g N v7 x2.f0 x2.f1).bind fun r3 =>
      bif (decide (0 ≤ v10)) then
       bif (decide (v10 < (v3.length : Int))) then
        (v3[(v10 : Int).toNat]?).bind fun x4 =>
        (zq12.g N v7 x4.f0 x4.f1).bind fun r5 =>
        bif (!r3.2) then
         c8 v0 v1 v2 v3 v4 v5 v6 v7 v8 v9 v10 true v11 v12
        else
        bif (!r5.2) then
         c8 v0 v1 v2 v3 v4 v5 v6 v7 v8 v9 v10 true v11 v12
        else
        bif ((w64 ((w64 (60 * r3.1)) + r5.1)) != x1) then
         c8 v0 v1 v2 v3 v4 v5 v6 v7 v8 v9 v10 true v11 v12
        else
        bif (decide (v10 > 0)) then
         bif (decide (0 ≤ (w64 (v10 - 1)))) then
          bif (decide ((w64 (v10 - 1)) < (v1.length : Int))) then
           (v1[((w64 (v10 - 1)) : Int).toNat]?).bind fun x6 =>
           c8 v0 v1 v2 v3 v4 v5 v6 v7 v8 v9 v10 (decide (x6 ≥ x1)) v11 v12
          else
          none
         else
         none
        else
        c8 v0 v1 v2 v3 v4 v5 v6 v7 v8 v9 v10 false v11 v12
       else
       none
      else
      none
     else
     none
    else
    none
   else
   none
  else
  none
 else
 c9 v0 v2 v4 v5 v6 (v12.length : Int) 0 v11 v12
theorem zq33.o7.run (N : Nat) (Kb8388607 : St D0 → Option zq33.R) (Kn4294966970 : St D0 → Option zq33.R) (H17179867892 : Code) (H2199023088847 : Code) (v0 : List Int) (v1 : List Int) (v2 : Int) (v3 : List S46) (v4 : List Int) (v5 : List Int) (v6 : ByteArray) (v7 : Int) (v8 : List Int) (v9 : Int) (v10 : Int) (v11 : Int) (v12 : List S41) : runC zq33.C (zq33.O N) N (.seq zq33.c17179867880 (.seq zq33.c34359735762 (.seq (.block 5 (.seq zq33.c274877886104 (.seq zq33.c549755772210 (.seq zq33.c1099511544422 (.seq zq33.c2199023088846 H2199023088847))))) zq33.c68719471527))) 8589933940 (mkSt [(1, .one (.sl false 5 v0)), (5, .one (.ptr 5 0)), (6, .one (.sl false 3 v1)), (10, .one (.int .i64 v2)), (18, .one (.sl true 46 v3)), (26, .one (.sl true 3 v4)), (30, .one (.sl true 3 v5)), (38, .one (.str v6)), (42, .one (.int .i64 v7)), (407, .one (.sl true 3 v8)), (408, .one (.int .i64 v9)), (409, .one (.int .i64 v10))] [(5, some (24, [.int .i64 v11, .sl true 41 v12]))] : St D0) ((fun up => (onN (fun s => zq33.C.tidy 4294966970 s ((onN Kn4294966970 up) .normal)) (onN Kn4294966970 up))) (blockK 4 ((fun up => (onN (fun s => zq33.C.tidy 1073741742 s (fun s' => runC zq33.C (zq33.O N) N (.seq (.seq zq33.c4294966972 (.block 6 (.loop H17179867892))) zq33.c2147483487) 1073741743 s' up)) up)) (onN (fun s => zq33.C.tidy 16777214 s Kb8388607) zq33.K0)))) = zq33.o7 N v0 v1 v2 v3 v4 v5 v6 v7 v8 v9 v10 v11 v12 ((fun w0 w1 w2 w3 w4 w5 w6 w7 w8 w9 w10 w11 w12 w13 => runC zq33.C (zq33.O N) N H2199023088847 2199023088847 (mkSt [(1, .one (.sl false 5 w0)), (5, .one (.ptr 5 0)), (6, .one (.sl false 3 w1)), (10, .one (.int .i64 w2)), (18, .one (.sl true 46 w3)), (26, .one (.sl true 3 w4)), (30, .one (.sl true 3 w5)), (38, .one (.str w6)), (42, .one (.int .i64 w7)), (407, .one (.sl true 3 w8)), (408, .one (.int .i64 w9)), (409, .one (.int .i64 w10)), (458, .one (.bool w11))] [(5, some (24, [.int .i64 w12, .sl true 41 w13]))] : St D0) (blockK 5 ((fun up => (onN (fun s => zq33.C.tidy 68719471526 s (fun s' => runC zq33.C (zq33.O N) N zq33.c68719471527 68719471527 s' up)) up)) ((fun up => (onN (fun s => zq33.C.tidy 4294966970 s ((onN Kn4294966970 up) .normal)) (onN Kn4294966970 up))) (blockK 4 ((fun up => (onN (fun s => zq33.C.tidy 1073741742 s (fun s' => runC zq33.C (zq33.O N) N (.seq (.seq zq33.c4294966972 (.block 6 (.loop H17179867892))) zq33.c2147483487) 1073741743 s' up)) up)) (onN (fun s => zq33.C.tidy 16777214 s Kb8388607) zq33.K0)))))))) ((fun w0 w1 w2 w3 w4 w5 w6 w7 w8 => iter (loopF zq33.C (zq33.O N) N H17179867892 8589933946) N (mkSt [(1, .one (.sl false 5 w0)), (5, .one (.ptr 5 0)), (10, .one (.int .i64 w1)), (26, .one (.sl true 3 w2)), (30, .one (.sl true 3 w3)), (38, .one (.str w4)), (462, .one (.int .i64 w5)), (463, .one (.int .i64 w6))] [(5, some (24, [.int .i64 w7, .sl true 41 w8]))] : St D0) (blockK 6 ((fun up => (onN (fun s => zq33.C.tidy 2147483486 s (fun s' => runC zq33.C (zq33.O N) N zq33.c2147483487 2147483487 s' up)) up)) (onN (fun s => zq33.C.tidy 16777214 s Kb8388607) zq33.K0))))) := by kernel_rfl
def zq33.d7 (N : Nat) (v0 : List Int) (v1 : List Int) (v2 : Int) (v3 : List S46) (v4 : List Int) (v5 : List Int) (v6 : ByteArray) (v7 : Int) (v8 : List Int) (v9 : Int) (v10 : Int) (v11 : Int) (v12 : List S41) (c7 : (List Int) → (List Int) → Int → (List S46) → (List Int) → (List Int) → ByteArray → Int → (List Int) → Int → Int → Int → (List S41) → Option zq33.R) : Option zq33.R := zq33.o7 N v0 v1 v2 v3 v4 v5 v6 v7 v8 v9 v10 v11 v12 ((fun w0 w1 w2 w3 w4 w5 w6 w7 w8 w9 w10 w11 w12 w13 => zq33.d8 N w0 w1 w2 w3 w4 w5 w6 w7 w8 w9 w10 w11 w12 w13 c7)) ((fun w0 w1 w2 w3 w4 w5 w6 w7 w8 => zq33.l9 N N w0 w1 w2 w3 w4 w5 w6 w7 w8))
theorem zq33.c8589933940_7 : zq33.c8589933940 = (.seq zq33.c17179867880 (.seq zq33.c34359735762 (.seq (.block 5 (.seq zq33.c274877886104 (.seq zq33.c549755772210 (.seq zq33.c1099511544422 (.seq zq33.c2199023088846 zq33.c2199023088847))))) zq33.c68719471527))) := by kernel_rfl
theorem zq33.d7.run (N : Nat) (Kn4294966970 : St D0 → Option zq33.R) (v0 : List Int) (v1 : List Int) (v2 : Int) (v3 : List S46) (v4 : List Int) (v5 : List Int) (v6 : ByteArray) (v7 : Int) (v8 : List Int) (v9 : Int) (v10 : Int) (v11 : Int) (v12 : List S41) : runC zq33.C (zq33.O N) N zq33.c8589933940 8589933940 (mkSt [(1, .one (.sl false 5 v0)), (5, .one (.ptr 5 0)), (6, .one (.sl false 3 v1)), (10, .one (.int .i64 v2)), (18, .one (.sl true 46 v3)), (26, .one (.sl true 3 v4)), (30, .one (.sl true 3 v5)), (38, .one (.str v6)), (42, .one (.int .i64 v7)), (407, .one (.sl true 3 v8)), (408, .one (.int .i64 v9)), (409, .one (.int .i64 v10))] [(5, some (24, [.int .i64 v11, .sl true 41 v12]))] : St D0) (zq33.K8589933940 N Kn4294966970) = zq33.d7 N v0 v1 v2 v3 v4 v5 v6 v7 v8 v9 v10 v11 v12 ((fun w0 w1 w2 w3 w4 w5 w6 w7 w8 w9 w10 w11 w12 => Kn4294966970 (mkSt [(1, .one (.sl false 5 w0)), (5, .one (.ptr 5 0)), (6, .one (.sl false 3 w1)), (10, .one (.int .i64 w2)), (18, .one (.sl true 46 w3)), (26, .one (.sl true 3 w4)), (30, .one (.sl true 3 w5)), (38, .one (.str w6)), (42, .one (.int .i64 w7)), (407, .one (.sl true 3 w8)), (408, .one (.int .i64 w9)), (409, .one (.int .i64 w10))] [(5, some (24, [.int .i64 w11, .sl true 41 w12]))] : St D0))) := by
  rw [zq33.c8589933940_7]; unfold zq33.d7; exact (zq33.o7.run N (zq33.B8388607 N) Kn4294966970 zq33.c17179867892 zq33.c2199023088847 v0 v1 v2 v3 v4 v5 v6 v7 v8 v9 v10 v11 v12).trans (congr (congr rfl (funext fun w0 => funext fun w1 => funext fun w2 => funext fun w3 => funext fun w4 => funext fun w5 => funext fun w6 => funext fun w7 => funext fun w8 => funext fun w9 => funext fun w10 => funext fun w11 => funext fun w12 => funext fun w13 => zq33.d8.run N Kn4294966970 w0 w1 w2 w3 w4 w5 w6 w7 w8 w9 w10 w11 w12 w13)) (funext fun w0 => funext fun w1 => funext fun w2 => funext fun w3 => funext fun w4 => funext fun w5 => funext fun w6 => funext fun w7 => funext fun w8 => (zq33.loop8589933946 N N) w0 w1 w2 w3 w4 w5 w6 w7 w8))
def zq33.K4294966970 (N : Nat) : Ex → St D0 → Option zq33.R := (blockK 4 ((fun up => (onN (fun s => zq33.C.tidy 1073741742 s (fun s' => runC zq33.C (zq33.O N) N zq33.c1073741743 1073741743 s' up)) up)) (onN (fun s => zq33.C.tidy 16777214 s (zq33.B8388607 N)) zq33.K0)))
def zq33.l7 (N : Nat) : Nat → (List Int) → (List Int) → Int → (List S46) → (List Int) → (List Int) → ByteArray → Int → (List Int) → Int → Int → Int → (List S41) → Option zq33.R
  | 0, _, _, _, _, _, _, _, _, _, _, _, _, _ => none
  | n + 1, v0, v1, v2, v3, v4, v5, v6, v7, v8, v9, v10, v11, v12 => zq33.d7 N v0 v1 v2 v3 v4 v5 v6 v7 v8 v9 v10 v11 v12 ((fun w0 w1 w2 w3 w4 w5 w6 w7 w8 w9 w10 w11 w12 => zq33.l7 N n w0 w1 w2 w3 w4 w5 w6 w7 w8 w9 w10 w11 w12))
theorem zq33.loop4294966970 (N : Nat) : ∀ n, (∀ (v0 : List Int) (v1 : List Int) (v2 : Int) (v3 : List S46) (v4 : List Int) (v5 : List Int) (v6 : ByteArray) (v7 : Int) (v8 : List Int) (v9 : Int) (v10 : Int) (v11 : Int) (v12 : List S41), iter (loopF zq33.C (zq33.O N) N zq33.c8589933940 4294966970) n (mkSt [(1, .one (.sl false 5 v0)), (5, .one (.ptr 5 0)), (6, .one (.sl false 3 v1)), (10, .one (.int .i64 v2)), (18, .one (.sl true 46 v3)), (26, .one (.sl true 3 v4)), (30, .one (.sl true 3 v5)), (38, .one (.str v6)), (42, .one (.int .i64 v7)), (407, .one (.sl true 3 v8)), (408, .one (.int .i64 v9)), (409, .one (.int .i64 v10))] [(5, some (24, [.int .i64 v11, .sl true 41 v12]))] : St D0) (zq33.K4294966970 N) = zq33.l7 N n v0 v1 v2 v3 v4 v5 v6 v7 v8 v9 v10 v11 v12)
  | 0 => (fun v0 v1 v2 v3 v4 v5 v6 v7 v8 v9 v10 v11 v12 => rfl)
  | n + 1 => (fun v0 v1 v2 v3 v4 v5 v6 v7 v8 v9 v10 v11 v12 => (zq33.d7.run N (fun s => iter (loopF zq33.C (zq33.O N) N zq33.c8589933940 4294966970) n s (zq33.K4294966970 N)) v0 v1 v2 v3 v4 v5 v6 v7 v8 v9 v10 v11 v12).trans (show _ = zq33.d7 N v0 v1 v2 v3 v4 v5 v6 v7 v8 v9 v10 v11 v12 ((fun w0 w1 w2 w3 w4 w5 w6 w7 w8 w9 w10 w11 w12 => zq33.l7 N n w0 w1 w2 w3 w4 w5 w6 w7 w8 w9 w10 w11 w12)) from (congr rfl (funext fun w0 => funext fun w1 => funext fun w2 => funext fun w3 => funext fun w4 => funext fun w5 => funext fun w6 => funext fun w7 => funext fun w8 => funext fun w9 => funext fun w10 => funext fun w11 => funext fun w12 => (zq33.loop4294966970 N n) w0 w1 w2 w3 w4 w5 w6 w7 w8 w9 w10 w11 w12))))
def zq33.K4294966964 (N : Nat) (Kn2147483482 : St D0 → Option zq33.R) : Ex → St D0 → Option zq33.R := ((fun up => (onN (fun s => zq33.C.tidy 2147483482 s ((onN Kn2147483482 up) .normal)) (onN Kn2147483482 up))) (blockK 0 ((fun up => (onN (fun s => zq33.C.tidy 536870870 s (fun s' => runC zq33.C (zq33.O N) N zq33.c536870871 536870871 s' up)) up)) (onN (fun s => zq33.C.tidy 16777214 s (zq33.B8388607 N)) zq33.K0))))
def zq33.o4 (N : Nat) (v0 : List Int) (v1 : List Int) (v2 : Int) (v3 : List S46) (v4 : List Int) (v5 : List Int) (v6 : ByteArray) (v7 : Int) (v8 : Int) (v9 : Int) (v10 : List S41) (c6 : (List Int) → (List Int) → Int → (List S46) → (List Int) → (List Int) → ByteArray → Int → Int → Bool → (List S41) → Int → Int → Int → (List S41) → Option zq33.R) (c7 : (List Int) → (List Int) → Int → (List S46) → (List Int) → (List Int) → ByteArray → Int → (List Int) → Int → Int → Int → (List S41) → Option zq33.R) : Option zq33.R :=
 bif (decide (v8 < (w64 (60 * v7)))) then
  c6 v0 v1 v2 v3 v4 v5 v6 v7 v8 true v10 (v10.length : Int) 0 v9 v10
 else
 c7 v0 v1 v2 v3 v4 v5 v6 v7 v1 (v1.length : Int) 0 v9 v10
theorem zq33.o4.run (N : Nat) (Kb8388607 : St D0 → Option zq33.R) (Kn2147483482 : St D0 → Option zq33.R) (H8589933940 : Code) (H1099511542932 : Code) (v0 : List Int) (v1 : List Int) (v2 : Int) (v3 : List S46) (v4 : List Int) (v5 : List Int) (v6 : ByteArray) (v7 : Int) (v8 : Int) (v9 : Int) (v10 : List S41) : runC zq33.C (zq33.O N) N (.seq zq33.c8589933928 (.seq (.block 1 (.seq zq33.c68719471432 (.seq (.seq zq33.c274877885732 (.block 2 (.loop H1099511542932))) zq33.c137438942867))) zq33.c17179867859)) 4294966964 (mkSt [(1, .one (.sl false 5 v0)), (5, .one (.ptr 5 0)), (6, .one (.sl true 3 v1)), (10, .one (.int .i64 v2)), (18, .one (.sl true 46 v3)), (26, .one (.sl true 3 v4)), (30, .one (.sl true 3 v5)), (38, .one (.str v6)), (42, .one (.int .i64 v7)), (43, .one (.int .i64 v8))] [(5, some (24, [.int .i64 v9, .sl true 41 v10]))] : St D0) ((fun up => (onN (fun s => zq33.C.tidy 2147483482 s ((onN Kn2147483482 up) .normal)) (onN Kn2147483482 up))) (blockK 0 ((fun up => (onN (fun s => zq33.C.tidy 536870870 s (fun s' => runC zq33.C (zq33.O N) N (.seq (.seq zq33.c2147483484 (.block 4 (.loop H8589933940))) zq33.c1073741743) 536870871 s' up)) up)) (onN (fun s => zq33.C.tidy 16777214 s Kb8388607) zq33.K0)))) = zq33.o4 N v0 v1 v2 v3 v4 v5 v6 v7 v8 v9 v10 ((fun w0 w1 w2 w3 w4 w5 w6 w7 w8 w9 w10 w11 w12 w13 w14 => iter (loopF zq33.C (zq33.O N) N H1099511542932 549755771466) N (mkSt [(1, .one (.sl false 5 w0)), (5, .one (.ptr 5 0)), (6, .one (.sl true 3 w1)), (10, .one (.int .i64 w2)), (18, .one (.sl true 46 w3)), (26, .one (.sl true 3 w4)), (30, .one (.sl true 3 w5)), (38, .one (.str w6)), (42, .one (.int .i64 w7)), (43, .one (.int .i64 w8)), (44, .one (.bool w9)), (382, .one (.sl false 41 w10)), (383, .one (.int .i64 w11)), (384, .one (.int .i64 w12))] [(5, some (24, [.int .i64 w13, .sl true 41 w14]))] : St D0) (blockK 2 ((fun up => (onN (fun s => zq33.C.tidy 137438942866 s (fun s' => runC zq33.C (zq33.O N) N zq33.c137438942867 137438942867 s' up)) up)) (blockK 1 ((fun up => (onN (fun s => zq33.C.tidy 17179867858 s (fun s' => runC zq33.C (zq33.O N) N zq33.c17179867859 17179867859 s' up)) up)) ((fun up => (onN (fun s => zq33.C.tidy 2147483482 s ((onN Kn2147483482 up) .normal)) (onN Kn2147483482 up))) (blockK 0 ((fun up => (onN (fun s => zq33.C.tidy 536870870 s (fun s' => runC zq33.C (zq33.O N) N (.seq (.seq zq33.c2147483484 (.block 4 (.loop H8589933940))) zq33.c1073741743) 536870871 s' up)) up)) (onN (fun s => zq33.C.tidy 16777214 s Kb8388607) zq33.K0)))))))))) ((fun w0 w1 w2 w3 w4 w5 w6 w7 w8 w9 w10 w11 w12 => iter (loopF zq33.C (zq33.O N) N H8589933940 4294966970) N (mkSt [(1, .one (.sl false 5 w0)), (5, .one (.ptr 5 0)), (6, .one (.sl false 3 w1)), (10, .one (.int .i64 w2)), (18, .one (.sl true 46 w3)), (26, .one (.sl true 3 w4)), (30, .one (.sl true 3 w5)), (38, .one (.str w6)), (42, .one (.int .i64 w7)), (407, .one (.sl true 3 w8)), (408, .one (.int .i64 w9)), (409, .one (.int .i64 w10))] [(5, some (24, [.int .i64 w11, .sl true 41 w12]))] : St D0) (blockK 4 ((fun up => (onN (fun s => zq33.C.tidy 1073741742 s (fun s' => runC zq33.C (zq33.O N) N zq33.c1073741743 1073741743 s' up)) up)) (onN (fun s => zq33.C.tidy 16777214 s Kb8388607) zq33.K0))))) := by kernel_rfl
def zq33.d4 (N : Nat) (v0 : List Int) (v1 : List Int) (v2 : Int) (v3 : List S46) (v4 : List Int) (v5 : List Int) (v6 : ByteArray) (v7 : Int) (v8 : Int) (v9 : Int) (v10 : List S41) (c4 : (List Int) → (List Int) → Int → (List S46) → (List Int) → (List Int) → ByteArray → Int → Int → Int → (List S41) → Option zq33.R) : Option zq33.R := zq33.o4 N v0 v1 v2 v3 v4 v5 v6 v7 v8 v9 v10 ((fun w0 w1 w2 w3 w4 w5 w6 w7 w8 w9 w10 w11 w12 w13 w14 => zq33.l6 N N w0 w1 w2 w3 w4 w5 w6 w7 w8 w9 w10 w11 w12 w13 w14 c4)) ((fun w0 w1 w2 w3 w4 w5 w6 w7 w8 w9 w10 w11 w12 => zq33.l7 N N w0 w1 w2 w3 w4 w5 w6 w7 w8 w9 w10 w11 w12))
theorem zq33.c4294966964_4 : zq33.c4294966964 = (.seq zq33.c8589933928 (.seq (.block 1 (.seq zq33.c68719471432 (.seq (.seq zq33.c274877885732 (.block 2 (.loop zq33.c1099511542932))) zq33.c137438942867))) zq33.c17179867859)) := by kernel_rfl
theorem zq33.d4.run (N : Nat) (Kn2147483482 : St D0 → Option zq33.R) (v0 : List Int) (v1 : List Int) (v2 : Int) (v3 : List S46) (v4 : List Int) (v5 : List Int) (v6 : ByteArray) (v7 : Int) (v8 : Int) (v9 : Int) (v10 : List S41) : runC zq33.C (zq33.O N) N zq33.c4294966964 4294966964 (mkSt [(1, .one (.sl false 5 v0)), (5, .one (.ptr 5 0)), (6, .one (.sl true 3 v1)), (10, .one (.int .i64 v2)), (18, .one (.sl true 46 v3)), (26, .one (.sl true 3 v4)), (30, .one (.sl true 3 v5)), (38, .one (.str v6)), (42, .one (.int .i64 v7)), (43, .one (.int .i64 v8))] [(5, some (24, [.int .i64 v9, .sl true 41 v10]))] : St D0) (zq33.K4294966964 N Kn2147483482) = zq33.d4 N v0 v1 v2 v3 v4 v5 v6 v7 v8 v9 v10 ((fun w0 w1 w2 w3 w4 w5 w6 w7 w8 w9 w10 => Kn2147483482 (mkSt [(1, .one (.sl false 5 w0)), (5, .one (.ptr 5 0)), (6, .one (.sl true 3 w1)), (10, .one (.int .i64 w2)), (18, .one (.sl true 46 w3)), (26, .one (.sl true 3 w4)), (30, .one (.sl true 3 w5)), (38, .one (.str w6)), (42, .one (.int .i64 w7)), (43, .one (.int .i64 w8))] [(5, some (24, [.int .i64 w9, .sl true 41 w10]))] : St D0))) := by
  rw [zq33.c4294966964_4]; unfold zq33.d4; exact (zq33.o4.run N (zq33.B8388607 N) Kn2147483482 zq33.c8589933940 zq33.c1099511542932 v0 v1 v2 v3 v4 v5 v6 v7 v8 v9 v10).trans (congr (congr rfl (funext fun w0 => funext fun w1 => funext fun w2 => funext fun w3 => funext fun w4 => funext fun w5 => funext fun w6 => funext fun w7 => funext fun w8 => funext fun w9 => funext fun w10 => funext fun w11 => funext fun w12 => funext fun w13 => funext fun w14 => (zq33.loop549755771466 N Kn2147483482 N) w0 w1 w2 w3 w4 w5 w6 w7 w8 w9 w10 w11 w12 w13 w14)) (funext fun w0 => funext fun w1 => funext fun w2 => funext fun w3 => funext fun w4 => funext fun w5 => funext fun w6 => funext fun w7 => funext fun w8 => funext fun w9 => funext fun w10 => funext fun w11 => funext fun w12 => (zq33.loop4294966970 N N) w0 w1 w2 w3 w4 w5 w6 w7 w8 w9 w10 w11 w12))
def zq33.K2147483482 (N : Nat) : Ex → St D0 → Option zq33.R := (blockK 0 ((fun up => (onN (fun s => zq33.C.tidy 536870870 s (fun s' => runC zq33.C (zq33.O N) N zq33.c536870871 536870871 s' up)) up)) (onN (fun s => zq33.C.tidy 16777214 s (zq33.B8388607 N)) zq33.K0)))
def zq33.l4 (N : Nat) : Nat → (List Int) → (List Int) → Int → (List S46) → (List Int) → (List Int) → ByteArray → Int → Int → Int → (List S41) → Option zq33.R
  | 0, _, _, _, _, _, _, _, _, _, _, _ => none
  | n + 1, v0, v1, v2, v3, v4, v5, v6, v7, v8, v9, v10 => zq33.d4 N v0 v1 v2 v3 v4 v5 v6 v7 v8 v9 v10 ((fun w0 w1 w2 w3 w4 w5 w6 w7 w8 w9 w10 => zq33.l4 N n w0 w1 w2 w3 w4 w5 w6 w7 w8 w9 w10))
theorem zq33.loop2147483482 (N : Nat) : ∀ n, (∀ (v0 : List Int) (v1 : List Int) (v2 : Int) (v3 : List S46) (v4 : List Int) (v5 : List Int) (v6 : ByteArray) (v7 : Int) (v8 : Int) (v9 : Int) (v10 : List S41), iter (loopF zq33.C (zq33.O N) N zq33.c4294966964 2147483482) n (mkSt [(1, .one (.sl false 5 v0)), (5, .one (.ptr 5 0)), (6, .one (.sl true 3 v1)), (10, .one (.int .i64 v2)), (18, .one (.sl true 46 v3)), (26, .one (.sl true 3 v4)), (30, .one (.sl true 3 v5)), (38, .one (.str v6)), (42, .one (.int .i64 v7)), (43, .one (.int .i64 v8))] [(5, some (24, [.int .i64 v9, .sl true 41 v10]))] : St D0) (zq33.K2147483482 N) = zq33.l4 N n v0 v1 v2 v3 v4 v5 v6 v7 v8 v9 v10)
  | 0 => (fun v0 v1 v2 v3 v4 v5 v6 v7 v8 v9 v10 => rfl)
  | n + 1 => (fun v0 v1 v2 v3 v4 v5 v6 v7 v8 v9 v10 => (zq33.d4.run N (fun s => iter (loopF zq33.C (zq33.O N) N zq33.c4294966964 2147483482) n s (zq33.K2147483482 N)) v0 v1 v2 v3 v4 v5 v6 v7 v8 v9 v10).trans (show _ = zq33.d4 N v0 v1 v2 v3 v4 v5 v6 v7 v8 v9 v10 ((fun w0 w1 w2 w3 w4 w5 w6 w7 w8 w9 w10 => zq33.l4 N n w0 w1 w2 w3 w4 w5 w6 w7 w8 w9 w10)) from (congr rfl (funext fun w0 => funext fun w1 => funext fun w2 => funext fun w3 => funext fun w4 => funext fun w5 => funext fun w6 => funext fun w7 => funext fun w8 => funext fun w9 => funext fun w10 => (zq33.loop2147483482 N n) w0 w1 w2 w3 w4 w5 w6 w7 w8 w9 w10))))
def zq33.K536870869 (N : Nat) : Ex → St D0 → Option zq33.R := ((fun up => (onN (fun s => zq33.C.tidy 268435434 s (fun s' => runC zq33.C (zq33.O N) N zq33.c268435435 268435435 s' up)) up)) (onN (fun s => zq33.C.tidy 16777214 s (zq33.B8388607 N)) zq33.K0))
def zq33.o2 (N : Nat) (v0 : List Int) (v1 : List Int) (v2 : Int) (v3 : List S46) (v4 : List Int) (v5 : List Int) (v6 : ByteArray) (v7 : Int) (v8 : Bool) (v9 : Int) (v10 : List S41) (c4 : (List Int) → (List Int) → Int → (List S46) → (List Int) → (List Int) → ByteArray → Int → Int → Int → (List S41) → Option zq33.R) : Option zq33.R :=
 bif v8 then
  some (false)
 else
 c4 v0 v1 v2 v3 v4 v5 v6 v7 0 v9 v10
theorem zq33.o2.run (N : Nat) (Kb8388607 : St D0 → Option zq33.R) (H4294966964 : Code) (v0 : List Int) (v1 : List Int) (v2 : Int) (v3 : List S46) (v4 : List Int) (v5 : List Int) (v6 : ByteArray) (v7 : Int) (v8 : Bool) (v9 : Int) (v10 : List S41) : runC zq33.C (zq33.O N) N zq33.c536870869 536870869 (mkSt [(1, .one (.sl false 5 v0)), (5, .one (.ptr 5 0)), (6, .one (.sl true 3 v1)), (10, .one (.int .i64 v2)), (18, .one (.sl true 46 v3)), (26, .one (.sl true 3 v4)), (30, .one (.sl true 3 v5)), (38, .one (.str v6)), (42, .one (.int .i64 v7)), (374, .one (.bool v8))] [(5, some (24, [.int .i64 v9, .sl true 41 v10]))] : St D0) ((fun up => (onN (fun s => zq33.C.tidy 268435434 s (fun s' => runC zq33.C (zq33.O N) N (.seq (.seq zq33.c1073741740 (.block 0 (.loop H4294966964))) zq33.c536870871) 268435435 s' up)) up)) (onN (fun s => zq33.C.tidy 16777214 s Kb8388607) zq33.K0)) = zq33.o2 N v0 v1 v2 v3 v4 v5 v6 v7 v8 v9 v10 ((fun w0 w1 w2 w3 w4 w5 w6 w7 w8 w9 w10 => iter (loopF zq33.C (zq33.O N) N H4294966964 2147483482) N (mkSt [(1, .one (.sl false 5 w0)), (5, .one (.ptr 5 0)), (6, .one (.sl true 3 w1)), (10, .one (.int .i64 w2)), (18, .one (.sl true 46 w3)), (26, .one (.sl true 3 w4)), (30, .one (.sl true 3 w5)), (38, .one (.str w6)), (42, .one (.int .i64 w7)), (43, .one (.int .i64 w8))] [(5, some (24, [.int .i64 w9, .sl true 41 w10]))] : St D0) (blockK 0 ((fun up => (onN (fun s => zq33.C.tidy 536870870 s (fun s' => runC zq33.C (zq33.O N) N zq33.c536870871 536870871 s' up)) up)) (onN (fun s => zq33.C.tidy 16777214 s Kb8388607) zq33.K0))))) := by kernel_rfl
def zq33.d2 (N : Nat) (v0 : List Int) (v1 : List Int) (v2 : Int) (v3 : List S46) (v4 : List Int) (v5 : List Int) (v6 : ByteArray) (v7 : Int) (v8 : Bool) (v9 : Int) (v10 : List S41) : Option zq33.R := zq33.o2 N v0 v1 v2 v3 v4 v5 v6 v7 v8 v9 v10 ((fun w0 w1 w2 w3 w4 w5 w6 w7 w8 w9 w10 => zq33.l4 N N w0 w1 w2 w3 w4 w5 w6 w7 w8 w9 w10))
theorem zq33.d2.run (N : Nat) (v0 : List Int) (v1 : List Int) (v2 : Int) (v3 : List S46) (v4 : List Int) (v5 : List Int) (v6 : ByteArray) (v7 : Int) (v8 : Bool) (v9 : Int) (v10 : List S41) : runC zq33.C (zq33.O N) N zq33.c536870869 536870869 (mkSt [(1, .one (.sl false 5 v0)), (5, .one (.ptr 5 0)), (6, .one (.sl true 3 v1)), (10, .one (.int .i64 v2)), (18, .one (.sl true 46 v3)), (26, .one (.sl true 3 v4)), (30, .one (.sl true 3 v5)), (38, .one (.str v6)), (42, .one (.int .i64 v7)), (374, .one (.bool v8))] [(5, some (24, [.int .i64 v9, .sl true 41 v10]))] : St D0) (zq33.K536870869 N) = zq33.d2 N v0 v1 v2 v3 v4 v5 v6 v7 v8 v9 v10 := by
  unfold zq33.d2; exact (zq33.o2.run N (zq33.B8388607 N) zq33.c4294966964 v0 v1 v2 v3 v4 v5 v6 v7 v8 v9 v10).trans (congr rfl (funext fun w0 => funext fun w1 => funext fun w2 => funext fun w3 => funext fun w4 => funext fun w5 => funext fun w6 => funext fun w7 => funext fun w8 => funext fun w9 => funext fun w10 => (zq33.loop2147483482 N N) w0 w1 w2 w3 w4 w5 w6 w7 w8 w9 w10))
def zq33.K16777213 (N : Nat) : Ex → St D0 → Option zq33.R := (onN (fun s => zq33.C.tidy 8388606 s (fun s' => runC zq33.C (zq33.O N) N zq33.c8388607 8388607 s' zq33.K0)) zq33.K0)
def zq33.o1 (N : Nat) (v0 : List Int) (v1 : List Int) (v2 : Bool) (v3 : Int) (v4 : Int) (v5 : Bool) (v6 : List S46) (v7 : Bool) (v8 : List Int) (v9 : List Int) (v10 : ByteArray) (v11 : Bool) (v12 : Int) (v13 : List S41) (c2 : (List Int) → (List Int) → Int → (List S46) → (List Int) → (List Int) → ByteArray → Int → Bool → Int → (List S41) → Option zq33.R) (c3 : (List Int) → Option zq33.R) : Option zq33.R :=
 bif v11 then
  some (false)
 else
 bif v2 then
  bif ((v1.length : Int) != v3) then
   c2 v0 v1 v3 v6 v8 v9 v10 v12 true v12 v13
  else
  bif (!(v7 == (v3 == 1))) then
   c2 v0 v1 v3 v6 v8 v9 v10 v12 true v12 v13
  else
  bif ((v6.length : Int) != v3) then
   c2 v0 v1 v3 v6 v8 v9 v10 v12 true v12 v13
  else
  bif ((v9.length : Int) != (w64 ((v13.length : Int) + 1))) then
   c2 v0 v1 v3 v6 v8 v9 v10 v12 true v12 v13
  else
  bif (decide (0 < (v9.length : Int))) then
   (v9[(0 : Int).toNat]?).bind fun x1 =>
   bif (x1 != (w64 (60 * v12))) then
    c2 v0 v1 v3 v6 v8 v9 v10 v12 true v12 v13
   else
   bif (decide (0 ≤ (v13.length : Int))) then
    bif (decide ((v13.length : Int) < (v9.length : Int))) then
     (v9[((v13.length : Int) : Int).toNat]?).bind fun x2 =>
     bif (x2 != v3) then
      c2 v0 v1 v3 v6 v8 v9 v10 v12 true v12 v13
     else
     bif v5 then
      bif (decide (0 < (v1.length : Int))) then
       (v1[(0 : Int).toNat]?).bind fun x3 =>
       c2 v0 v1 v3 v6 v8 v9 v10 v12 (v4 != x3) v12 v13
      else
      none
     else
     c2 v0 v1 v3 v6 v8 v9 v10 v12 false v12 v13
    else
    none
   else
   none
  else
  none
 else
 c3 v0
theorem zq33.o1.run (N : Nat) (H16777215 : Code) (H536870869 : Code) (v0 : List Int) (v1 : List Int) (v2 : Bool) (v3 : Int) (v4 : Int) (v5 : Bool) (v6 : List S46) (v7 : Bool) (v8 : List Int) (v9 : List Int) (v10 : ByteArray) (v11 : Bool) (v12 : Int) (v13 : List S41) : runC zq33.C (zq33.O N) N zq33.c16777213 16777213 (mkSt [(1, .one (.sl false 5 v0)), (5, .one (.ptr 5 0)), (6, .one (.sl true 3 v1)), (7, .one (.bool v2)), (10, .one (.int .i64 v3)), (14, .one (.int .i64 v4)), (15, .one (.bool v5)), (18, .one (.sl true 46 v6)), (22, .one (.bool v7)), (26, .one (.sl true 3 v8)), (30, .one (.sl true 3 v9)), (38, .one (.str v10)), (318, .one (.bool v11))] [(5, some (24, [.int .i64 v12, .sl true 41 v13]))] : St D0) (onN (fun s => zq33.C.tidy 8388606 s (fun s' => runC zq33.C (zq33.O N) N (.seq (.seq zq33.c33554428 (.cond (.tmp 319) (.seq zq33.c134217716 (.seq (.seq zq33.c536870868 H536870869) zq33.c268435435)) zq33.c67108859)) H16777215) 8388607 s' zq33.K0)) zq33.K0) = zq33.o1 N v0 v1 v2 v3 v4 v5 v6 v7 v8 v9 v10 v11 v12 v13 ((fun w0 w1 w2 w3 w4 w5 w6 w7 w8 w9 w10 => runC zq33.C (zq33.O N) N H536870869 536870869 (mkSt [(1, .one (.sl false 5 w0)), (5, .one (.ptr 5 0)), (6, .one (.sl true 3 w1)), (10, .one (.int .i64 w2)), (18, .one (.sl true 46 w3)), (26, .one (.sl true 3 w4)), (30, .one (.sl true 3 w5)), (38, .one (.str w6)), (42, .one (.int .i64 w7)), (374, .one (.bool w8))] [(5, some (24, [.int .i64 w9, .sl true 41 w10]))] : St D0) ((fun up => (onN (fun s => zq33.C.tidy 268435434 s (fun s' => runC zq33.C (zq33.O N) N zq33.c268435435 268435435 s' up)) up)) (onN (fun s => zq33.C.tidy 16777214 s (fun s' => runC zq33.C (zq33.O N) N H16777215 16777215 s' zq33.K0)) zq33.K0)))) ((fun w0 => runC zq33.C (zq33.O N) N H16777215 16777215 (mkSt [(1, .one (.sl false 5 w0))] [] : St D0) zq33.K0)) := by kernel_rfl
def zq33.d1 (N : Nat) (v0 : List Int) (v1 : List Int) (v2 : Bool) (v3 : Int) (v4 : Int) (v5 : Bool) (v6 : List S46) (v7 : Bool) (v8 : List Int) (v9 : List Int) (v10 : ByteArray) (v11 : Bool) (v12 : Int) (v13 : List S41) : Option zq33.R := zq33.o1 N v0 v1 v2 v3 v4 v5 v6 v7 v8 v9 v10 v11 v12 v13 ((fun w0 w1 w2 w3 w4 w5 w6 w7 w8 w9 w10 => zq33.d2 N w0 w1 w2 w3 w4 w5 w6 w7 w8 w9 w10)) ((fun w0 => zq33.d3 N w0))
theorem zq33.d1.run (N : Nat) (v0 : List Int) (v1 : List Int) (v2 : Bool) (v3 : Int) (v4 : Int) (v5 : Bool) (v6 : List S46) (v7 : Bool) (v8 : List Int) (v9 : List Int) (v10 : ByteArray) (v11 : Bool) (v12 : Int) (v13 : List S41) : runC zq33.C (zq33.O N) N zq33.c16777213 16777213 (mkSt [(1, .one (.sl false 5 v0)), (5, .one (.ptr 5 0)), (6, .one (.sl true 3 v1)), (7, .one (.bool v2)), (10, .one (.int .i64 v3)), (14, .one (.int .i64 v4)), (15, .one (.bool v5)), (18, .one (.sl true 46 v6)), (22, .one (.bool v7)), (26, .one (.sl true 3 v8)), (30, .one (.sl true 3 v9)), (38, .one (.str v10)), (318, .one (.bool v11))] [(5, some (24, [.int .i64 v12, .sl true 41 v13]))] : St D0) (zq33.K16777213 N) = zq33.d1 N v0 v1 v2 v3 v4 v5 v6 v7 v8 v9 v10 v11 v12 v13 := by
  unfold zq33.d1; exact (zq33.o1.run N zq33.c16777215 zq33.c536870869 v0 v1 v2 v3 v4 v5 v6 v7 v8 v9 v10 v11 v12 v13).trans (congr (congr rfl (funext fun w0 => funext fun w1 => funext fun w2 => funext fun w3 => funext fun w4 => funext fun w5 => funext fun w6 => funext fun w7 => funext fun w8 => funext fun w9 => funext fun w10 => zq33.d2.run N w0 w1 w2 w3 w4 w5 w6 w7 w8 w9 w10)) (funext fun w0 => zq33.d3.run N w0))
def zq33.o0 (N : Nat) (a0 : List Int) (a1 : List Int) (c1 : (List Int) → (List Int) → Bool → Int → Int → Bool → (List S46) → Bool → (List Int) → (List Int) → ByteArray → Bool → Int → (List S41) → Option zq33.R) : Option zq33.R :=
 (zq35.g N a0 a1).bind fun r1 =>
 bif r1 then
  some (true)
 else
 (zq49.g N a0).bind fun r2 =>
 (zq17.g N r2.1 r2.2).bind fun r3 =>
 (zq58.g N r2.1 r2.2).bind fun r4 =>
 (zq1.g N r2.1 r2.2).bind fun r5 =>
 (zq46.g N r2.1 r2.2).bind fun r6 =>
 (zq4.g N r2.1 r2.2).bind fun r7 =>
 (zq50.g N r2.1 r2.2).bind fun r8 =>
 (zq16.g N r2.1 r2.2).bind fun r9 =>
 (zq57.g N r2.1 r2.2).bind fun r10 =>
 (zq9.g N r2.1 r2.2).bind fun r11 =>
 (zq52.g N r2.1 r2.2).bind fun r12 =>
 (zq13.g N r2.1 r2.2).bind fun r13 =>
 (zq54.g N r2.1 r2.2).bind fun r14 =>
 (zq11.g N r2.1 r2.2).bind fun r15 =>
 (zq53.g N r2.1 r2.2).bind fun r16 =>
 (zq0.g N r2.1 r2.2).bind fun r17 =>
 (zq45.g N r2.1 r2.2).bind fun r18 =>
 (zq15.g N r2.1 r2.2).bind fun r19 =>
 (zq56.g N r2.1 r2.2).bind fun r20 =>
 bif (!(r3.2 == r4.2)) then
  c1 a1 r3.1 r3.2 r5.1 r7.1 r7.2 r9.1 r11.1 r13.1 r15.1 r19.1 true r2.1 r2.2
 else
 (zq38.g N r3.1 r4.1).bind fun r21 =>
 bif (!r21) then
  c1 a1 r3.1 r3.2 r5.1 r7.1 r7.2 r9.1 r11.1 r13.1 r15.1 r19.1 true r2.1 r2.2
 else
 bif (!(r5.2 == r6.2)) then
  c1 a1 r3.1 r3.2 r5.1 r7.1 r7.2 r9.1 r11.1 r13.1 r15.1 r19.1 true r2.1 r2.2
 else
 bif (r5.1 != r6.1) then
  c1 a1 r3.1 r3.2 r5.1 r7.1 r7.2 r9.1 r11.1 r13.1 r15.1 r19.1 true r2.1 r2.2
 else
 bif (!(r7.2 == r8.2)) then
  c1 a1 r3.1 r3.2 r5.1 r7.1 r7.2 r9.1 r11.1 r13.1 r15.1 r19.1 true r2.1 r2.2
 else
 bif (r7.1 != r8.1) then
  c1 a1 r3.1 r3.2 r5.1 r7.1 r7.2 r9.1 r11.1 r13.1 r15.1 r19.1 true r2.1 r2.2
 else
 bif (!(r9.2 == r10.2)) then
  c1 a1 r3.1 r3.2 r5.1 r7.1 r7.2 r9.1 r11.1 r13.1 r15.1 r19.1 true r2.1 r2.2
 else
 (zq39.g N r9.1 r10.1).bind fun r22 =>
 bif (!r22) then
  c1 a1 r3.1 r3.2 r5.1 r7.1 r7.2 r9.1 r11.1 r13.1 r15.1 r19.1 true r2.1 r2.2
 else
 bif (!(r11.2 == r12.2)) then
  c1 a1 r3.1 r3.2 r5.1 r7.1 r7.2 r9.1 r11.1 r13.1 r15.1 r19.1 true r2.1 r2.2
 else
 bif (!(r11.1 == r12.1)) then
  c1 a1 r3.1 r3.2 r5.1 r7.1 r7.2 r9.1 r11.1 r13.1 r15.1 r19.1 true r2.1 r2.2
 else
 bif (!(r13.2 == r14.2)) then
  c1 a1 r3.1 r3.2 r5.1 r7.1 r7.2 r9.1 r11.1 r13.1 r15.1 r19.1 true r2.1 r2.2
 else
 (zq38.g N r13.1 r14.1).bind fun r23 =>
 bif (!r23) then
  c1 a1 r3.1 r3.2 r5.1 r7.1 r7.2 r9.1 r11.1 r13.1 r15.1 r19.1 true r2.1 r2.2
 else
 bif (!(r15.2 == r16.2)) then
  c1 a1 r3.1 r3.2 r5.1 r7.1 r7.2 r9.1 r11.1 r13.1 r15.1 r19.1 true r2.1 r2.2
 else
 (zq38.g N r15.1 r16.1).bind fun r24 =>
 bif (!r24) then
  c1 a1 r3.1 r3.2 r5.1 r7.1 r7.2 r9.1 r11.1 r13.1 r15.1 r19.1 true r2.1 r2.2
 else
 bif (!(r17.2 == r18.2)) then
  c1 a1 r3.1 r3.2 r5.1 r7.1 r7.2 r9.1 r11.1 r13.1 r15.1 r19.1 true r2.1 r2.2
 else
 bif (r17.1 != r18.1) then
  c1 a1 r3.1 r3.2 r5.1 r7.1 r7.2 r9.1 r11.1 r13.1 r15.1 r19.1 true r2.1 r2.2
 else
 bif (!(r19.2 == r20.2)) then
  c1 a1 r3.1 r3.2 r5.1 r7.1 r7.2 r9.1 r11.1 r13.1 r15.1 r19.1 true r2.1 r2.2
 else
 bif (!(r19.1.toList == r20.1.toList)) then
  c1 a1 r3.1 r3.2 r5.1 r7.1 r7.2 r9.1 r11.1 r13.1 r15.1 r19.1 true r2.1 r2.2
 else
 (zq7.g N r2.1 r2.2).bind fun r25 =>
 bif (!(r3.2 == r25)) then
  c1 a1 r3.1 r3.2 r5.1 r7.1 r7.2 r9.1 r11.1 r13.1 r15.1 r19.1 true r2.1 r2.2
 else
 (zq7.g N r2.1 r2.2).bind fun r26 =>
 (zq51.g N r2.1 r2.2).bind fun r27 =>
 bif (!(r26 == r27)) then
  c1 a1 r3.1 r3.2 r5.1 r7.1 r7.2 r9.1 r11.1 r13.1 r15.1 r19.1 true r2.1 r2.2
 else
 bif (!(r5.2 == r3.2)) then
  c1 a1 r3.1 r3.2 r5.1 r7.1 r7.2 r9.1 r11.1 r13.1 r15.1 r19.1 true r2.1 r2.2
 else
 bif r3.2 then
  bif (!(r7.2 == (decide (r5.1 > 0)))) then
   c1 a1 r3.1 r3.2 r5.1 r7.1 r7.2 r9.1 r11.1 r13.1 r15.1 r19.1 true r2.1 r2.2
  else
  bif (!(r9.2 == r3.2)) then
   c1 a1 r3.1 r3.2 r5.1 r7.1 r7.2 r9.1 r11.1 r13.1 r15.1 r19.1 true r2.1 r2.2
  else
  bif (!(r11.2 == r3.2)) then
   c1 a1 r3.1 r3.2 r5.1 r7.1 r7.2 r9.1 r11.1 r13.1 r15.1 r19.1 true r2.1 r2.2
  else
  bif (!(r13.2 == r3.2)) then
   c1 a1 r3.1 r3.2 r5.1 r7.1 r7.2 r9.1 r11.1 r13.1 r15.1 r19.1 true r2.1 r2.2
  else
  bif (!(r15.2 == r3.2)) then
   c1 a1 r3.1 r3.2 r5.1 r7.1 r7.2 r9.1 r11.1 r13.1 r15.1 r19.1 true r2.1 r2.2
  else
  bif r3.2 then
   bif (!(r17.2 == (decide ((r2.2.length : Int) > 0)))) then
    c1 a1 r3.1 r3.2 r5.1 r7.1 r7.2 r9.1 r11.1 r13.1 r15.1 r19.1 true r2.1 r2.2
   else
   c1 a1 r3.1 r3.2 r5.1 r7.1 r7.2 r9.1 r11.1 r13.1 r15.1 r19.1 (!(r19.2 == r3.2)) r2.1 r2.2
  else
  bif (!(r17.2 == false)) then
   c1 a1 r3.1 r3.2 r5.1 r7.1 r7.2 r9.1 r11.1 r13.1 r15.1 r19.1 true r2.1 r2.2
  else
  c1 a1 r3.1 r3.2 r5.1 r7.1 r7.2 r9.1 r11.1 r13.1 r15.1 r19.1 (!(r19.2 == r3.2)) r2.1 r2.2
 else
 bif (!(r7.2 == false)) then
  c1 a1 r3.1 r3.2 r5.1 r7.1 r7.2 r9.1 r11.1 r13.1 r15.1 r19.1 true r2.1 r2.2
 else
 bif (!(r9.2 == r3.2)) then
  c1 a1 r3.1 r3.2 r5.1 r7.1 r7.2 r9.1 r11.1 r13.1 r15.1 r19.1 true r2.1 r2.2
 else
 bif (!(r11.2 == r3.2)) then
  c1 a1 r3.1 r3.2 r5.1 r7.1 r7.2 r9.1 r11.1 r13.1 r15.1 r19.1 true r2.1 r2.2
 else
 bif (!(r13.2 == r3.2)) then
  c1 a1 r3.1 r3.2 r5.1 r7.1 r7.2 r9.1 r11.1 r13.1 r15.1 r19.1 true r2.1 r2.2
 else
 bif (!(r15.2 == r3.2)) then
  c1 a1 r3.1 r3.2 r5.1 r7.1 r7.2 r9.1 r11.1 r13.1 r15.1 r19.1 true r2.1 r2.2
 else
 bif r3.2 then
  bif (!(r17.2 == (decide ((r2.2.length : Int) > 0)))) then
   c1 a1 r3.1 r3.2 r5.1 r7.1 r7.2 r9.1 r11.1 r13.1 r15.1 r19.1 true r2.1 r2.2
  else
  c1 a1 r3.1 r3.2 r5.1 r7.1 r7.2 r9.1 r11.1 r13.1 r15.1 r19.1 (!(r19.2 == r3.2)) r2.1 r2.2
 else
 bif (!(r17.2 == false)) then
  c1 a1 r3.1 r3.2 r5.1 r7.1 r7.2 r9.1 r11.1 r13.1 r15.1 r19.1 true r2.1 r2.2
 else
 c1 a1 r3.1 r3.2 r5.1 r7.1 r7.2 r9.1 r11.1 r13.1 r15.1 r19.1 (!(r19.2 == r3.2)) r2.1 r2.2
theorem zq33.o0.run (N : Nat) (H16777213 : Code) (a0 : List Int) (a1 : List Int) : runC zq33.C (zq33.O N) N (.seq zq33.c2 (.seq zq33.c6 (.seq zq33.c14 (.seq zq33.c30 (.seq zq33.c62 (.seq zq33.c126 (.seq zq33.c254 (.seq zq33.c510 (.seq zq33.c1022 (.seq zq33.c2046 (.seq zq33.c4094 (.seq zq33.c8190 (.seq zq33.c16382 (.seq zq33.c32766 (.seq zq33.c65534 (.seq zq33.c131070 (.seq zq33.c262142 (.seq zq33.c524286 (.seq zq33.c1048574 (.seq zq33.c2097150 (.seq zq33.c4194302 (.seq (.seq zq33.c16777212 H16777213) zq33.c8388607)))))))))))))))))))))) 1 (st0 [.one (.sl false 5 a0), .one (.sl false 5 a1)] [] : St D0) zq33.K0 = zq33.o0 N a0 a1 ((fun w0 w1 w2 w3 w4 w5 w6 w7 w8 w9 w10 w11 w12 w13 => runC zq33.C (zq33.O N) N H16777213 16777213 (mkSt [(1, .one (.sl false 5 w0)), (5, .one (.ptr 5 0)), (6, .one (.sl true 3 w1)), (7, .one (.bool w2)), (10, .one (.int .i64 w3)), (14, .one (.int .i64 w4)), (15, .one (.bool w5)), (18, .one (.sl true 46 w6)), (22, .one (.bool w7)), (26, .one (.sl true 3 w8)), (30, .one (.sl true 3 w9)), (38, .one (.str w10)), (318, .one (.bool w11))] [(5, some (24, [.int .i64 w12, .sl true 41 w13]))] : St D0) (onN (fun s => zq33.C.tidy 8388606 s (fun s' => runC zq33.C (zq33.O N) N zq33.c8388607 8388607 s' zq33.K0)) zq33.K0))) := by kernel_rfl
def zq33.g (N : Nat) (a0 : List Int) (a1 : List Int) : Option zq33.R := zq33.o0 N a0 a1 ((fun w0 w1 w2 w3 w4 w5 w6 w7 w8 w9 w10 w11 w12 w13 => zq33.d1 N w0 w1 w2 w3 w4 w5 w6 w7 w8 w9 w10 w11 w12 w13))
theorem zq33.c1_0 : zq33.c1 = (.seq zq33.c2 (.seq zq33.c6 (.seq zq33.c14 (.seq zq33.c30 (.seq zq33.c62 (.seq zq33.c126 (.seq zq33.c254 (.seq zq33.c510 (.seq zq33.c1022 (.seq zq33.c2046 (.seq zq33.c4094 (.seq zq33.c8190 (.seq zq33.c16382 (.seq zq33.c32766 (.seq zq33.c65534 (.seq zq33.c131070 (.seq zq33.c262142 (.seq zq33.c524286 (.seq zq33.c1048574 (.seq zq33.c2097150 (.seq zq33.c4194302 (.seq (.seq zq33.c16777212 zq33.c16777213) zq33.c8388607)))))))))))))))))))))) := by kernel_rfl
theorem zq33.g.run (N : Nat) (a0 : List Int) (a1 : List Int) : runC zq33.C (zq33.O N) N zq33.c1 1 (st0 [.one (.sl false 5 a0), .one (.sl false 5 a1)] [] : St D0) zq33.K0 = zq33.g N a0 a1 := by
  rw [zq33.c1_0]; unfold zq33.g; exact (zq33.o0.run N zq33.c16777213 a0 a1).trans (congr rfl (funext fun w0 => funext fun w1 => funext fun w2 => funext fun w3 => funext fun w4 => funext fun w5 => funext fun w6 => funext fun w7 => funext fun w8 => funext fun w9 => funext fun w10 => funext fun w11 => funext fun w12 => funext fun w13 => zq33.d1.run N w0 w1 w2 w3 w4 w5 w6 w7 w8 w9 w10 w11 w12 w13))
theorem zq33.good (N : Nat) (a0 : List Int) (a1 : List Int) (r : zq33.R) (h : zq33.g N a0 a1 = some r) : Go.PM.Good Tryz.prog T0 4 [.one (.sl false 5 a0), .one (.sl false 5 a1)] [] (zq33.sig.ret r) (zq33.sig.bs r) :=
  good_fn tabOk0 mixed0 zq33.sig (zq33.E N) Tryz.func4 (by kernel_rfl) (by kernel_rfl) 2699348705801958712712683529902960268753157732192201177144703401987211147042556103404084069823464899557266303607164941842839057867348265991005750733665088781156339 0 0 [(16777212, [1, 5, 6, 7, 10, 14, 15, 18, 22, 26, 30, 38, 318], [5]), (16777214, [1], []), (536870868, [1, 5, 6, 10, 18, 26, 30, 38, 42, 374], [5]), (536870908, [62, 63, 64, 538], [63]), (2147483482, [1, 5, 6, 10, 18, 26, 30, 38, 42, 43], [5]), (4294966970, [1, 5, 6, 10, 18, 26, 30, 38, 42, 407, 408, 409], [5]), (8589933946, [1, 5, 10, 26, 30, 38, 462, 463], [5]), (8589933950, [1, 517], []), (549755771466, [1, 5, 6, 10, 18, 26, 30, 38, 42, 43, 44, 382, 383, 384], [5]), (2199023088846, [1, 5, 6, 10, 18, 26, 30, 38, 42, 407, 408, 409, 458], [5]), (4398046180558, [1, 5, 10, 26, 30, 38, 462, 463, 503], [5])] 1382077089412862363338913850666433979187948805226154457371097328219408404533805936673612570931192792814996491275212330313726838354565336463088090162380949180387426304 false [] [(false, [.any])] (by kernel_rfl) rfl rfl ((zq33.g.run N a0 a1).trans h)
def zq33.ent (N : Nat) : Ent Tryz.prog T0 := mkEnt 4 [(false, [.ro 5]), (false, [.ro 5])] zq33.sig (fun t => zq33.g N t.1 t.2) (fun t r h => zq33.good N t.1 t.2 r h)
end Go.Proofs.YtpeleommbipeaaaGreatDoor.M
end
