/- What the program's functions compute, walked by the machine (part 4). No conditions but those stated. -/
import Derived.Test.YtpeleommbipeaaaGreatDoorFnFnTimesSolvedOfAll3
namespace Go.Proofs.YtpeleommbipeaaaGreatDoor.M
open Go Go.PM Go.Proofs.YtpeleommbipeaaaGreatDoor.P
set_option linter.unusedVariables false
set_option maxRecDepth 100000
/-! ### zq33 -/
abbrev zq33.R : Type := Bool
abbrev zq33.sig : Sig := ⟨[(true, 2), (false, 1)], [], [.int .i64, .sl false 41, .str], [(false, 1)], [], [.bool]⟩
noncomputable def zq33.C : Cfg D0 := ⟨Go.Proofs.Tryz.prog, T0, 42177343641095021277996325090266777016362126809771168265585212144492764733774160110032235067294625864987618363880033689837208633898489445685048333699053439156215, 0, 545, 0, [(8388604, [1, 2, 5, 6, 9, 13, 14, 17, 21, 25, 29, 37, 314], [2]), (8388606, [1], []), (134217724, [1, 61, 62, 532], [61]), (268435412, [1, 2, 5, 9, 17, 25, 29, 37, 41, 370], [2]), (1073741658, [1, 2, 5, 9, 17, 25, 29, 37, 41, 42], [2]), (2147483322, [1, 2, 5, 9, 17, 25, 29, 37, 41, 403, 404, 405], [2]), (4294966650, [1, 2, 9, 25, 29, 37, 458, 459], [2]), (4294966654, [1, 513], []), (274877864522, [1, 2, 5, 9, 17, 25, 29, 37, 41, 42, 43, 378, 379, 380], [2]), (1099511461070, [1, 2, 5, 9, 17, 25, 29, 37, 41, 403, 404, 405, 454], [2]), (2199022925006, [1, 2, 9, 25, 29, 37, 458, 459, 499], [2])], 21594954508835228158003591198192552499358000950170250559508097698778593560060073139727453444717452242395332784978290451769053213589988915513458575598712363199496192, false, []⟩
noncomputable def zq33.E (N : Nat) : List (Ent Go.Proofs.Tryz.prog T0) := [zq17.ent N, zq53.ent N, zq1.ent N, zq44.ent N, zq4.ent N, zq45.ent N, zq16.ent N, zq52.ent N, zq9.ent N, zq47.ent N, zq13.ent N, zq49.ent N, zq11.ent N, zq48.ent N, zq0.ent N, zq43.ent N, zq15.ent N, zq51.ent N, zq36.ent N, zq37.ent N, zq7.ent N, zq46.ent N, zq14.ent N, zq50.ent N, zq35.ent N, zq2.ent N, zq34.ent N, zq5.ent N, zq12.ent N, zq3.ent N]
noncomputable def zq33.O (N : Nat) : Orc D0 zq33.R := orcOf (zq33.E N)
noncomputable def zq33.K0 : Ex → St D0 → Option zq33.R := exitK zq33.C Go.Proofs.Tryz.f3.results.toList [(false, [.any])] (decOut zq33.sig)
noncomputable def zq33.c1 : Code := codeAt (Go.Proofs.Tryz.f3.body.getD .skip) []
noncomputable def zq33.c2 : Code := codeAt (Go.Proofs.Tryz.f3.body.getD .skip) [false]
noncomputable def zq33.c6 : Code := codeAt (Go.Proofs.Tryz.f3.body.getD .skip) [true, false]
noncomputable def zq33.c14 : Code := codeAt (Go.Proofs.Tryz.f3.body.getD .skip) [true, true, false]
noncomputable def zq33.c30 : Code := codeAt (Go.Proofs.Tryz.f3.body.getD .skip) [true, true, true, false]
noncomputable def zq33.c62 : Code := codeAt (Go.Proofs.Tryz.f3.body.getD .skip) [true, true, true, true, false]
noncomputable def zq33.c126 : Code := codeAt (Go.Proofs.Tryz.f3.body.getD .skip) [true, true, true, true, true, false]
noncomputable def zq33.c254 : Code := codeAt (Go.Proofs.Tryz.f3.body.getD .skip) [true, true, true, true, true, true, false]
noncomputable def zq33.c510 : Code := codeAt (Go.Proofs.Tryz.f3.body.getD .skip) [true, true, true, true, true, true, true, false]
noncomputable def zq33.c1022 : Code := codeAt (Go.Proofs.Tryz.f3.body.getD .skip) [true, true, true, true, true, true, true, true, false]
noncomputable def zq33.c2046 : Code := codeAt (Go.Proofs.Tryz.f3.body.getD .skip) [true, true, true, true, true, true, true, true, true, false]
noncomputable def zq33.c4094 : Code := codeAt (Go.Proofs.Tryz.f3.body.getD .skip) [true, true, true, true, true, true, true, true, true, true, false]
noncomputable def zq33.c8190 : Code := codeAt (Go.Proofs.Tryz.f3.body.getD .skip) [true, true, true, true, true, true, true, true, true, true, true, false]
noncomputable def zq33.c16382 : Code := codeAt (Go.Proofs.Tryz.f3.body.getD .skip) [true, true, true, true, true, true, true, true, true, true, true, true, false]
noncomputable def zq33.c32766 : Code := codeAt (Go.Proofs.Tryz.f3.body.getD .skip) [true, true, true, true, true, true, true, true, true, true, true, true, true, false]
noncomputable def zq33.c65534 : Code := codeAt (Go.Proofs.Tryz.f3.body.getD .skip) [true, true, true, true, true, true, true, true, true, true, true, true, true, true, false]
noncomputable def zq33.c131070 : Code := codeAt (Go.Proofs.Tryz.f3.body.getD .skip) [true, true, true, true, true, true, true, true, true, true, true, true, true, true, true, false]
noncomputable def zq33.c262142 : Code := codeAt (Go.Proofs.Tryz.f3.body.getD .skip) [true, true, true, true, true, true, true, true, true, true, true, true, true, true, true, true, false]
noncomputable def zq33.c524286 : Code := codeAt (Go.Proofs.Tryz.f3.body.getD .skip) [true, true, true, true, true, true, true, true, true, true, true, true, true, true, true, true, true, false]
noncomputable def zq33.c1048574 : Code := codeAt (Go.Proofs.Tryz.f3.body.getD .skip) [true, true, true, true, true, true, true, true, true, true, true, true, true, true, true, true, true, true, false]
noncomputable def zq33.c2097150 : Code := codeAt (Go.Proofs.Tryz.f3.body.getD .skip) [true, true, true, true, true, true, true, true, true, true, true, true, true, true, true, true, true, true, true, false]
noncomputable def zq33.c4194303 : Code := codeAt (Go.Proofs.Tryz.f3.body.getD .skip) [true, true, true, true, true, true, true, true, true, true, true, true, true, true, true, true, true, true, true, true, true]
noncomputable def zq33.c8388604 : Code := codeAt (Go.Proofs.Tryz.f3.body.getD .skip) [true, true, true, true, true, true, true, true, true, true, true, true, true, true, true, true, true, true, true, true, false, false]
noncomputable def zq33.c8388605 : Code := codeAt (Go.Proofs.Tryz.f3.body.getD .skip) [true, true, true, true, true, true, true, true, true, true, true, true, true, true, true, true, true, true, true, true, false, true]
noncomputable def zq33.c8388607 : Code := codeAt (Go.Proofs.Tryz.f3.body.getD .skip) [true, true, true, true, true, true, true, true, true, true, true, true, true, true, true, true, true, true, true, true, true, true]
noncomputable def zq33.c16777212 : Code := codeAt (Go.Proofs.Tryz.f3.body.getD .skip) [true, true, true, true, true, true, true, true, true, true, true, true, true, true, true, true, true, true, true, true, true, false, false]
noncomputable def zq33.c16777214 : Code := codeAt (Go.Proofs.Tryz.f3.body.getD .skip) [true, true, true, true, true, true, true, true, true, true, true, true, true, true, true, true, true, true, true, true, true, true, false]
noncomputable def zq33.c33554427 : Code := codeAt (Go.Proofs.Tryz.f3.body.getD .skip) [true, true, true, true, true, true, true, true, true, true, true, true, true, true, true, true, true, true, true, true, true, false, true, true]
noncomputable def zq33.c33554430 : Code := codeAt (Go.Proofs.Tryz.f3.body.getD .skip) [true, true, true, true, true, true, true, true, true, true, true, true, true, true, true, true, true, true, true, true, true, true, true, false]
noncomputable def zq33.c67108852 : Code := codeAt (Go.Proofs.Tryz.f3.body.getD .skip) [true, true, true, true, true, true, true, true, true, true, true, true, true, true, true, true, true, true, true, true, true, false, true, false, false]
noncomputable def zq33.c67108863 : Code := codeAt (Go.Proofs.Tryz.f3.body.getD .skip) [true, true, true, true, true, true, true, true, true, true, true, true, true, true, true, true, true, true, true, true, true, true, true, true, true]
noncomputable def zq33.c134217707 : Code := codeAt (Go.Proofs.Tryz.f3.body.getD .skip) [true, true, true, true, true, true, true, true, true, true, true, true, true, true, true, true, true, true, true, true, true, false, true, false, true, true]
noncomputable def zq33.c134217724 : Code := codeAt (Go.Proofs.Tryz.f3.body.getD .skip) [true, true, true, true, true, true, true, true, true, true, true, true, true, true, true, true, true, true, true, true, true, true, true, true, false, false]
noncomputable def zq33.c134217725 : Code := codeAt (Go.Proofs.Tryz.f3.body.getD .skip) [true, true, true, true, true, true, true, true, true, true, true, true, true, true, true, true, true, true, true, true, true, true, true, true, false, true]
noncomputable def zq33.c268435412 : Code := codeAt (Go.Proofs.Tryz.f3.body.getD .skip) [true, true, true, true, true, true, true, true, true, true, true, true, true, true, true, true, true, true, true, true, true, false, true, false, true, false, false]
noncomputable def zq33.c268435413 : Code := codeAt (Go.Proofs.Tryz.f3.body.getD .skip) [true, true, true, true, true, true, true, true, true, true, true, true, true, true, true, true, true, true, true, true, true, false, true, false, true, false, true]
noncomputable def zq33.c268435415 : Code := codeAt (Go.Proofs.Tryz.f3.body.getD .skip) [true, true, true, true, true, true, true, true, true, true, true, true, true, true, true, true, true, true, true, true, true, false, true, false, true, true, true]
noncomputable def zq33.c536870828 : Code := codeAt (Go.Proofs.Tryz.f3.body.getD .skip) [true, true, true, true, true, true, true, true, true, true, true, true, true, true, true, true, true, true, true, true, true, false, true, false, true, true, false, false]
noncomputable def zq33.c536870831 : Code := codeAt (Go.Proofs.Tryz.f3.body.getD .skip) [true, true, true, true, true, true, true, true, true, true, true, true, true, true, true, true, true, true, true, true, true, false, true, false, true, true, true, true]
noncomputable def zq33.c1073741660 : Code := codeAt (Go.Proofs.Tryz.f3.body.getD .skip) [true, true, true, true, true, true, true, true, true, true, true, true, true, true, true, true, true, true, true, true, true, false, true, false, true, true, true, false, false]
noncomputable def zq33.c1073741663 : Code := codeAt (Go.Proofs.Tryz.f3.body.getD .skip) [true, true, true, true, true, true, true, true, true, true, true, true, true, true, true, true, true, true, true, true, true, false, true, false, true, true, true, true, true]
noncomputable def zq33.c2147483316 : Code := codeAt (Go.Proofs.Tryz.f3.body.getD .skip) [true, true, true, true, true, true, true, true, true, true, true, true, true, true, true, true, true, true, true, true, true, false, true, false, true, true, false, true, false, false]
noncomputable def zq33.c2147483324 : Code := codeAt (Go.Proofs.Tryz.f3.body.getD .skip) [true, true, true, true, true, true, true, true, true, true, true, true, true, true, true, true, true, true, true, true, true, false, true, false, true, true, true, true, false, false]
noncomputable def zq33.c2147483326 : Code := codeAt (Go.Proofs.Tryz.f3.body.getD .skip) [true, true, true, true, true, true, true, true, true, true, true, true, true, true, true, true, true, true, true, true, true, false, true, false, true, true, true, true, true, false]
noncomputable def zq33.c4294966632 : Code := codeAt (Go.Proofs.Tryz.f3.body.getD .skip) [true, true, true, true, true, true, true, true, true, true, true, true, true, true, true, true, true, true, true, true, true, false, true, false, true, true, false, true, false, false, false]
noncomputable def zq33.c4294966644 : Code := codeAt (Go.Proofs.Tryz.f3.body.getD .skip) [true, true, true, true, true, true, true, true, true, true, true, true, true, true, true, true, true, true, true, true, true, false, true, false, true, true, true, false, true, false, false]
noncomputable def zq33.c4294966654 : Code := codeAt (Go.Proofs.Tryz.f3.body.getD .skip) [true, true, true, true, true, true, true, true, true, true, true, true, true, true, true, true, true, true, true, true, true, false, true, false, true, true, true, true, true, true, false]
noncomputable def zq33.c4294966655 : Code := codeAt (Go.Proofs.Tryz.f3.body.getD .skip) [true, true, true, true, true, true, true, true, true, true, true, true, true, true, true, true, true, true, true, true, true, false, true, false, true, true, true, true, true, true, true]
noncomputable def zq33.c8589933267 : Code := codeAt (Go.Proofs.Tryz.f3.body.getD .skip) [true, true, true, true, true, true, true, true, true, true, true, true, true, true, true, true, true, true, true, true, true, false, true, false, true, true, false, true, false, false, true, true]
noncomputable def zq33.c8589933288 : Code := codeAt (Go.Proofs.Tryz.f3.body.getD .skip) [true, true, true, true, true, true, true, true, true, true, true, true, true, true, true, true, true, true, true, true, true, false, true, false, true, true, true, false, true, false, false, false]
noncomputable def zq33.c8589933300 : Code := codeAt (Go.Proofs.Tryz.f3.body.getD .skip) [true, true, true, true, true, true, true, true, true, true, true, true, true, true, true, true, true, true, true, true, true, false, true, false, true, true, true, true, false, true, false, false]
noncomputable def zq33.c17179866578 : Code := codeAt (Go.Proofs.Tryz.f3.body.getD .skip) [true, true, true, true, true, true, true, true, true, true, true, true, true, true, true, true, true, true, true, true, true, false, true, false, true, true, true, false, true, false, false, true, false]
noncomputable def zq33.c17179866600 : Code := codeAt (Go.Proofs.Tryz.f3.body.getD .skip) [true, true, true, true, true, true, true, true, true, true, true, true, true, true, true, true, true, true, true, true, true, false, true, false, true, true, true, true, false, true, false, false, false]
noncomputable def zq33.c34359733064 : Code := codeAt (Go.Proofs.Tryz.f3.body.getD .skip) [true, true, true, true, true, true, true, true, true, true, true, true, true, true, true, true, true, true, true, true, true, false, true, false, true, true, false, true, false, false, true, false, false, false]
noncomputable def zq33.c34359733159 : Code := codeAt (Go.Proofs.Tryz.f3.body.getD .skip) [true, true, true, true, true, true, true, true, true, true, true, true, true, true, true, true, true, true, true, true, true, false, true, false, true, true, true, false, true, false, false, true, true, true]
noncomputable def zq33.c34359733202 : Code := codeAt (Go.Proofs.Tryz.f3.body.getD .skip) [true, true, true, true, true, true, true, true, true, true, true, true, true, true, true, true, true, true, true, true, true, false, true, false, true, true, true, true, false, true, false, false, true, false]
noncomputable def zq33.c68719466131 : Code := codeAt (Go.Proofs.Tryz.f3.body.getD .skip) [true, true, true, true, true, true, true, true, true, true, true, true, true, true, true, true, true, true, true, true, true, false, true, false, true, true, false, true, false, false, true, false, false, true, true]
noncomputable def zq33.c68719466407 : Code := codeAt (Go.Proofs.Tryz.f3.body.getD .skip) [true, true, true, true, true, true, true, true, true, true, true, true, true, true, true, true, true, true, true, true, true, false, true, false, true, true, true, true, false, true, false, false, true, true, true]
noncomputable def zq33.c137438932260 : Code := codeAt (Go.Proofs.Tryz.f3.body.getD .skip) [true, true, true, true, true, true, true, true, true, true, true, true, true, true, true, true, true, true, true, true, true, false, true, false, true, true, false, true, false, false, true, false, false, true, false, false]
noncomputable def zq33.c137438932632 : Code := codeAt (Go.Proofs.Tryz.f3.body.getD .skip) [true, true, true, true, true, true, true, true, true, true, true, true, true, true, true, true, true, true, true, true, true, false, true, false, true, true, true, false, true, false, false, true, true, false, false, false]
noncomputable def zq33.c274877865266 : Code := codeAt (Go.Proofs.Tryz.f3.body.getD .skip) [true, true, true, true, true, true, true, true, true, true, true, true, true, true, true, true, true, true, true, true, true, false, true, false, true, true, true, false, true, false, false, true, true, false, false, true, false]
noncomputable def zq33.c274877865624 : Code := codeAt (Go.Proofs.Tryz.f3.body.getD .skip) [true, true, true, true, true, true, true, true, true, true, true, true, true, true, true, true, true, true, true, true, true, false, true, false, true, true, true, true, false, true, false, false, true, true, false, false, false]
noncomputable def zq33.c549755729044 : Code := codeAt (Go.Proofs.Tryz.f3.body.getD .skip) [true, true, true, true, true, true, true, true, true, true, true, true, true, true, true, true, true, true, true, true, true, false, true, false, true, true, false, true, false, false, true, false, false, true, false, true, false, false]
noncomputable def zq33.c549755730534 : Code := codeAt (Go.Proofs.Tryz.f3.body.getD .skip) [true, true, true, true, true, true, true, true, true, true, true, true, true, true, true, true, true, true, true, true, true, false, true, false, true, true, true, false, true, false, false, true, true, false, false, true, true, false]
noncomputable def zq33.c549755731250 : Code := codeAt (Go.Proofs.Tryz.f3.body.getD .skip) [true, true, true, true, true, true, true, true, true, true, true, true, true, true, true, true, true, true, true, true, true, false, true, false, true, true, true, true, false, true, false, false, true, true, false, false, true, false]
noncomputable def zq33.c1099511461070 : Code := codeAt (Go.Proofs.Tryz.f3.body.getD .skip) [true, true, true, true, true, true, true, true, true, true, true, true, true, true, true, true, true, true, true, true, true, false, true, false, true, true, true, false, true, false, false, true, true, false, false, true, true, true, false]
noncomputable def zq33.c1099511461071 : Code := codeAt (Go.Proofs.Tryz.f3.body.getD .skip) [true, true, true, true, true, true, true, true, true, true, true, true, true, true, true, true, true, true, true, true, true, false, true, false, true, true, true, false, true, false, false, true, true, false, false, true, true, true, true]
noncomputable def zq33.c1099511462502 : Code := codeAt (Go.Proofs.Tryz.f3.body.getD .skip) [true, true, true, true, true, true, true, true, true, true, true, true, true, true, true, true, true, true, true, true, true, false, true, false, true, true, true, true, false, true, false, false, true, true, false, false, true, true, false]
noncomputable def zq33.c2199022925006 : Code := codeAt (Go.Proofs.Tryz.f3.body.getD .skip) [true, true, true, true, true, true, true, true, true, true, true, true, true, true, true, true, true, true, true, true, true, false, true, false, true, true, true, true, false, true, false, false, true, true, false, false, true, true, true, false]
noncomputable def zq33.c2199022925007 : Code := codeAt (Go.Proofs.Tryz.f3.body.getD .skip) [true, true, true, true, true, true, true, true, true, true, true, true, true, true, true, true, true, true, true, true, true, false, true, false, true, true, true, true, false, true, false, false, true, true, false, false, true, true, true, true]
noncomputable def zq33.K8388607 (N : Nat) : Ex → St D0 → Option zq33.R := zq33.K0
noncomputable def zq33.B4194303 (N : Nat) : St D0 → Option zq33.R := fun s' => runC zq33.C (zq33.O N) N zq33.c8388607 8388607 s' (zq33.K8388607 N)
noncomputable def zq33.K549755729044 (N : Nat) (Kn1073741658 : St D0 → Option zq33.R) (Kn274877864522 : St D0 → Option zq33.R) : Ex → St D0 → Option zq33.R := ((fun up => (onN (fun s => zq33.C.tidy 274877864522 s ((onN Kn274877864522 up) .normal)) (onN Kn274877864522 up))) (blockK 2 ((fun up => (onN (fun s => zq33.C.tidy 68719466130 s (fun s' => runC zq33.C (zq33.O N) N zq33.c68719466131 68719466131 s' up)) up)) (blockK 1 ((fun up => (onN (fun s => zq33.C.tidy 8589933266 s (fun s' => runC zq33.C (zq33.O N) N zq33.c8589933267 8589933267 s' up)) up)) ((fun up => (onN (fun s => zq33.C.tidy 1073741658 s ((onN Kn1073741658 up) .normal)) (onN Kn1073741658 up))) (blockK 0 ((fun up => (onN (fun s => zq33.C.tidy 268435414 s (fun s' => runC zq33.C (zq33.O N) N zq33.c268435415 268435415 s' up)) up)) (onN (fun s => zq33.C.tidy 8388606 s (zq33.B4194303 N)) zq33.K0)))))))))
noncomputable def zq33.o6 (N : Nat) (v0 : ByteArray) (v1 : List Int) (v2 : Int) (v3 : List S46) (v4 : List Int) (v5 : List Int) (v6 : ByteArray) (v7 : Int) (v8 : Int) (v9 : Bool) (v10 : List S41) (v11 : Int) (v12 : Int) (v13 : Int) (v14 : List S41) (c6 : ByteArray → (List Int) → Int → (List S46) → (List Int) → (List Int) → ByteArray → Int → Int → Bool → (List S41) → Int → Int → Int → (List S41) → Option zq33.R) (c4 : ByteArray → (List Int) → Int → (List S46) → (List Int) → (List Int) → ByteArray → Int → Int → Int → (List S41) → Option zq33.R) : Option zq33.R :=
 bif (decide (v12 < v11)) then
  bif (decide (0 ≤ v12)) then
   bif (decide (v12 < (v10.length : Int))) then
    (v10[(v12 : Int).toNat]?).bind fun x1 =>
    (zq2.g N v7 x1.f0 x1.f1 x1.f2 v8).bind fun r2 =>
    bif (!r2.2) then
     some (false)
    else
    bif v9 then
     c6 v0 v1 v2 v3 v4 v5 v6 v7 v8 r2.1 v10 v11 (w64 (v12 + 1)) v13 v14
    else
    c6 v0 v1 v2 v3 v4 v5 v6 v7 v8 false v10 v11 (w64 (v12 + 1)) v13 v14
   else
   none
  else
  none
 else
 (zq34.g N v1 v8).bind fun r3 =>
 bif (!(v9 == r3)) then
  some (false)
 else
 c4 v0 v1 v2 v3 v4 v5 v6 v7 (w64 (v8 + 1)) v13 v14
theorem zq33.o6.run (N : Nat) (Kb4194303 : St D0 → Option zq33.R) (Kn1073741658 : St D0 → Option zq33.R) (Kn274877864522 : St D0 → Option zq33.R) (v0 : ByteArray) (v1 : List Int) (v2 : Int) (v3 : List S46) (v4 : List Int) (v5 : List Int) (v6 : ByteArray) (v7 : Int) (v8 : Int) (v9 : Bool) (v10 : List S41) (v11 : Int) (v12 : Int) (v13 : Int) (v14 : List S41) : runC zq33.C (zq33.O N) N zq33.c549755729044 549755729044 (mkSt [(1, .one (.str v0)), (2, .one (.ptr 2 0)), (5, .one (.sl true 3 v1)), (9, .one (.int .i64 v2)), (17, .one (.sl true 46 v3)), (25, .one (.sl true 3 v4)), (29, .one (.sl true 3 v5)), (37, .one (.str v6)), (41, .one (.int .i64 v7)), (42, .one (.int .i64 v8)), (43, .one (.bool v9)), (378, .one (.sl false 41 v10)), (379, .one (.int .i64 v11)), (380, .one (.int .i64 v12))] [(2, some (24, [.int .i64 v13, .sl false 41 v14]))] : St D0) ((fun up => (onN (fun s => zq33.C.tidy 274877864522 s ((onN Kn274877864522 up) .normal)) (onN Kn274877864522 up))) (blockK 2 ((fun up => (onN (fun s => zq33.C.tidy 68719466130 s (fun s' => runC zq33.C (zq33.O N) N zq33.c68719466131 68719466131 s' up)) up)) (blockK 1 ((fun up => (onN (fun s => zq33.C.tidy 8589933266 s (fun s' => runC zq33.C (zq33.O N) N zq33.c8589933267 8589933267 s' up)) up)) ((fun up => (onN (fun s => zq33.C.tidy 1073741658 s ((onN Kn1073741658 up) .normal)) (onN Kn1073741658 up))) (blockK 0 ((fun up => (onN (fun s => zq33.C.tidy 268435414 s (fun s' => runC zq33.C (zq33.O N) N zq33.c268435415 268435415 s' up)) up)) (onN (fun s => zq33.C.tidy 8388606 s Kb4194303) zq33.K0))))))))) = zq33.o6 N v0 v1 v2 v3 v4 v5 v6 v7 v8 v9 v10 v11 v12 v13 v14 ((fun w0 w1 w2 w3 w4 w5 w6 w7 w8 w9 w10 w11 w12 w13 w14 => Kn274877864522 (mkSt [(1, .one (.str w0)), (2, .one (.ptr 2 0)), (5, .one (.sl true 3 w1)), (9, .one (.int .i64 w2)), (17, .one (.sl true 46 w3)), (25, .one (.sl true 3 w4)), (29, .one (.sl true 3 w5)), (37, .one (.str w6)), (41, .one (.int .i64 w7)), (42, .one (.int .i64 w8)), (43, .one (.bool w9)), (378, .one (.sl false 41 w10)), (379, .one (.int .i64 w11)), (380, .one (.int .i64 w12))] [(2, some (24, [.int .i64 w13, .sl false 41 w14]))] : St D0))) ((fun w0 w1 w2 w3 w4 w5 w6 w7 w8 w9 w10 => Kn1073741658 (mkSt [(1, .one (.str w0)), (2, .one (.ptr 2 0)), (5, .one (.sl true 3 w1)), (9, .one (.int .i64 w2)), (17, .one (.sl true 46 w3)), (25, .one (.sl true 3 w4)), (29, .one (.sl true 3 w5)), (37, .one (.str w6)), (41, .one (.int .i64 w7)), (42, .one (.int .i64 w8))] [(2, some (24, [.int .i64 w9, .sl false 41 w10]))] : St D0))) := by kernel_rfl
noncomputable def zq33.d6 (N : Nat) (v0 : ByteArray) (v1 : List Int) (v2 : Int) (v3 : List S46) (v4 : List Int) (v5 : List Int) (v6 : ByteArray) (v7 : Int) (v8 : Int) (v9 : Bool) (v10 : List S41) (v11 : Int) (v12 : Int) (v13 : Int) (v14 : List S41) (c4 : ByteArray → (List Int) → Int → (List S46) → (List Int) → (List Int) → ByteArray → Int → Int → Int → (List S41) → Option zq33.R) (c6 : ByteArray → (List Int) → Int → (List S46) → (List Int) → (List Int) → ByteArray → Int → Int → Bool → (List S41) → Int → Int → Int → (List S41) → Option zq33.R) : Option zq33.R := zq33.o6 N v0 v1 v2 v3 v4 v5 v6 v7 v8 v9 v10 v11 v12 v13 v14 c6 c4
theorem zq33.d6.run (N : Nat) (Kn1073741658 : St D0 → Option zq33.R) (Kn274877864522 : St D0 → Option zq33.R) (v0 : ByteArray) (v1 : List Int) (v2 : Int) (v3 : List S46) (v4 : List Int) (v5 : List Int) (v6 : ByteArray) (v7 : Int) (v8 : Int) (v9 : Bool) (v10 : List S41) (v11 : Int) (v12 : Int) (v13 : Int) (v14 : List S41) : runC zq33.C (zq33.O N) N zq33.c549755729044 549755729044 (mkSt [(1, .one (.str v0)), (2, .one (.ptr 2 0)), (5, .one (.sl true 3 v1)), (9, .one (.int .i64 v2)), (17, .one (.sl true 46 v3)), (25, .one (.sl true 3 v4)), (29, .one (.sl true 3 v5)), (37, .one (.str v6)), (41, .one (.int .i64 v7)), (42, .one (.int .i64 v8)), (43, .one (.bool v9)), (378, .one (.sl false 41 v10)), (379, .one (.int .i64 v11)), (380, .one (.int .i64 v12))] [(2, some (24, [.int .i64 v13, .sl false 41 v14]))] : St D0) (zq33.K549755729044 N Kn1073741658 Kn274877864522) = zq33.d6 N v0 v1 v2 v3 v4 v5 v6 v7 v8 v9 v10 v11 v12 v13 v14 ((fun w0 w1 w2 w3 w4 w5 w6 w7 w8 w9 w10 => Kn1073741658 (mkSt [(1, .one (.str w0)), (2, .one (.ptr 2 0)), (5, .one (.sl true 3 w1)), (9, .one (.int .i64 w2)), (17, .one (.sl true 46 w3)), (25, .one (.sl true 3 w4)), (29, .one (.sl true 3 w5)), (37, .one (.str w6)), (41, .one (.int .i64 w7)), (42, .one (.int .i64 w8))] [(2, some (24, [.int .i64 w9, .sl false 41 w10]))] : St D0))) ((fun w0 w1 w2 w3 w4 w5 w6 w7 w8 w9 w10 w11 w12 w13 w14 => Kn274877864522 (mkSt [(1, .one (.str w0)), (2, .one (.ptr 2 0)), (5, .one (.sl true 3 w1)), (9, .one (.int .i64 w2)), (17, .one (.sl true 46 w3)), (25, .one (.sl true 3 w4)), (29, .one (.sl true 3 w5)), (37, .one (.str w6)), (41, .one (.int .i64 w7)), (42, .one (.int .i64 w8)), (43, .one (.bool w9)), (378, .one (.sl false 41 w10)), (379, .one (.int .i64 w11)), (380, .one (.int .i64 w12))] [(2, some (24, [.int .i64 w13, .sl false 41 w14]))] : St D0))) := by
  exact (zq33.o6.run N (zq33.B4194303 N) Kn1073741658 Kn274877864522 v0 v1 v2 v3 v4 v5 v6 v7 v8 v9 v10 v11 v12 v13 v14).trans rfl
noncomputable def zq33.K274877864522 (N : Nat) (Kn1073741658 : St D0 → Option zq33.R) : Ex → St D0 → Option zq33.R := (blockK 2 ((fun up => (onN (fun s => zq33.C.tidy 68719466130 s (fun s' => runC zq33.C (zq33.O N) N zq33.c68719466131 68719466131 s' up)) up)) (blockK 1 ((fun up => (onN (fun s => zq33.C.tidy 8589933266 s (fun s' => runC zq33.C (zq33.O N) N zq33.c8589933267 8589933267 s' up)) up)) ((fun up => (onN (fun s => zq33.C.tidy 1073741658 s ((onN Kn1073741658 up) .normal)) (onN Kn1073741658 up))) (blockK 0 ((fun up => (onN (fun s => zq33.C.tidy 268435414 s (fun s' => runC zq33.C (zq33.O N) N zq33.c268435415 268435415 s' up)) up)) (onN (fun s => zq33.C.tidy 8388606 s (zq33.B4194303 N)) zq33.K0))))))))
noncomputable def zq33.l6 (N : Nat) : Nat → ByteArray → (List Int) → Int → (List S46) → (List Int) → (List Int) → ByteArray → Int → Int → Bool → (List S41) → Int → Int → Int → (List S41) → (ByteArray → (List Int) → Int → (List S46) → (List Int) → (List Int) → ByteArray → Int → Int → Int → (List S41) → Option zq33.R) → Option zq33.R
  | 0, _, _, _, _, _, _, _, _, _, _, _, _, _, _, _, _ => none
  | n + 1, v0, v1, v2, v3, v4, v5, v6, v7, v8, v9, v10, v11, v12, v13, v14, c4 => zq33.d6 N v0 v1 v2 v3 v4 v5 v6 v7 v8 v9 v10 v11 v12 v13 v14 c4 ((fun w0 w1 w2 w3 w4 w5 w6 w7 w8 w9 w10 w11 w12 w13 w14 => zq33.l6 N n w0 w1 w2 w3 w4 w5 w6 w7 w8 w9 w10 w11 w12 w13 w14 c4))
theorem zq33.loop274877864522 (N : Nat) (Kn1073741658 : St D0 → Option zq33.R) : ∀ n, (∀ (v0 : ByteArray) (v1 : List Int) (v2 : Int) (v3 : List S46) (v4 : List Int) (v5 : List Int) (v6 : ByteArray) (v7 : Int) (v8 : Int) (v9 : Bool) (v10 : List S41) (v11 : Int) (v12 : Int) (v13 : Int) (v14 : List S41), iter (loopF zq33.C (zq33.O N) N zq33.c549755729044 274877864522) n (mkSt [(1, .one (.str v0)), (2, .one (.ptr 2 0)), (5, .one (.sl true 3 v1)), (9, .one (.int .i64 v2)), (17, .one (.sl true 46 v3)), (25, .one (.sl true 3 v4)), (29, .one (.sl true 3 v5)), (37, .one (.str v6)), (41, .one (.int .i64 v7)), (42, .one (.int .i64 v8)), (43, .one (.bool v9)), (378, .one (.sl false 41 v10)), (379, .one (.int .i64 v11)), (380, .one (.int .i64 v12))] [(2, some (24, [.int .i64 v13, .sl false 41 v14]))] : St D0) (zq33.K274877864522 N Kn1073741658) = zq33.l6 N n v0 v1 v2 v3 v4 v5 v6 v7 v8 v9 v10 v11 v12 v13 v14 ((fun w0 w1 w2 w3 w4 w5 w6 w7 w8 w9 w10 => Kn1073741658 (mkSt [(1, .one (.str w0)), (2, .one (.ptr 2 0)), (5, .one (.sl true 3 w1)), (9, .one (.int .i64 w2)), (17, .one (.sl true 46 w3)), (25, .one (.sl true 3 w4)), (29, .one (.sl true 3 w5)), (37, .one (.str w6)), (41, .one (.int .i64 w7)), (42, .one (.int .i64 w8))] [(2, some (24, [.int .i64 w9, .sl false 41 w10]))] : St D0))))
  | 0 => (fun v0 v1 v2 v3 v4 v5 v6 v7 v8 v9 v10 v11 v12 v13 v14 => rfl)
  | n + 1 => (fun v0 v1 v2 v3 v4 v5 v6 v7 v8 v9 v10 v11 v12 v13 v14 => (zq33.d6.run N Kn1073741658 (fun s => iter (loopF zq33.C (zq33.O N) N zq33.c549755729044 274877864522) n s (zq33.K274877864522 N Kn1073741658)) v0 v1 v2 v3 v4 v5 v6 v7 v8 v9 v10 v11 v12 v13 v14).trans (show _ = zq33.d6 N v0 v1 v2 v3 v4 v5 v6 v7 v8 v9 v10 v11 v12 v13 v14 ((fun w0 w1 w2 w3 w4 w5 w6 w7 w8 w9 w10 => Kn1073741658 (mkSt [(1, .one (.str w0)), (2, .one (.ptr 2 0)), (5, .one (.sl true 3 w1)), (9, .one (.int .i64 w2)), (17, .one (.sl true 46 w3)), (25, .one (.sl true 3 w4)), (29, .one (.sl true 3 w5)), (37, .one (.str w6)), (41, .one (.int .i64 w7)), (42, .one (.int .i64 w8))] [(2, some (24, [.int .i64 w9, .sl false 41 w10]))] : St D0))) ((fun w0 w1 w2 w3 w4 w5 w6 w7 w8 w9 w10 w11 w12 w13 w14 => zq33.l6 N n w0 w1 w2 w3 w4 w5 w6 w7 w8 w9 w10 w11 w12 w13 w14 ((fun w0 w1 w2 w3 w4 w5 w6 w7 w8 w9 w10 => Kn1073741658 (mkSt [(1, .one (.str w0)), (2, .one (.ptr 2 0)), (5, .one (.sl true 3 w1)), (9, .one (.int .i64 w2)), (17, .one (.sl true 46 w3)), (25, .one (.sl true 3 w4)), (29, .one (.sl true 3 w5)), (37, .one (.str w6)), (41, .one (.int .i64 w7)), (42, .one (.int .i64 w8))] [(2, some (24, [.int .i64 w9, .sl false 41 w10]))] : St D0))))) from (congr (congr rfl rfl) (funext fun w0 => funext fun w1 => funext fun w2 => funext fun w3 => funext fun w4 => funext fun w5 => funext fun w6 => funext fun w7 => funext fun w8 => funext fun w9 => funext fun w10 => funext fun w11 => funext fun w12 => funext fun w13 => funext fun w14 => (zq33.loop274877864522 N Kn1073741658 n) w0 w1 w2 w3 w4 w5 w6 w7 w8 w9 w10 w11 w12 w13 w14))))
noncomputable def zq33.K1099511461071 (N : Nat) (Kn2147483322 : St D0 → Option zq33.R) : Ex → St D0 → Option zq33.R := (blockK 5 ((fun up => (onN (fun s => zq33.C.tidy 34359733158 s (fun s' => runC zq33.C (zq33.O N) N zq33.c34359733159 34359733159 s' up)) up)) ((fun up => (onN (fun s => zq33.C.tidy 2147483322 s ((onN Kn2147483322 up) .normal)) (onN Kn2147483322 up))) (blockK 4 ((fun up => (onN (fun s => zq33.C.tidy 536870830 s (fun s' => runC zq33.C (zq33.O N) N zq33.c536870831 536870831 s' up)) up)) (onN (fun s => zq33.C.tidy 8388606 s (zq33.B4194303 N)) zq33.K0))))))
noncomputable def zq33.o8 (N : Nat) (v0 : ByteArray) (v1 : List Int) (v2 : Int) (v3 : List S46) (v4 : List Int) (v5 : List Int) (v6 : ByteArray) (v7 : Int) (v8 : List Int) (v9 : Int) (v10 : Int) (v11 : Bool) (v12 : Int) (v13 : List S41) (c7 : ByteArray → (List Int) → Int → (List S46) → (List Int) → (List Int) → ByteArray → Int → (List Int) → Int → Int → Int → (List S41) → Option zq33.R) : Option zq33.R :=
 bif v11 then
  some (false)
 else
 c7 v0 v1 v2 v3 v4 v5 v6 v7 v8 v9 (w64 (v10 + 1)) v12 v13
theorem zq33.o8.run (N : Nat) (Kb4194303 : St D0 → Option zq33.R) (Kn2147483322 : St D0 → Option zq33.R) (v0 : ByteArray) (v1 : List Int) (v2 : Int) (v3 : List S46) (v4 : List Int) (v5 : List Int) (v6 : ByteArray) (v7 : Int) (v8 : List Int) (v9 : Int) (v10 : Int) (v11 : Bool) (v12 : Int) (v13 : List S41) : runC zq33.C (zq33.O N) N zq33.c1099511461071 1099511461071 (mkSt [(1, .one (.str v0)), (2, .one (.ptr 2 0)), (5, .one (.sl false 3 v1)), (9, .one (.int .i64 v2)), (17, .one (.sl true 46 v3)), (25, .one (.sl true 3 v4)), (29, .one (.sl true 3 v5)), (37, .one (.str v6)), (41, .one (.int .i64 v7)), (403, .one (.sl true 3 v8)), (404, .one (.int .i64 v9)), (405, .one (.int .i64 v10)), (454, .one (.bool v11))] [(2, some (24, [.int .i64 v12, .sl false 41 v13]))] : St D0) (blockK 5 ((fun up => (onN (fun s => zq33.C.tidy 34359733158 s (fun s' => runC zq33.C (zq33.O N) N zq33.c34359733159 34359733159 s' up)) up)) ((fun up => (onN (fun s => zq33.C.tidy 2147483322 s ((onN Kn2147483322 up) .normal)) (onN Kn2147483322 up))) (blockK 4 ((fun up => (onN (fun s => zq33.C.tidy 536870830 s (fun s' => runC zq33.C (zq33.O N) N zq33.c536870831 536870831 s' up)) up)) (onN (fun s => zq33.C.tidy 8388606 s Kb4194303) zq33.K0)))))) = zq33.o8 N v0 v1 v2 v3 v4 v5 v6 v7 v8 v9 v10 v11 v12 v13 ((fun w0 w1 w2 w3 w4 w5 w6 w7 w8 w9 w10 w11 w12 => Kn2147483322 (mkSt [(1, .one (.str w0)), (2, .one (.ptr 2 0)), (5, .one (.sl false 3 w1)), (9, .one (.int .i64 w2)), (17, .one (.sl true 46 w3)), (25, .one (.sl true 3 w4)), (29, .one (.sl true 3 w5)), (37, .one (.str w6)), (41, .one (.int .i64 w7)), (403, .one (.sl true 3 w8)), (404, .one (.int .i64 w9)), (405, .one (.int .i64 w10))] [(2, some (24, [.int .i64 w11, .sl false 41 w12]))] : St D0))) := by kernel_rfl
noncomputable def zq33.d8 (N : Nat) (v0 : ByteArray) (v1 : List Int) (v2 : Int) (v3 : List S46) (v4 : List Int) (v5 : List Int) (v6 : ByteArray) (v7 : Int) (v8 : List Int) (v9 : Int) (v10 : Int) (v11 : Bool) (v12 : Int) (v13 : List S41) (c7 : ByteArray → (List Int) → Int → (List S46) → (List Int) → (List Int) → ByteArray → Int → (List Int) → Int → Int → Int → (List S41) → Option zq33.R) : Option zq33.R := zq33.o8 N v0 v1 v2 v3 v4 v5 v6 v7 v8 v9 v10 v11 v12 v13 c7
theorem zq33.d8.run (N : Nat) (Kn2147483322 : St D0 → Option zq33.R) (v0 : ByteArray) (v1 : List Int) (v2 : Int) (v3 : List S46) (v4 : List Int) (v5 : List Int) (v6 : ByteArray) (v7 : Int) (v8 : List Int) (v9 : Int) (v10 : Int) (v11 : Bool) (v12 : Int) (v13 : List S41) : runC zq33.C (zq33.O N) N zq33.c1099511461071 1099511461071 (mkSt [(1, .one (.str v0)), (2, .one (.ptr 2 0)), (5, .one (.sl false 3 v1)), (9, .one (.int .i64 v2)), (17, .one (.sl true 46 v3)), (25, .one (.sl true 3 v4)), (29, .one (.sl true 3 v5)), (37, .one (.str v6)), (41, .one (.int .i64 v7)), (403, .one (.sl true 3 v8)), (404, .one (.int .i64 v9)), (405, .one (.int .i64 v10)), (454, .one (.bool v11))] [(2, some (24, [.int .i64 v12, .sl false 41 v13]))] : St D0) (zq33.K1099511461071 N Kn2147483322) = zq33.d8 N v0 v1 v2 v3 v4 v5 v6 v7 v8 v9 v10 v11 v12 v13 ((fun w0 w1 w2 w3 w4 w5 w6 w7 w8 w9 w10 w11 w12 => Kn2147483322 (mkSt [(1, .one (.str w0)), (2, .one (.ptr 2 0)), (5, .one (.sl false 3 w1)), (9, .one (.int .i64 w2)), (17, .one (.sl true 46 w3)), (25, .one (.sl true 3 w4)), (29, .one (.sl true 3 w5)), (37, .one (.str w6)), (41, .one (.int .i64 w7)), (403, .one (.sl true 3 w8)), (404, .one (.int .i64 w9)), (405, .one (.int .i64 w10))] [(2, some (24, [.int .i64 w11, .sl false 41 w12]))] : St D0))) := by
  exact (zq33.o8.run N (zq33.B4194303 N) Kn2147483322 v0 v1 v2 v3 v4 v5 v6 v7 v8 v9 v10 v11 v12 v13).trans rfl
noncomputable def zq33.K2199022925007 (N : Nat) (Kn4294966650 : St D0 → Option zq33.R) : Ex → St D0 → Option zq33.R := (blockK 7 ((fun up => (onN (fun s => zq33.C.tidy 68719466406 s (fun s' => runC zq33.C (zq33.O N) N zq33.c68719466407 68719466407 s' up)) up)) ((fun up => (onN (fun s => zq33.C.tidy 4294966650 s ((onN Kn4294966650 up) .normal)) (onN Kn4294966650 up))) (blockK 6 ((fun up => (onN (fun s => zq33.C.tidy 1073741662 s (fun s' => runC zq33.C (zq33.O N) N zq33.c1073741663 1073741663 s' up)) up)) (onN (fun s => zq33.C.tidy 8388606 s (zq33.B4194303 N)) zq33.K0))))))
noncomputable def zq33.o10 (N : Nat) (v0 : ByteArray) (v1 : Int) (v2 : List Int) (v3 : List Int) (v4 : ByteArray) (v5 : Int) (v6 : Int) (v7 : Bool) (v8 : Int) (v9 : List S41) (c9 : ByteArray → Int → (List Int) → (List Int) → ByteArray → Int → Int → Int → (List S41) → Option zq33.R) : Option zq33.R :=
 bif v7 then
  some (false)
 else
 c9 v0 v1 v2 v3 v4 v5 (w64 (v6 + 1)) v8 v9
theorem zq33.o10.run (N : Nat) (Kb4194303 : St D0 → Option zq33.R) (Kn4294966650 : St D0 → Option zq33.R) (v0 : ByteArray) (v1 : Int) (v2 : List Int) (v3 : List Int) (v4 : ByteArray) (v5 : Int) (v6 : Int) (v7 : Bool) (v8 : Int) (v9 : List S41) : runC zq33.C (zq33.O N) N zq33.c2199022925007 2199022925007 (mkSt [(1, .one (.str v0)), (2, .one (.ptr 2 0)), (9, .one (.int .i64 v1)), (25, .one (.sl true 3 v2)), (29, .one (.sl true 3 v3)), (37, .one (.str v4)), (458, .one (.int .i64 v5)), (459, .one (.int .i64 v6)), (499, .one (.bool v7))] [(2, some (24, [.int .i64 v8, .sl false 41 v9]))] : St D0) (blockK 7 ((fun up => (onN (fun s => zq33.C.tidy 68719466406 s (fun s' => runC zq33.C (zq33.O N) N zq33.c68719466407 68719466407 s' up)) up)) ((fun up => (onN (fun s => zq33.C.tidy 4294966650 s ((onN Kn4294966650 up) .normal)) (onN Kn4294966650 up))) (blockK 6 ((fun up => (onN (fun s => zq33.C.tidy 1073741662 s (fun s' => runC zq33.C (zq33.O N) N zq33.c1073741663 1073741663 s' up)) up)) (onN (fun s => zq33.C.tidy 8388606 s Kb4194303) zq33.K0)))))) = zq33.o10 N v0 v1 v2 v3 v4 v5 v6 v7 v8 v9 ((fun w0 w1 w2 w3 w4 w5 w6 w7 w8 => Kn4294966650 (mkSt [(1, .one (.str w0)), (2, .one (.ptr 2 0)), (9, .one (.int .i64 w1)), (25, .one (.sl true 3 w2)), (29, .one (.sl true 3 w3)), (37, .one (.str w4)), (458, .one (.int .i64 w5)), (459, .one (.int .i64 w6))] [(2, some (24, [.int .i64 w7, .sl false 41 w8]))] : St D0))) := by kernel_rfl
noncomputable def zq33.d10 (N : Nat) (v0 : ByteArray) (v1 : Int) (v2 : List Int) (v3 : List Int) (v4 : ByteArray) (v5 : Int) (v6 : Int) (v7 : Bool) (v8 : Int) (v9 : List S41) (c9 : ByteArray → Int → (List Int) → (List Int) → ByteArray → Int → Int → Int → (List S41) → Option zq33.R) : Option zq33.R := zq33.o10 N v0 v1 v2 v3 v4 v5 v6 v7 v8 v9 c9
theorem zq33.d10.run (N : Nat) (Kn4294966650 : St D0 → Option zq33.R) (v0 : ByteArray) (v1 : Int) (v2 : List Int) (v3 : List Int) (v4 : ByteArray) (v5 : Int) (v6 : Int) (v7 : Bool) (v8 : Int) (v9 : List S41) : runC zq33.C (zq33.O N) N zq33.c2199022925007 2199022925007 (mkSt [(1, .one (.str v0)), (2, .one (.ptr 2 0)), (9, .one (.int .i64 v1)), (25, .one (.sl true 3 v2)), (29, .one (.sl true 3 v3)), (37, .one (.str v4)), (458, .one (.int .i64 v5)), (459, .one (.int .i64 v6)), (499, .one (.bool v7))] [(2, some (24, [.int .i64 v8, .sl false 41 v9]))] : St D0) (zq33.K2199022925007 N Kn4294966650) = zq33.d10 N v0 v1 v2 v3 v4 v5 v6 v7 v8 v9 ((fun w0 w1 w2 w3 w4 w5 w6 w7 w8 => Kn4294966650 (mkSt [(1, .one (.str w0)), (2, .one (.ptr 2 0)), (9, .one (.int .i64 w1)), (25, .one (.sl true 3 w2)), (29, .one (.sl true 3 w3)), (37, .one (.str w4)), (458, .one (.int .i64 w5)), (459, .one (.int .i64 w6))] [(2, some (24, [.int .i64 w7, .sl false 41 w8]))] : St D0))) := by
  exact (zq33.o10.run N (zq33.B4194303 N) Kn4294966650 v0 v1 v2 v3 v4 v5 v6 v7 v8 v9).trans rfl
noncomputable def zq33.K134217725 (N : Nat) : Ex → St D0 → Option zq33.R := (onN (fun s => zq33.C.tidy 67108862 s (fun s' => runC zq33.C (zq33.O N) N zq33.c67108863 67108863 s' zq33.K0)) zq33.K0)
noncomputable def zq33.o5 (N : Nat) (v0 : ByteArray) (v1 : Bool) (v2 : Bool) (v3 : Int) (v4 : List S41) : Option zq33.R :=
 bif v2 then
  some (false)
 else
 bif v1 then
  (zq15.g N v3 v4).bind fun r1 =>
  bif r1.2 then
   some ((r1.1.toList == v0.toList))
  else
  some (false)
 else
 some (true)
theorem zq33.o5.run (N : Nat) (v0 : ByteArray) (v1 : Bool) (v2 : Bool) (v3 : Int) (v4 : List S41) : runC zq33.C (zq33.O N) N zq33.c134217725 134217725 (mkSt [(1, .one (.str v0)), (61, .one (.ptr 61 0)), (62, .one (.bool v1)), (532, .one (.bool v2))] [(61, some (24, [.int .i64 v3, .sl true 41 v4]))] : St D0) (onN (fun s => zq33.C.tidy 67108862 s (fun s' => runC zq33.C (zq33.O N) N zq33.c67108863 67108863 s' zq33.K0)) zq33.K0) = zq33.o5 N v0 v1 v2 v3 v4 := by kernel_rfl
noncomputable def zq33.d5 (N : Nat) (v0 : ByteArray) (v1 : Bool) (v2 : Bool) (v3 : Int) (v4 : List S41) : Option zq33.R := zq33.o5 N v0 v1 v2 v3 v4
theorem zq33.d5.run (N : Nat) (v0 : ByteArray) (v1 : Bool) (v2 : Bool) (v3 : Int) (v4 : List S41) : runC zq33.C (zq33.O N) N zq33.c134217725 134217725 (mkSt [(1, .one (.str v0)), (61, .one (.ptr 61 0)), (62, .one (.bool v1)), (532, .one (.bool v2))] [(61, some (24, [.int .i64 v3, .sl true 41 v4]))] : St D0) (zq33.K134217725 N) = zq33.d5 N v0 v1 v2 v3 v4 := by
  exact (zq33.o5.run N v0 v1 v2 v3 v4).trans rfl
noncomputable def zq33.o3 (N : Nat) (v0 : ByteArray) (c5 : ByteArray → Bool → Bool → Int → (List S41) → Option zq33.R) : Option zq33.R :=
 (zq14.g N v0).bind fun r1 =>
 (zq50.g N v0).bind fun r2 =>
 bif (!(r1.2.2 == r2.2.2)) then
  c5 v0 r1.2.2 true r1.1 r1.2.1
 else
 (zq35.g N r1.1 r1.2.1 r2.1 r2.2.1).bind fun r3 =>
 c5 v0 r1.2.2 (!r3) r1.1 r1.2.1
theorem zq33.o3.run (N : Nat) (H134217725 : Code) (v0 : ByteArray) : runC zq33.C (zq33.O N) N (.seq zq33.c16777214 (.seq zq33.c33554430 (.seq (.seq zq33.c134217724 H134217725) zq33.c67108863))) 8388607 (mkSt [(1, .one (.str v0))] [] : St D0) zq33.K0 = zq33.o3 N v0 ((fun w0 w1 w2 w3 w4 => runC zq33.C (zq33.O N) N H134217725 134217725 (mkSt [(1, .one (.str w0)), (61, .one (.ptr 61 0)), (62, .one (.bool w1)), (532, .one (.bool w2))] [(61, some (24, [.int .i64 w3, .sl true 41 w4]))] : St D0) (onN (fun s => zq33.C.tidy 67108862 s (fun s' => runC zq33.C (zq33.O N) N zq33.c67108863 67108863 s' zq33.K0)) zq33.K0))) := by kernel_rfl
noncomputable def zq33.B67108862 (N : Nat) : St D0 → Option zq33.R := fun s' => runC zq33.C (zq33.O N) N zq33.c134217725 134217725 s' (zq33.K134217725 N)
noncomputable def zq33.d3 (N : Nat) (v0 : ByteArray) : Option zq33.R := zq33.o3 N v0 ((fun w0 w1 w2 w3 w4 => zq33.d5 N w0 w1 w2 w3 w4))
theorem zq33.c8388607_3 : zq33.c8388607 = (.seq zq33.c16777214 (.seq zq33.c33554430 (.seq (.seq zq33.c134217724 zq33.c134217725) zq33.c67108863))) := by kernel_rfl
theorem zq33.d3.run (N : Nat) (v0 : ByteArray) : runC zq33.C (zq33.O N) N zq33.c8388607 8388607 (mkSt [(1, .one (.str v0))] [] : St D0) (zq33.K8388607 N) = zq33.d3 N v0 := by
  rw [zq33.c8388607_3]; unfold zq33.d3; exact (zq33.o3.run N zq33.c134217725 v0).trans (congr rfl (funext fun w0 => funext fun w1 => funext fun w2 => funext fun w3 => funext fun w4 => zq33.d5.run N w0 w1 w2 w3 w4))
noncomputable def zq33.K4294966655 (N : Nat) : Ex → St D0 → Option zq33.R := (onN (fun s => zq33.C.tidy 8388606 s (zq33.B4194303 N)) zq33.K0)
noncomputable def zq33.o11 (N : Nat) (v0 : ByteArray) (v1 : Bool) (c3 : ByteArray → Option zq33.R) : Option zq33.R :=
 bif v1 then
  some (false)
 else
 c3 v0
theorem zq33.o11.run (N : Nat) (Kb4194303 : St D0 → Option zq33.R) (v0 : ByteArray) (v1 : Bool) : runC zq33.C (zq33.O N) N zq33.c4294966655 4294966655 (mkSt [(1, .one (.str v0)), (513, .one (.bool v1))] [] : St D0) (onN (fun s => zq33.C.tidy 8388606 s Kb4194303) zq33.K0) = zq33.o11 N v0 v1 ((fun w0 => Kb4194303 (mkSt [(1, .one (.str w0))] [] : St D0))) := by kernel_rfl
noncomputable def zq33.d11 (N : Nat) (v0 : ByteArray) (v1 : Bool) : Option zq33.R := zq33.o11 N v0 v1 ((fun w0 => zq33.d3 N w0))
theorem zq33.d11.run (N : Nat) (v0 : ByteArray) (v1 : Bool) : runC zq33.C (zq33.O N) N zq33.c4294966655 4294966655 (mkSt [(1, .one (.str v0)), (513, .one (.bool v1))] [] : St D0) (zq33.K4294966655 N) = zq33.d11 N v0 v1 := by
  unfold zq33.d11; exact (zq33.o11.run N (zq33.B4194303 N) v0 v1).trans (congr rfl (funext fun w0 => zq33.d3.run N w0))
noncomputable def zq33.K8589933300 (N : Nat) (Kn4294966650 : St D0 → Option zq33.R) : Ex → St D0 → Option zq33.R := ((fun up => (onN (fun s => zq33.C.tidy 4294966650 s ((onN Kn4294966650 up) .normal)) (onN Kn4294966650 up))) (blockK 6 ((fun up => (onN (fun s => zq33.C.tidy 1073741662 s (fun s' => runC zq33.C (zq33.O N) N zq33.c1073741663 1073741663 s' up)) up)) (onN (fun s => zq33.C.tidy 8388606 s (zq33.B4194303 N)) zq33.K0))))
noncomputable def zq33.o9 (N : Nat) (v0 : ByteArray) (v1 : Int) (v2 : List Int) (v3 : List Int) (v4 : ByteArray) (v5 : Int) (v6 : Int) (v7 : Int) (v8 : List S41) (c10 : ByteArray → Int → (List Int) → (List Int) → ByteArray → Int → Int → Bool → Int → (List S41) → Option zq33.R) (c11 : ByteArray → Bool → Option zq33.R) : Option zq33.R :=
 bif (decide (v6 < v5)) then
  (zq3.g N v7 v8 v6).bind fun r1 =>
  (zq1.g N r1.1 r1.2.1).bind fun r2 =>
  bif (!r1.2.2) then
   c10 v0 v1 v2 v3 v4 v5 v6 true v7 v8
  else
  bif (!r2.2) then
   c10 v0 v1 v2 v3 v4 v5 v6 true v7 v8
  else
  (zq34.g N v2 v6).bind fun r3 =>
  bif (!(r3 == (r2.1 == v1))) then
   c10 v0 v1 v2 v3 v4 v5 v6 true v7 v8
  else
  bif (decide (0 ≤ (w64 (v6 + 1)))) then
   bif (decide ((w64 (v6 + 1)) < (v3.length : Int))) then
    (v3[((w64 (v6 + 1)) : Int).toNat]?).bind fun x4 =>
    bif (decide (0 ≤ v6)) then
     bif (decide (v6 < (v3.length : Int))) then
      (v3[(v6 : Int).toNat]?).bind fun x5 =>
      c10 v0 v1 v2 v3 v4 v5 v6 (decide (x4 > x5)) v7 v8
     else
     none
    else
    none
   else
   none
  else
  none
 else
 (zq14.g N v4).bind fun r6 =>
 bif (!r6.2.2) then
  c11 v0 true
 else
 (zq35.g N r6.1 r6.2.1 v7 v8).bind fun r7 =>
 c11 v0 (!r7)
theorem zq33.o9.run (N : Nat) (Kb4194303 : St D0 → Option zq33.R) (Kn4294966650 : St D0 → Option zq33.R) (H4294966655 : Code) (H2199022925007 : Code) (v0 : ByteArray) (v1 : Int) (v2 : List Int) (v3 : List Int) (v4 : ByteArray) (v5 : Int) (v6 : Int) (v7 : Int) (v8 : List S41) : runC zq33.C (zq33.O N) N (.seq zq33.c17179866600 (.seq zq33.c34359733202 (.seq (.block 7 (.seq zq33.c274877865624 (.seq zq33.c549755731250 (.seq zq33.c1099511462502 (.seq zq33.c2199022925006 H2199022925007))))) zq33.c68719466407))) 8589933300 (mkSt [(1, .one (.str v0)), (2, .one (.ptr 2 0)), (9, .one (.int .i64 v1)), (25, .one (.sl true 3 v2)), (29, .one (.sl true 3 v3)), (37, .one (.str v4)), (458, .one (.int .i64 v5)), (459, .one (.int .i64 v6))] [(2, some (24, [.int .i64 v7, .sl false 41 v8]))] : St D0) ((fun up => (onN (fun s => zq33.C.tidy 4294966650 s ((onN Kn4294966650 up) .normal)) (onN Kn4294966650 up))) (blockK 6 ((fun up => (onN (fun s => zq33.C.tidy 1073741662 s (fun s' => runC zq33.C (zq33.O N) N (.seq zq33.c2147483326 (.seq zq33.c4294966654 H4294966655)) 1073741663 s' up)) up)) (onN (fun s => zq33.C.tidy 8388606 s Kb4194303) zq33.K0)))) = zq33.o9 N v0 v1 v2 v3 v4 v5 v6 v7 v8 ((fun w0 w1 w2 w3 w4 w5 w6 w7 w8 w9 => runC zq33.C (zq33.O N) N H2199022925007 2199022925007 (mkSt [(1, .one (.str w0)), (2, .one (.ptr 2 0)), (9, .one (.int .i64 w1)), (25, .one (.sl true 3 w2)), (29, .one (.sl true 3 w3)), (37, .one (.str w4)), (458, .one (.int .i64 w5)), (459, .one (.int .i64 w6)), (499, .one (.bool w7))] [(2, some (24, [.int .i64 w8, .sl false 41 w9]))] : St D0) (blockK 7 ((fun up => (onN (fun s => zq33.C.tidy 68719466406 s (fun s' => runC zq33.C (zq33.O N) N zq33.c68719466407 68719466407 s' up)) up)) ((fun up => (onN (fun s => zq33.C.tidy 4294966650 s ((onN Kn4294966650 up) .normal)) (onN Kn4294966650 up))) (blockK 6 ((fun up => (onN (fun s => zq33.C.tidy 1073741662 s (fun s' => runC zq33.C (zq33.O N) N (.seq zq33.c2147483326 (.seq zq33.c4294966654 H4294966655)) 1073741663 s' up)) up)) (onN (fun s => zq33.C.tidy 8388606 s Kb4194303) zq33.K0)))))))) ((fun w0 w1 => runC zq33.C (zq33.O N) N H4294966655 4294966655 (mkSt [(1, .one (.str w0)), (513, .one (.bool w1))] [] : St D0) (onN (fun s => zq33.C.tidy 8388606 s Kb4194303) zq33.K0))) := by kernel_rfl
noncomputable def zq33.B2147483327 (N : Nat) : St D0 → Option zq33.R := fun s' => runC zq33.C (zq33.O N) N zq33.c4294966655 4294966655 s' (zq33.K4294966655 N)
noncomputable def zq33.B1099511462503 (N : Nat) (Kn4294966650 : St D0 → Option zq33.R) : St D0 → Option zq33.R := fun s' => runC zq33.C (zq33.O N) N zq33.c2199022925007 2199022925007 s' (zq33.K2199022925007 N Kn4294966650)
noncomputable def zq33.d9 (N : Nat) (v0 : ByteArray) (v1 : Int) (v2 : List Int) (v3 : List Int) (v4 : ByteArray) (v5 : Int) (v6 : Int) (v7 : Int) (v8 : List S41) (c9 : ByteArray → Int → (List Int) → (List Int) → ByteArray → Int → Int → Int → (List S41) → Option zq33.R) : Option zq33.R := zq33.o9 N v0 v1 v2 v3 v4 v5 v6 v7 v8 ((fun w0 w1 w2 w3 w4 w5 w6 w7 w8 w9 => zq33.d10 N w0 w1 w2 w3 w4 w5 w6 w7 w8 w9 c9)) ((fun w0 w1 => zq33.d11 N w0 w1))
theorem zq33.c8589933300_9 : zq33.c8589933300 = (.seq zq33.c17179866600 (.seq zq33.c34359733202 (.seq (.block 7 (.seq zq33.c274877865624 (.seq zq33.c549755731250 (.seq zq33.c1099511462502 (.seq zq33.c2199022925006 zq33.c2199022925007))))) zq33.c68719466407))) := by kernel_rfl
theorem zq33.d9.run (N : Nat) (Kn4294966650 : St D0 → Option zq33.R) (v0 : ByteArray) (v1 : Int) (v2 : List Int) (v3 : List Int) (v4 : ByteArray) (v5 : Int) (v6 : Int) (v7 : Int) (v8 : List S41) : runC zq33.C (zq33.O N) N zq33.c8589933300 8589933300 (mkSt [(1, .one (.str v0)), (2, .one (.ptr 2 0)), (9, .one (.int .i64 v1)), (25, .one (.sl true 3 v2)), (29, .one (.sl true 3 v3)), (37, .one (.str v4)), (458, .one (.int .i64 v5)), (459, .one (.int .i64 v6))] [(2, some (24, [.int .i64 v7, .sl false 41 v8]))] : St D0) (zq33.K8589933300 N Kn4294966650) = zq33.d9 N v0 v1 v2 v3 v4 v5 v6 v7 v8 ((fun w0 w1 w2 w3 w4 w5 w6 w7 w8 => Kn4294966650 (mkSt [(1, .one (.str w0)), (2, .one (.ptr 2 0)), (9, .one (.int .i64 w1)), (25, .one (.sl true 3 w2)), (29, .one (.sl true 3 w3)), (37, .one (.str w4)), (458, .one (.int .i64 w5)), (459, .one (.int .i64 w6))] [(2, some (24, [.int .i64 w7, .sl false 41 w8]))] : St D0))) := by
  rw [zq33.c8589933300_9]; unfold zq33.d9; exact (zq33.o9.run N (zq33.B4194303 N) Kn4294966650 zq33.c4294966655 zq33.c2199022925007 v0 v1 v2 v3 v4 v5 v6 v7 v8).trans (congr (congr rfl (funext fun w0 => funext fun w1 => funext fun w2 => funext fun w3 => funext fun w4 => funext fun w5 => funext fun w6 => funext fun w7 => funext fun w8 => funext fun w9 => zq33.d10.run N Kn4294966650 w0 w1 w2 w3 w4 w5 w6 w7 w8 w9)) (funext fun w0 => funext fun w1 => zq33.d11.run N w0 w1))
noncomputable def zq33.K4294966650 (N : Nat) : Ex → St D0 → Option zq33.R := (blockK 6 ((fun up => (onN (fun s => zq33.C.tidy 1073741662 s (fun s' => runC zq33.C (zq33.O N) N zq33.c1073741663 1073741663 s' up)) up)) (onN (fun s => zq33.C.tidy 8388606 s (zq33.B4194303 N)) zq33.K0)))
noncomputable def zq33.l9 (N : Nat) : Nat → ByteArray → Int → (List Int) → (List Int) → ByteArray → Int → Int → Int → (List S41) → Option zq33.R
  | 0, _, _, _, _, _, _, _, _, _ => none
  | n + 1, v0, v1, v2, v3, v4, v5, v6, v7, v8 => zq33.d9 N v0 v1 v2 v3 v4 v5 v6 v7 v8 ((fun w0 w1 w2 w3 w4 w5 w6 w7 w8 => zq33.l9 N n w0 w1 w2 w3 w4 w5 w6 w7 w8))
theorem zq33.loop4294966650 (N : Nat) : ∀ n, (∀ (v0 : ByteArray) (v1 : Int) (v2 : List Int) (v3 : List Int) (v4 : ByteArray) (v5 : Int) (v6 : Int) (v7 : Int) (v8 : List S41), iter (loopF zq33.C (zq33.O N) N zq33.c8589933300 4294966650) n (mkSt [(1, .one (.str v0)), (2, .one (.ptr 2 0)), (9, .one (.int .i64 v1)), (25, .one (.sl true 3 v2)), (29, .one (.sl true 3 v3)), (37, .one (.str v4)), (458, .one (.int .i64 v5)), (459, .one (.int .i64 v6))] [(2, some (24, [.int .i64 v7, .sl false 41 v8]))] : St D0) (zq33.K4294966650 N) = zq33.l9 N n v0 v1 v2 v3 v4 v5 v6 v7 v8)
  | 0 => (fun v0 v1 v2 v3 v4 v5 v6 v7 v8 => rfl)
  | n + 1 => (fun v0 v1 v2 v3 v4 v5 v6 v7 v8 => (zq33.d9.run N (fun s => iter (loopF zq33.C (zq33.O N) N zq33.c8589933300 4294966650) n s (zq33.K4294966650 N)) v0 v1 v2 v3 v4 v5 v6 v7 v8).trans (show _ = zq33.d9 N v0 v1 v2 v3 v4 v5 v6 v7 v8 ((fun w0 w1 w2 w3 w4 w5 w6 w7 w8 => zq33.l9 N n w0 w1 w2 w3 w4 w5 w6 w7 w8)) from (congr rfl (funext fun w0 => funext fun w1 => funext fun w2 => funext fun w3 => funext fun w4 => funext fun w5 => funext fun w6 => funext fun w7 => funext fun w8 => (zq33.loop4294966650 N n) w0 w1 w2 w3 w4 w5 w6 w7 w8))))
noncomputable def zq33.K4294966644 (N : Nat) (Kn2147483322 : St D0 → Option zq33.R) : Ex → St D0 → Option zq33.R := ((fun up => (onN (fun s => zq33.C.tidy 2147483322 s ((onN Kn2147483322 up) .normal)) (onN Kn2147483322 up))) (blockK 4 ((fun up => (onN (fun s => zq33.C.tidy 536870830 s (fun s' => runC zq33.C (zq33.O N) N zq33.c536870831 536870831 s' up)) up)) (onN (fun s => zq33.C.tidy 8388606 s (zq33.B4194303 N)) zq33.K0))))
noncomputable def zq33.o7 (N : Nat) (v0 : ByteArray) (v1 : List Int) (v2 : Int) (v3 : List S46) (v4 : List Int) (v5 : List Int) (v6 : ByteArray) (v7 : Int) (v8 : List Int) (v9 : Int) (v10 : Int) (v11 : Int) (v12 : List S41) (c8 : ByteArray → (List Int) → Int → (List S46) → (List Int) → (List Int) → ByteArray → Int → (List Int) → Int → Int → Bool → Int → (List S41) → Option zq33.R) (c9 : ByteArray → Int → (List Int) → (List Int) → ByteArray → Int → Int → Int → (List S41) → Option zq33.R) : Option zq33.R :=
 bif (decide (v10 < v9)) then
  bif (decide (0 ≤ v10)) then
   bif (decide (v10 < (v8.length : Int))) then
    (v8[(v10 : Int).toNat]?).bind fun x1 =>
    bif (decide (0 ≤ v10)) then
     bif (decide (v10 < (v3.length : Int))) then
      (v3[(v10 : Int).toNat]?).bind fun x2 =>
      (zq5.g N v7 x2.f0 x2.f1).bind fun r3 =>
      bif (decide (0 ≤ v10)) then
       bif (decide (v10 < (v3.length : Int))) then
        (v3[(v10 : Int).toNat]?).bind fun x4 =>
        (zq12.g N v7 x4.f0 x4.f1).bind fun r5 =>
        bif (!r3.2) then
         c8 v0 v1 v2 v3 v4 v5 v6 v7 v8 v9 v10 true v11 v12
        else
        bif (!r5.2) then
         c8 v0 v1 v2 v3 v4 v5 v6 v7 v8 v9 v10 true v11 v12
        else
        bif ((w64 ((w64 (60 * r3.1)) + r5.1)) != x1) then
         c8 v0 v1 v2 v3 v4 v5 v6 v7 v8 v9 v10 true v11 v12
        else
        bif (decide (v10 > 0)) then
         bif (decide (0 ≤ (w64 (v10 - 1)))) then
          bif (decide ((w64 (v10 - 1)) < (v1.length : Int))) then
           (v1[((w64 (v10 - 1)) : Int).toNat]?).bind fun x6 =>
           c8 v0 v1 v2 v3 v4 v5 v6 v7 v8 v9 v10 (decide (x6 ≥ x1)) v11 v12
          else
          none
         else
         none
        else
        c8 v0 v1 v2 v3 v4 v5 v6 v7 v8 v9 v10 false v11 v12
       else
       none
      else
      none
     else
     none
    else
    none
   else
   none
  else
  none
 else
 c9 v0 v2 v4 v5 v6 (v12.length : Int) 0 v11 v12
theorem zq33.o7.run (N : Nat) (Kb4194303 : St D0 → Option zq33.R) (Kn2147483322 : St D0 → Option zq33.R) (H8589933300 : Code) (H1099511461071 : Code) (v0 : ByteArray) (v1 : List Int) (v2 : Int) (v3 : List S46) (v4 : List Int) (v5 : List Int) (v6 : ByteArray) (v7 : Int) (v8 : List Int) (v9 : Int) (v10 : Int) (v11 : Int) (v12 : List S41) : runC zq33.C (zq33.O N) N (.seq zq33.c8589933288 (.seq zq33.c17179866578 (.seq (.block 5 (.seq zq33.c137438932632 (.seq zq33.c274877865266 (.seq zq33.c549755730534 (.seq zq33.c1099511461070 H1099511461071))))) zq33.c34359733159))) 4294966644 (mkSt [(1, .one (.str v0)), (2, .one (.ptr 2 0)), (5, .one (.sl false 3 v1)), (9, .one (.int .i64 v2)), (17, .one (.sl true 46 v3)), (25, .one (.sl true 3 v4)), (29, .one (.sl true 3 v5)), (37, .one (.str v6)), (41, .one (.int .i64 v7)), (403, .one (.sl true 3 v8)), (404, .one (.int .i64 v9)), (405, .one (.int .i64 v10))] [(2, some (24, [.int .i64 v11, .sl false 41 v12]))] : St D0) ((fun up => (onN (fun s => zq33.C.tidy 2147483322 s ((onN Kn2147483322 up) .normal)) (onN Kn2147483322 up))) (blockK 4 ((fun up => (onN (fun s => zq33.C.tidy 536870830 s (fun s' => runC zq33.C (zq33.O N) N (.seq (.seq zq33.c2147483324 (.block 6 (.loop H8589933300))) zq33.c1073741663) 536870831 s' up)) up)) (onN (fun s => zq33.C.tidy 8388606 s Kb4194303) zq33.K0)))) = zq33.o7 N v0 v1 v2 v3 v4 v5 v6 v7 v8 v9 v10 v11 v12 ((fun w0 w1 w2 w3 w4 w5 w6 w7 w8 w9 w10 w11 w12 w13 => runC zq33.C (zq33.O N) N H1099511461071 1099511461071 (mkSt [(1, .one (.str w0)), (2, .one (.ptr 2 0)), (5, .one (.sl false 3 w1)), (9, .one (.int .i64 w2)), (17, .one (.sl true 46 w3)), (25, .one (.sl true 3 w4)), (29, .one (.sl true 3 w5)), (37, .one (.str w6)), (41, .one (.int .i64 w7)), (403, .one (.sl true 3 w8)), (404, .one (.int .i64 w9)), (405, .one (.int .i64 w10)), (454, .one (.bool w11))] [(2, some (24, [.int .i64 w12, .sl false 41 w13]))] : St D0) (blockK 5 ((fun up => (onN (fun s => zq33.C.tidy 34359733158 s (fun s' => runC zq33.C (zq33.O N) N zq33.c34359733159 34359733159 s' up)) up)) ((fun up => (onN (fun s => zq33.C.tidy 2147483322 s ((onN Kn2147483322 up) .normal)) (onN Kn2147483322 up))) (blockK 4 ((fun up => (onN (fun s => zq33.C.tidy 536870830 s (fun s' => runC zq33.C (zq33.O N) N (.seq (.seq zq33.c2147483324 (.block 6 (.loop H8589933300))) zq33.c1073741663) 536870831 s' up)) up)) (onN (fun s => zq33.C.tidy 8388606 s Kb4194303) zq33.K0)))))))) ((fun w0 w1 w2 w3 w4 w5 w6 w7 w8 => iter (loopF zq33.C (zq33.O N) N H8589933300 4294966650) N (mkSt [(1, .one (.str w0)), (2, .one (.ptr 2 0)), (9, .one (.int .i64 w1)), (25, .one (.sl true 3 w2)), (29, .one (.sl true 3 w3)), (37, .one (.str w4)), (458, .one (.int .i64 w5)), (459, .one (.int .i64 w6))] [(2, some (24, [.int .i64 w7, .sl false 41 w8]))] : St D0) (blockK 6 ((fun up => (onN (fun s => zq33.C.tidy 1073741662 s (fun s' => runC zq33.C (zq33.O N) N zq33.c1073741663 1073741663 s' up)) up)) (onN (fun s => zq33.C.tidy 8388606 s Kb4194303) zq33.K0))))) := by kernel_rfl
noncomputable def zq33.B549755730535 (N : Nat) (Kn2147483322 : St D0 → Option zq33.R) : St D0 → Option zq33.R := fun s' => runC zq33.C (zq33.O N) N zq33.c1099511461071 1099511461071 s' (zq33.K1099511461071 N Kn2147483322)
noncomputable def zq33.d7 (N : Nat) (v0 : ByteArray) (v1 : List Int) (v2 : Int) (v3 : List S46) (v4 : List Int) (v5 : List Int) (v6 : ByteArray) (v7 : Int) (v8 : List Int) (v9 : Int) (v10 : Int) (v11 : Int) (v12 : List S41) (c7 : ByteArray → (List Int) → Int → (List S46) → (List Int) → (List Int) → ByteArray → Int → (List Int) → Int → Int → Int → (List S41) → Option zq33.R) : Option zq33.R := zq33.o7 N v0 v1 v2 v3 v4 v5 v6 v7 v8 v9 v10 v11 v12 ((fun w0 w1 w2 w3 w4 w5 w6 w7 w8 w9 w10 w11 w12 w13 => zq33.d8 N w0 w1 w2 w3 w4 w5 w6 w7 w8 w9 w10 w11 w12 w13 c7)) ((fun w0 w1 w2 w3 w4 w5 w6 w7 w8 => zq33.l9 N N w0 w1 w2 w3 w4 w5 w6 w7 w8))
theorem zq33.c4294966644_7 : zq33.c4294966644 = (.seq zq33.c8589933288 (.seq zq33.c17179866578 (.seq (.block 5 (.seq zq33.c137438932632 (.seq zq33.c274877865266 (.seq zq33.c549755730534 (.seq zq33.c1099511461070 zq33.c1099511461071))))) zq33.c34359733159))) := by kernel_rfl
theorem zq33.d7.run (N : Nat) (Kn2147483322 : St D0 → Option zq33.R) (v0 : ByteArray) (v1 : List Int) (v2 : Int) (v3 : List S46) (v4 : List Int) (v5 : List Int) (v6 : ByteArray) (v7 : Int) (v8 : List Int) (v9 : Int) (v10 : Int) (v11 : Int) (v12 : List S41) : runC zq33.C (zq33.O N) N zq33.c4294966644 4294966644 (mkSt [(1, .one (.str v0)), (2, .one (.ptr 2 0)), (5, .one (.sl false 3 v1)), (9, .one (.int .i64 v2)), (17, .one (.sl true 46 v3)), (25, .one (.sl true 3 v4)), (29, .one (.sl true 3 v5)), (37, .one (.str v6)), (41, .one (.int .i64 v7)), (403, .one (.sl true 3 v8)), (404, .one (.int .i64 v9)), (405, .one (.int .i64 v10))] [(2, some (24, [.int .i64 v11, .sl false 41 v12]))] : St D0) (zq33.K4294966644 N Kn2147483322) = zq33.d7 N v0 v1 v2 v3 v4 v5 v6 v7 v8 v9 v10 v11 v12 ((fun w0 w1 w2 w3 w4 w5 w6 w7 w8 w9 w10 w11 w12 => Kn2147483322 (mkSt [(1, .one (.str w0)), (2, .one (.ptr 2 0)), (5, .one (.sl false 3 w1)), (9, .one (.int .i64 w2)), (17, .one (.sl true 46 w3)), (25, .one (.sl true 3 w4)), (29, .one (.sl true 3 w5)), (37, .one (.str w6)), (41, .one (.int .i64 w7)), (403, .one (.sl true 3 w8)), (404, .one (.int .i64 w9)), (405, .one (.int .i64 w10))] [(2, some (24, [.int .i64 w11, .sl false 41 w12]))] : St D0))) := by
  rw [zq33.c4294966644_7]; unfold zq33.d7; exact (zq33.o7.run N (zq33.B4194303 N) Kn2147483322 zq33.c8589933300 zq33.c1099511461071 v0 v1 v2 v3 v4 v5 v6 v7 v8 v9 v10 v11 v12).trans (congr (congr rfl (funext fun w0 => funext fun w1 => funext fun w2 => funext fun w3 => funext fun w4 => funext fun w5 => funext fun w6 => funext fun w7 => funext fun w8 => funext fun w9 => funext fun w10 => funext fun w11 => funext fun w12 => funext fun w13 => zq33.d8.run N Kn2147483322 w0 w1 w2 w3 w4 w5 w6 w7 w8 w9 w10 w11 w12 w13)) (funext fun w0 => funext fun w1 => funext fun w2 => funext fun w3 => funext fun w4 => funext fun w5 => funext fun w6 => funext fun w7 => funext fun w8 => (zq33.loop4294966650 N N) w0 w1 w2 w3 w4 w5 w6 w7 w8))
noncomputable def zq33.K2147483322 (N : Nat) : Ex → St D0 → Option zq33.R := (blockK 4 ((fun up => (onN (fun s => zq33.C.tidy 536870830 s (fun s' => runC zq33.C (zq33.O N) N zq33.c536870831 536870831 s' up)) up)) (onN (fun s => zq33.C.tidy 8388606 s (zq33.B4194303 N)) zq33.K0)))
noncomputable def zq33.l7 (N : Nat) : Nat → ByteArray → (List Int) → Int → (List S46) → (List Int) → (List Int) → ByteArray → Int → (List Int) → Int → Int → Int → (List S41) → Option zq33.R
  | 0, _, _, _, _, _, _, _, _, _, _, _, _, _ => none
  | n + 1, v0, v1, v2, v3, v4, v5, v6, v7, v8, v9, v10, v11, v12 => zq33.d7 N v0 v1 v2 v3 v4 v5 v6 v7 v8 v9 v10 v11 v12 ((fun w0 w1 w2 w3 w4 w5 w6 w7 w8 w9 w10 w11 w12 => zq33.l7 N n w0 w1 w2 w3 w4 w5 w6 w7 w8 w9 w10 w11 w12))
theorem zq33.loop2147483322 (N : Nat) : ∀ n, (∀ (v0 : ByteArray) (v1 : List Int) (v2 : Int) (v3 : List S46) (v4 : List Int) (v5 : List Int) (v6 : ByteArray) (v7 : Int) (v8 : List Int) (v9 : Int) (v10 : Int) (v11 : Int) (v12 : List S41), iter (loopF zq33.C (zq33.O N) N zq33.c4294966644 2147483322) n (mkSt [(1, .one (.str v0)), (2, .one (.ptr 2 0)), (5, .one (.sl false 3 v1)), (9, .one (.int .i64 v2)), (17, .one (.sl true 46 v3)), (25, .one (.sl true 3 v4)), (29, .one (.sl true 3 v5)), (37, .one (.str v6)), (41, .one (.int .i64 v7)), (403, .one (.sl true 3 v8)), (404, .one (.int .i64 v9)), (405, .one (.int .i64 v10))] [(2, some (24, [.int .i64 v11, .sl false 41 v12]))] : St D0) (zq33.K2147483322 N) = zq33.l7 N n v0 v1 v2 v3 v4 v5 v6 v7 v8 v9 v10 v11 v12)
  | 0 => (fun v0 v1 v2 v3 v4 v5 v6 v7 v8 v9 v10 v11 v12 => rfl)
  | n + 1 => (fun v0 v1 v2 v3 v4 v5 v6 v7 v8 v9 v10 v11 v12 => (zq33.d7.run N (fun s => iter (loopF zq33.C (zq33.O N) N zq33.c4294966644 2147483322) n s (zq33.K2147483322 N)) v0 v1 v2 v3 v4 v5 v6 v7 v8 v9 v10 v11 v12).trans (show _ = zq33.d7 N v0 v1 v2 v3 v4 v5 v6 v7 v8 v9 v10 v11 v12 ((fun w0 w1 w2 w3 w4 w5 w6 w7 w8 w9 w10 w11 w12 => zq33.l7 N n w0 w1 w2 w3 w4 w5 w6 w7 w8 w9 w10 w11 w12)) from (congr rfl (funext fun w0 => funext fun w1 => funext fun w2 => funext fun w3 => funext fun w4 => funext fun w5 => funext fun w6 => funext fun w7 => funext fun w8 => funext fun w9 => funext fun w10 => funext fun w11 => funext fun w12 => (zq33.loop2147483322 N n) w0 w1 w2 w3 w4 w5 w6 w7 w8 w9 w10 w11 w12))))
noncomputable def zq33.K2147483316 (N : Nat) (Kn1073741658 : St D0 → Option zq33.R) : Ex → St D0 → Option zq33.R := ((fun up => (onN (fun s => zq33.C.tidy 1073741658 s ((onN Kn1073741658 up) .normal)) (onN Kn1073741658 up))) (blockK 0 ((fun up => (onN (fun s => zq33.C.tidy 268435414 s (fun s' => runC zq33.C (zq33.O N) N zq33.c268435415 268435415 s' up)) up)) (onN (fun s => zq33.C.tidy 8388606 s (zq33.B4194303 N)) zq33.K0))))
noncomputable def zq33.o4 (N : Nat) (v0 : ByteArray) (v1 : List Int) (v2 : Int) (v3 : List S46) (v4 : List Int) (v5 : List Int) (v6 : ByteArray) (v7 : Int) (v8 : Int) (v9 : Int) (v10 : List S41) (c6 : ByteArray → (List Int) → Int → (List S46) → (List Int) → (List Int) → ByteArray → Int → Int → Bool → (List S41) → Int → Int → Int → (List S41) → Option zq33.R) (c7 : ByteArray → (List Int) → Int → (List S46) → (List Int) → (List Int) → ByteArray → Int → (List Int) → Int → Int → Int → (List S41) → Option zq33.R) : Option zq33.R :=
 bif (decide (v8 < (w64 (60 * v7)))) then
  c6 v0 v1 v2 v3 v4 v5 v6 v7 v8 true v10 (v10.length : Int) 0 v9 v10
 else
 c7 v0 v1 v2 v3 v4 v5 v6 v7 v1 (v1.length : Int) 0 v9 v10
theorem zq33.o4.run (N : Nat) (Kb4194303 : St D0 → Option zq33.R) (Kn1073741658 : St D0 → Option zq33.R) (H4294966644 : Code) (H549755729044 : Code) (v0 : ByteArray) (v1 : List Int) (v2 : Int) (v3 : List S46) (v4 : List Int) (v5 : List Int) (v6 : ByteArray) (v7 : Int) (v8 : Int) (v9 : Int) (v10 : List S41) : runC zq33.C (zq33.O N) N (.seq zq33.c4294966632 (.seq (.block 1 (.seq zq33.c34359733064 (.seq (.seq zq33.c137438932260 (.block 2 (.loop H549755729044))) zq33.c68719466131))) zq33.c8589933267)) 2147483316 (mkSt [(1, .one (.str v0)), (2, .one (.ptr 2 0)), (5, .one (.sl true 3 v1)), (9, .one (.int .i64 v2)), (17, .one (.sl true 46 v3)), (25, .one (.sl true 3 v4)), (29, .one (.sl true 3 v5)), (37, .one (.str v6)), (41, .one (.int .i64 v7)), (42, .one (.int .i64 v8))] [(2, some (24, [.int .i64 v9, .sl false 41 v10]))] : St D0) ((fun up => (onN (fun s => zq33.C.tidy 1073741658 s ((onN Kn1073741658 up) .normal)) (onN Kn1073741658 up))) (blockK 0 ((fun up => (onN (fun s => zq33.C.tidy 268435414 s (fun s' => runC zq33.C (zq33.O N) N (.seq (.seq zq33.c1073741660 (.block 4 (.loop H4294966644))) zq33.c536870831) 268435415 s' up)) up)) (onN (fun s => zq33.C.tidy 8388606 s Kb4194303) zq33.K0)))) = zq33.o4 N v0 v1 v2 v3 v4 v5 v6 v7 v8 v9 v10 ((fun w0 w1 w2 w3 w4 w5 w6 w7 w8 w9 w10 w11 w12 w13 w14 => iter (loopF zq33.C (zq33.O N) N H549755729044 274877864522) N (mkSt [(1, .one (.str w0)), (2, .one (.ptr 2 0)), (5, .one (.sl true 3 w1)), (9, .one (.int .i64 w2)), (17, .one (.sl true 46 w3)), (25, .one (.sl true 3 w4)), (29, .one (.sl true 3 w5)), (37, .one (.str w6)), (41, .one (.int .i64 w7)), (42, .one (.int .i64 w8)), (43, .one (.bool w9)), (378, .one (.sl false 41 w10)), (379, .one (.int .i64 w11)), (380, .one (.int .i64 w12))] [(2, some (24, [.int .i64 w13, .sl false 41 w14]))] : St D0) (blockK 2 ((fun up => (onN (fun s => zq33.C.tidy 68719466130 s (fun s' => runC zq33.C (zq33.O N) N zq33.c68719466131 68719466131 s' up)) up)) (blockK 1 ((fun up => (onN (fun s => zq33.C.tidy 8589933266 s (fun s' => runC zq33.C (zq33.O N) N zq33.c8589933267 8589933267 s' up)) up)) ((fun up => (onN (fun s => zq33.C.tidy 1073741658 s ((onN Kn1073741658 up) .normal)) (onN Kn1073741658 up))) (blockK 0 ((fun up => (onN (fun s => zq33.C.tidy 268435414 s (fun s' => runC zq33.C (zq33.O N) N (.seq (.seq zq33.c1073741660 (.block 4 (.loop H4294966644))) zq33.c536870831) 268435415 s' up)) up)) (onN (fun s => zq33.C.tidy 8388606 s Kb4194303) zq33.K0)))))))))) ((fun w0 w1 w2 w3 w4 w5 w6 w7 w8 w9 w10 w11 w12 => iter (loopF zq33.C (zq33.O N) N H4294966644 2147483322) N (mkSt [(1, .one (.str w0)), (2, .one (.ptr 2 0)), (5, .one (.sl false 3 w1)), (9, .one (.int .i64 w2)), (17, .one (.sl true 46 w3)), (25, .one (.sl true 3 w4)), (29, .one (.sl true 3 w5)), (37, .one (.str w6)), (41, .one (.int .i64 w7)), (403, .one (.sl true 3 w8)), (404, .one (.int .i64 w9)), (405, .one (.int .i64 w10))] [(2, some (24, [.int .i64 w11, .sl false 41 w12]))] : St D0) (blockK 4 ((fun up => (onN (fun s => zq33.C.tidy 536870830 s (fun s' => runC zq33.C (zq33.O N) N zq33.c536870831 536870831 s' up)) up)) (onN (fun s => zq33.C.tidy 8388606 s Kb4194303) zq33.K0))))) := by kernel_rfl
noncomputable def zq33.d4 (N : Nat) (v0 : ByteArray) (v1 : List Int) (v2 : Int) (v3 : List S46) (v4 : List Int) (v5 : List Int) (v6 : ByteArray) (v7 : Int) (v8 : Int) (v9 : Int) (v10 : List S41) (c4 : ByteArray → (List Int) → Int → (List S46) → (List Int) → (List Int) → ByteArray → Int → Int → Int → (List S41) → Option zq33.R) : Option zq33.R := zq33.o4 N v0 v1 v2 v3 v4 v5 v6 v7 v8 v9 v10 ((fun w0 w1 w2 w3 w4 w5 w6 w7 w8 w9 w10 w11 w12 w13 w14 => zq33.l6 N N w0 w1 w2 w3 w4 w5 w6 w7 w8 w9 w10 w11 w12 w13 w14 c4)) ((fun w0 w1 w2 w3 w4 w5 w6 w7 w8 w9 w10 w11 w12 => zq33.l7 N N w0 w1 w2 w3 w4 w5 w6 w7 w8 w9 w10 w11 w12))
theorem zq33.c2147483316_4 : zq33.c2147483316 = (.seq zq33.c4294966632 (.seq (.block 1 (.seq zq33.c34359733064 (.seq (.seq zq33.c137438932260 (.block 2 (.loop zq33.c549755729044))) zq33.c68719466131))) zq33.c8589933267)) := by kernel_rfl
theorem zq33.d4.run (N : Nat) (Kn1073741658 : St D0 → Option zq33.R) (v0 : ByteArray) (v1 : List Int) (v2 : Int) (v3 : List S46) (v4 : List Int) (v5 : List Int) (v6 : ByteArray) (v7 : Int) (v8 : Int) (v9 : Int) (v10 : List S41) : runC zq33.C (zq33.O N) N zq33.c2147483316 2147483316 (mkSt [(1, .one (.str v0)), (2, .one (.ptr 2 0)), (5, .one (.sl true 3 v1)), (9, .one (.int .i64 v2)), (17, .one (.sl true 46 v3)), (25, .one (.sl true 3 v4)), (29, .one (.sl true 3 v5)), (37, .one (.str v6)), (41, .one (.int .i64 v7)), (42, .one (.int .i64 v8))] [(2, some (24, [.int .i64 v9, .sl false 41 v10]))] : St D0) (zq33.K2147483316 N Kn1073741658) = zq33.d4 N v0 v1 v2 v3 v4 v5 v6 v7 v8 v9 v10 ((fun w0 w1 w2 w3 w4 w5 w6 w7 w8 w9 w10 => Kn1073741658 (mkSt [(1, .one (.str w0)), (2, .one (.ptr 2 0)), (5, .one (.sl true 3 w1)), (9, .one (.int .i64 w2)), (17, .one (.sl true 46 w3)), (25, .one (.sl true 3 w4)), (29, .one (.sl true 3 w5)), (37, .one (.str w6)), (41, .one (.int .i64 w7)), (42, .one (.int .i64 w8))] [(2, some (24, [.int .i64 w9, .sl false 41 w10]))] : St D0))) := by
  rw [zq33.c2147483316_4]; unfold zq33.d4; exact (zq33.o4.run N (zq33.B4194303 N) Kn1073741658 zq33.c4294966644 zq33.c549755729044 v0 v1 v2 v3 v4 v5 v6 v7 v8 v9 v10).trans (congr (congr rfl (funext fun w0 => funext fun w1 => funext fun w2 => funext fun w3 => funext fun w4 => funext fun w5 => funext fun w6 => funext fun w7 => funext fun w8 => funext fun w9 => funext fun w10 => funext fun w11 => funext fun w12 => funext fun w13 => funext fun w14 => (zq33.loop274877864522 N Kn1073741658 N) w0 w1 w2 w3 w4 w5 w6 w7 w8 w9 w10 w11 w12 w13 w14)) (funext fun w0 => funext fun w1 => funext fun w2 => funext fun w3 => funext fun w4 => funext fun w5 => funext fun w6 => funext fun w7 => funext fun w8 => funext fun w9 => funext fun w10 => funext fun w11 => funext fun w12 => (zq33.loop2147483322 N N) w0 w1 w2 w3 w4 w5 w6 w7 w8 w9 w10 w11 w12))
noncomputable def zq33.K1073741658 (N : Nat) : Ex → St D0 → Option zq33.R := (blockK 0 ((fun up => (onN (fun s => zq33.C.tidy 268435414 s (fun s' => runC zq33.C (zq33.O N) N zq33.c268435415 268435415 s' up)) up)) (onN (fun s => zq33.C.tidy 8388606 s (zq33.B4194303 N)) zq33.K0)))
noncomputable def zq33.l4 (N : Nat) : Nat → ByteArray → (List Int) → Int → (List S46) → (List Int) → (List Int) → ByteArray → Int → Int → Int → (List S41) → Option zq33.R
  | 0, _, _, _, _, _, _, _, _, _, _, _ => none
  | n + 1, v0, v1, v2, v3, v4, v5, v6, v7, v8, v9, v10 => zq33.d4 N v0 v1 v2 v3 v4 v5 v6 v7 v8 v9 v10 ((fun w0 w1 w2 w3 w4 w5 w6 w7 w8 w9 w10 => zq33.l4 N n w0 w1 w2 w3 w4 w5 w6 w7 w8 w9 w10))
theorem zq33.loop1073741658 (N : Nat) : ∀ n, (∀ (v0 : ByteArray) (v1 : List Int) (v2 : Int) (v3 : List S46) (v4 : List Int) (v5 : List Int) (v6 : ByteArray) (v7 : Int) (v8 : Int) (v9 : Int) (v10 : List S41), iter (loopF zq33.C (zq33.O N) N zq33.c2147483316 1073741658) n (mkSt [(1, .one (.str v0)), (2, .one (.ptr 2 0)), (5, .one (.sl true 3 v1)), (9, .one (.int .i64 v2)), (17, .one (.sl true 46 v3)), (25, .one (.sl true 3 v4)), (29, .one (.sl true 3 v5)), (37, .one (.str v6)), (41, .one (.int .i64 v7)), (42, .one (.int .i64 v8))] [(2, some (24, [.int .i64 v9, .sl false 41 v10]))] : St D0) (zq33.K1073741658 N) = zq33.l4 N n v0 v1 v2 v3 v4 v5 v6 v7 v8 v9 v10)
  | 0 => (fun v0 v1 v2 v3 v4 v5 v6 v7 v8 v9 v10 => rfl)
  | n + 1 => (fun v0 v1 v2 v3 v4 v5 v6 v7 v8 v9 v10 => (zq33.d4.run N (fun s => iter (loopF zq33.C (zq33.O N) N zq33.c2147483316 1073741658) n s (zq33.K1073741658 N)) v0 v1 v2 v3 v4 v5 v6 v7 v8 v9 v10).trans (show _ = zq33.d4 N v0 v1 v2 v3 v4 v5 v6 v7 v8 v9 v10 ((fun w0 w1 w2 w3 w4 w5 w6 w7 w8 w9 w10 => zq33.l4 N n w0 w1 w2 w3 w4 w5 w6 w7 w8 w9 w10)) from (congr rfl (funext fun w0 => funext fun w1 => funext fun w2 => funext fun w3 => funext fun w4 => funext fun w5 => funext fun w6 => funext fun w7 => funext fun w8 => funext fun w9 => funext fun w10 => (zq33.loop1073741658 N n) w0 w1 w2 w3 w4 w5 w6 w7 w8 w9 w10))))
noncomputable def zq33.K268435413 (N : Nat) : Ex → St D0 → Option zq33.R := ((fun up => (onN (fun s => zq33.C.tidy 134217706 s (fun s' => runC zq33.C (zq33.O N) N zq33.c134217707 134217707 s' up)) up)) (onN (fun s => zq33.C.tidy 8388606 s (zq33.B4194303 N)) zq33.K0))
noncomputable def zq33.o2 (N : Nat) (v0 : ByteArray) (v1 : List Int) (v2 : Int) (v3 : List S46) (v4 : List Int) (v5 : List Int) (v6 : ByteArray) (v7 : Int) (v8 : Bool) (v9 : Int) (v10 : List S41) (c4 : ByteArray → (List Int) → Int → (List S46) → (List Int) → (List Int) → ByteArray → Int → Int → Int → (List S41) → Option zq33.R) : Option zq33.R :=
 bif v8 then
  some (false)
 else
 c4 v0 v1 v2 v3 v4 v5 v6 v7 0 v9 v10
theorem zq33.o2.run (N : Nat) (Kb4194303 : St D0 → Option zq33.R) (H2147483316 : Code) (v0 : ByteArray) (v1 : List Int) (v2 : Int) (v3 : List S46) (v4 : List Int) (v5 : List Int) (v6 : ByteArray) (v7 : Int) (v8 : Bool) (v9 : Int) (v10 : List S41) : runC zq33.C (zq33.O N) N zq33.c268435413 268435413 (mkSt [(1, .one (.str v0)), (2, .one (.ptr 2 0)), (5, .one (.sl true 3 v1)), (9, .one (.int .i64 v2)), (17, .one (.sl true 46 v3)), (25, .one (.sl true 3 v4)), (29, .one (.sl true 3 v5)), (37, .one (.str v6)), (41, .one (.int .i64 v7)), (370, .one (.bool v8))] [(2, some (24, [.int .i64 v9, .sl false 41 v10]))] : St D0) ((fun up => (onN (fun s => zq33.C.tidy 134217706 s (fun s' => runC zq33.C (zq33.O N) N (.seq (.seq zq33.c536870828 (.block 0 (.loop H2147483316))) zq33.c268435415) 134217707 s' up)) up)) (onN (fun s => zq33.C.tidy 8388606 s Kb4194303) zq33.K0)) = zq33.o2 N v0 v1 v2 v3 v4 v5 v6 v7 v8 v9 v10 ((fun w0 w1 w2 w3 w4 w5 w6 w7 w8 w9 w10 => iter (loopF zq33.C (zq33.O N) N H2147483316 1073741658) N (mkSt [(1, .one (.str w0)), (2, .one (.ptr 2 0)), (5, .one (.sl true 3 w1)), (9, .one (.int .i64 w2)), (17, .one (.sl true 46 w3)), (25, .one (.sl true 3 w4)), (29, .one (.sl true 3 w5)), (37, .one (.str w6)), (41, .one (.int .i64 w7)), (42, .one (.int .i64 w8))] [(2, some (24, [.int .i64 w9, .sl false 41 w10]))] : St D0) (blockK 0 ((fun up => (onN (fun s => zq33.C.tidy 268435414 s (fun s' => runC zq33.C (zq33.O N) N zq33.c268435415 268435415 s' up)) up)) (onN (fun s => zq33.C.tidy 8388606 s Kb4194303) zq33.K0))))) := by kernel_rfl
noncomputable def zq33.d2 (N : Nat) (v0 : ByteArray) (v1 : List Int) (v2 : Int) (v3 : List S46) (v4 : List Int) (v5 : List Int) (v6 : ByteArray) (v7 : Int) (v8 : Bool) (v9 : Int) (v10 : List S41) : Option zq33.R := zq33.o2 N v0 v1 v2 v3 v4 v5 v6 v7 v8 v9 v10 ((fun w0 w1 w2 w3 w4 w5 w6 w7 w8 w9 w10 => zq33.l4 N N w0 w1 w2 w3 w4 w5 w6 w7 w8 w9 w10))
theorem zq33.d2.run (N : Nat) (v0 : ByteArray) (v1 : List Int) (v2 : Int) (v3 : List S46) (v4 : List Int) (v5 : List Int) (v6 : ByteArray) (v7 : Int) (v8 : Bool) (v9 : Int) (v10 : List S41) : runC zq33.C (zq33.O N) N zq33.c268435413 268435413 (mkSt [(1, .one (.str v0)), (2, .one (.ptr 2 0)), (5, .one (.sl true 3 v1)), (9, .one (.int .i64 v2)), (17, .one (.sl true 46 v3)), (25, .one (.sl true 3 v4)), (29, .one (.sl true 3 v5)), (37, .one (.str v6)), (41, .one (.int .i64 v7)), (370, .one (.bool v8))] [(2, some (24, [.int .i64 v9, .sl false 41 v10]))] : St D0) (zq33.K268435413 N) = zq33.d2 N v0 v1 v2 v3 v4 v5 v6 v7 v8 v9 v10 := by
  unfold zq33.d2; exact (zq33.o2.run N (zq33.B4194303 N) zq33.c2147483316 v0 v1 v2 v3 v4 v5 v6 v7 v8 v9 v10).trans (congr rfl (funext fun w0 => funext fun w1 => funext fun w2 => funext fun w3 => funext fun w4 => funext fun w5 => funext fun w6 => funext fun w7 => funext fun w8 => funext fun w9 => funext fun w10 => (zq33.loop1073741658 N N) w0 w1 w2 w3 w4 w5 w6 w7 w8 w9 w10))
noncomputable def zq33.K8388605 (N : Nat) : Ex → St D0 → Option zq33.R := (onN (fun s => zq33.C.tidy 4194302 s (fun s' => runC zq33.C (zq33.O N) N zq33.c4194303 4194303 s' zq33.K0)) zq33.K0)
noncomputable def zq33.o1 (N : Nat) (v0 : ByteArray) (v1 : List Int) (v2 : Bool) (v3 : Int) (v4 : Int) (v5 : Bool) (v6 : List S46) (v7 : Bool) (v8 : List Int) (v9 : List Int) (v10 : ByteArray) (v11 : Bool) (v12 : Int) (v13 : List S41) (c2 : ByteArray → (List Int) → Int → (List S46) → (List Int) → (List Int) → ByteArray → Int → Bool → Int → (List S41) → Option zq33.R) (c3 : ByteArray → Option zq33.R) : Option zq33.R :=
 bif v11 then
  some (false)
 else
 bif v2 then
  bif ((v1.length : Int) != v3) then
   c2 v0 v1 v3 v6 v8 v9 v10 v12 true v12 v13
  else
  bif (!(v7 == (v3 == 1))) then
   c2 v0 v1 v3 v6 v8 v9 v10 v12 true v12 v13
  else
  bif ((v6.length : Int) != v3) then
   c2 v0 v1 v3 v6 v8 v9 v10 v12 true v12 v13
  else
  bif ((v9.length : Int) != (w64 ((v13.length : Int) + 1))) then
   c2 v0 v1 v3 v6 v8 v9 v10 v12 true v12 v13
  else
  bif (decide (0 < (v9.length : Int))) then
   (v9[(0 : Int).toNat]?).bind fun x1 =>
   bif (x1 != (w64 (60 * v12))) then
    c2 v0 v1 v3 v6 v8 v9 v10 v12 true v12 v13
   else
   bif (decide (0 ≤ (v13.length : Int))) then
    bif (decide ((v13.length : Int) < (v9.length : Int))) then
     (v9[((v13.length : Int) : Int).toNat]?).bind fun x2 =>
     bif (x2 != v3) then
      c2 v0 v1 v3 v6 v8 v9 v10 v12 true v12 v13
     else
     bif v5 then
      bif (decide (0 < (v1.length : Int))) then
       (v1[(0 : Int).toNat]?).bind fun x3 =>
       c2 v0 v1 v3 v6 v8 v9 v10 v12 (v4 != x3) v12 v13
      else
      none
     else
     c2 v0 v1 v3 v6 v8 v9 v10 v12 false v12 v13
    else
    none
   else
   none
  else
  none
 else
 c3 v0
theorem zq33.o1.run (N : Nat) (H8388607 : Code) (H268435413 : Code) (v0 : ByteArray) (v1 : List Int) (v2 : Bool) (v3 : Int) (v4 : Int) (v5 : Bool) (v6 : List S46) (v7 : Bool) (v8 : List Int) (v9 : List Int) (v10 : ByteArray) (v11 : Bool) (v12 : Int) (v13 : List S41) : runC zq33.C (zq33.O N) N zq33.c8388605 8388605 (mkSt [(1, .one (.str v0)), (2, .one (.ptr 2 0)), (5, .one (.sl true 3 v1)), (6, .one (.bool v2)), (9, .one (.int .i64 v3)), (13, .one (.int .i64 v4)), (14, .one (.bool v5)), (17, .one (.sl true 46 v6)), (21, .one (.bool v7)), (25, .one (.sl true 3 v8)), (29, .one (.sl true 3 v9)), (37, .one (.str v10)), (314, .one (.bool v11))] [(2, some (24, [.int .i64 v12, .sl false 41 v13]))] : St D0) (onN (fun s => zq33.C.tidy 4194302 s (fun s' => runC zq33.C (zq33.O N) N (.seq (.seq zq33.c16777212 (.cond (.tmp 315) (.seq zq33.c67108852 (.seq (.seq zq33.c268435412 H268435413) zq33.c134217707)) zq33.c33554427)) H8388607) 4194303 s' zq33.K0)) zq33.K0) = zq33.o1 N v0 v1 v2 v3 v4 v5 v6 v7 v8 v9 v10 v11 v12 v13 ((fun w0 w1 w2 w3 w4 w5 w6 w7 w8 w9 w10 => runC zq33.C (zq33.O N) N H268435413 268435413 (mkSt [(1, .one (.str w0)), (2, .one (.ptr 2 0)), (5, .one (.sl true 3 w1)), (9, .one (.int .i64 w2)), (17, .one (.sl true 46 w3)), (25, .one (.sl true 3 w4)), (29, .one (.sl true 3 w5)), (37, .one (.str w6)), (41, .one (.int .i64 w7)), (370, .one (.bool w8))] [(2, some (24, [.int .i64 w9, .sl false 41 w10]))] : St D0) ((fun up => (onN (fun s => zq33.C.tidy 134217706 s (fun s' => runC zq33.C (zq33.O N) N zq33.c134217707 134217707 s' up)) up)) (onN (fun s => zq33.C.tidy 8388606 s (fun s' => runC zq33.C (zq33.O N) N H8388607 8388607 s' zq33.K0)) zq33.K0)))) ((fun w0 => runC zq33.C (zq33.O N) N H8388607 8388607 (mkSt [(1, .one (.str w0))] [] : St D0) zq33.K0)) := by kernel_rfl
noncomputable def zq33.B134217706 (N : Nat) : St D0 → Option zq33.R := fun s' => runC zq33.C (zq33.O N) N zq33.c268435413 268435413 s' (zq33.K268435413 N)
noncomputable def zq33.d1 (N : Nat) (v0 : ByteArray) (v1 : List Int) (v2 : Bool) (v3 : Int) (v4 : Int) (v5 : Bool) (v6 : List S46) (v7 : Bool) (v8 : List Int) (v9 : List Int) (v10 : ByteArray) (v11 : Bool) (v12 : Int) (v13 : List S41) : Option zq33.R := zq33.o1 N v0 v1 v2 v3 v4 v5 v6 v7 v8 v9 v10 v11 v12 v13 ((fun w0 w1 w2 w3 w4 w5 w6 w7 w8 w9 w10 => zq33.d2 N w0 w1 w2 w3 w4 w5 w6 w7 w8 w9 w10)) ((fun w0 => zq33.d3 N w0))
theorem zq33.d1.run (N : Nat) (v0 : ByteArray) (v1 : List Int) (v2 : Bool) (v3 : Int) (v4 : Int) (v5 : Bool) (v6 : List S46) (v7 : Bool) (v8 : List Int) (v9 : List Int) (v10 : ByteArray) (v11 : Bool) (v12 : Int) (v13 : List S41) : runC zq33.C (zq33.O N) N zq33.c8388605 8388605 (mkSt [(1, .one (.str v0)), (2, .one (.ptr 2 0)), (5, .one (.sl true 3 v1)), (6, .one (.bool v2)), (9, .one (.int .i64 v3)), (13, .one (.int .i64 v4)), (14, .one (.bool v5)), (17, .one (.sl true 46 v6)), (21, .one (.bool v7)), (25, .one (.sl true 3 v8)), (29, .one (.sl true 3 v9)), (37, .one (.str v10)), (314, .one (.bool v11))] [(2, some (24, [.int .i64 v12, .sl false 41 v13]))] : St D0) (zq33.K8388605 N) = zq33.d1 N v0 v1 v2 v3 v4 v5 v6 v7 v8 v9 v10 v11 v12 v13 := by
  unfold zq33.d1; exact (zq33.o1.run N zq33.c8388607 zq33.c268435413 v0 v1 v2 v3 v4 v5 v6 v7 v8 v9 v10 v11 v12 v13).trans (congr (congr rfl (funext fun w0 => funext fun w1 => funext fun w2 => funext fun w3 => funext fun w4 => funext fun w5 => funext fun w6 => funext fun w7 => funext fun w8 => funext fun w9 => funext fun w10 => zq33.d2.run N w0 w1 w2 w3 w4 w5 w6 w7 w8 w9 w10)) (funext fun w0 => zq33.d3.run N w0))
noncomputable def zq33.o0 (N : Nat) (a0_0 : Int) (a0_1 : List S41) (a1 : ByteArray) (c1 : ByteArray → (List Int) → Bool → Int → Int → Bool → (List S46) → Bool → (List Int) → (List Int) → ByteArray → Bool → Int → (List S41) → Option zq33.R) : Option zq33.R :=
 bif (decide ((a1.size : Int) > 1048576)) then
  some (true)
 else
 (zq17.g N a0_0 a0_1).bind fun r1 =>
 (zq53.g N a0_0 a0_1).bind fun r2 =>
 (zq1.g N a0_0 a0_1).bind fun r3 =>
 (zq44.g N a0_0 a0_1).bind fun r4 =>
 (zq4.g N a0_0 a0_1).bind fun r5 =>
 (zq45.g N a0_0 a0_1).bind fun r6 =>
 (zq16.g N a0_0 a0_1).bind fun r7 =>
 (zq52.g N a0_0 a0_1).bind fun r8 =>
 (zq9.g N a0_0 a0_1).bind fun r9 =>
 (zq47.g N a0_0 a0_1).bind fun r10 =>
 (zq13.g N a0_0 a0_1).bind fun r11 =>
 (zq49.g N a0_0 a0_1).bind fun r12 =>
 (zq11.g N a0_0 a0_1).bind fun r13 =>
 (zq48.g N a0_0 a0_1).bind fun r14 =>
 (zq0.g N a0_0 a0_1).bind fun r15 =>
 (zq43.g N a0_0 a0_1).bind fun r16 =>
 (zq15.g N a0_0 a0_1).bind fun r17 =>
 (zq51.g N a0_0 a0_1).bind fun r18 =>
 bif (!(r1.2 == r2.2)) then
  c1 a1 r1.1 r1.2 r3.1 r5.1 r5.2 r7.1 r9.1 r11.1 r13.1 r17.1 true a0_0 a0_1
 else
 (zq36.g N r1.1 r2.1).bind fun r19 =>
 bif (!r19) then
  c1 a1 r1.1 r1.2 r3.1 r5.1 r5.2 r7.1 r9.1 r11.1 r13.1 r17.1 true a0_0 a0_1
 else
 bif (!(r3.2 == r4.2)) then
  c1 a1 r1.1 r1.2 r3.1 r5.1 r5.2 r7.1 r9.1 r11.1 r13.1 r17.1 true a0_0 a0_1
 else
 bif (r3.1 != r4.1) then
  c1 a1 r1.1 r1.2 r3.1 r5.1 r5.2 r7.1 r9.1 r11.1 r13.1 r17.1 true a0_0 a0_1
 else
 bif (!(r5.2 == r6.2)) then
  c1 a1 r1.1 r1.2 r3.1 r5.1 r5.2 r7.1 r9.1 r11.1 r13.1 r17.1 true a0_0 a0_1
 else
 bif (r5.1 != r6.1) then
  c1 a1 r1.1 r1.2 r3.1 r5.1 r5.2 r7.1 r9.1 r11.1 r13.1 r17.1 true a0_0 a0_1
 else
 bif (!(r7.2 == r8.2)) then
  c1 a1 r1.1 r1.2 r3.1 r5.1 r5.2 r7.1 r9.1 r11.1 r13.1 r17.1 true a0_0 a0_1
 else
 (zq37.g N r7.1 r8.1).bind fun r20 =>
 bif (!r20) then
  c1 a1 r1.1 r1.2 r3.1 r5.1 r5.2 r7.1 r9.1 r11.1 r13.1 r17.1 true a0_0 a0_1
 else
 bif (!(r9.2 == r10.2)) then
  c1 a1 r1.1 r1.2 r3.1 r5.1 r5.2 r7.1 r9.1 r11.1 r13.1 r17.1 true a0_0 a0_1
 else
 bif (!(r9.1 == r10.1)) then
  c1 a1 r1.1 r1.2 r3.1 r5.1 r5.2 r7.1 r9.1 r11.1 r13.1 r17.1 true a0_0 a0_1
 else
 bif (!(r11.2 == r12.2)) then
  c1 a1 r1.1 r1.2 r3.1 r5.1 r5.2 r7.1 r9.1 r11.1 r13.1 r17.1 true a0_0 a0_1
 else
 (zq36.g N r11.1 r12.1).bind fun r21 =>
 bif (!r21) then
  c1 a1 r1.1 r1.2 r3.1 r5.1 r5.2 r7.1 r9.1 r11.1 r13.1 r17.1 true a0_0 a0_1
 else
 bif (!(r13.2 == r14.2)) then
  c1 a1 r1.1 r1.2 r3.1 r5.1 r5.2 r7.1 r9.1 r11.1 r13.1 r17.1 true a0_0 a0_1
 else
 (zq36.g N r13.1 r14.1).bind fun r22 =>
 bif (!r22) then
  c1 a1 r1.1 r1.2 r3.1 r5.1 r5.2 r7.1 r9.1 r11.1 r13.1 r17.1 true a0_0 a0_1
 else
 bif (!(r15.2 == r16.2)) then
  c1 a1 r1.1 r1.2 r3.1 r5.1 r5.2 r7.1 r9.1 r11.1 r13.1 r17.1 true a0_0 a0_1
 else
 bif (r15.1 != r16.1) then
  c1 a1 r1.1 r1.2 r3.1 r5.1 r5.2 r7.1 r9.1 r11.1 r13.1 r17.1 true a0_0 a0_1
 else
 bif (!(r17.2 == r18.2)) then
  c1 a1 r1.1 r1.2 r3.1 r5.1 r5.2 r7.1 r9.1 r11.1 r13.1 r17.1 true a0_0 a0_1
 else
 bif (!(r17.1.toList == r18.1.toList)) then
  c1 a1 r1.1 r1.2 r3.1 r5.1 r5.2 r7.1 r9.1 r11.1 r13.1 r17.1 true a0_0 a0_1
 else
 (zq7.g N a0_0 a0_1).bind fun r23 =>
 bif (!(r1.2 == r23)) then
  c1 a1 r1.1 r1.2 r3.1 r5.1 r5.2 r7.1 r9.1 r11.1 r13.1 r17.1 true a0_0 a0_1
 else
 (zq7.g N a0_0 a0_1).bind fun r24 =>
 (zq46.g N a0_0 a0_1).bind fun r25 =>
 bif (!(r24 == r25)) then
  c1 a1 r1.1 r1.2 r3.1 r5.1 r5.2 r7.1 r9.1 r11.1 r13.1 r17.1 true a0_0 a0_1
 else
 bif (!(r3.2 == r1.2)) then
  c1 a1 r1.1 r1.2 r3.1 r5.1 r5.2 r7.1 r9.1 r11.1 r13.1 r17.1 true a0_0 a0_1
 else
 bif r1.2 then
  bif (!(r5.2 == (decide (r3.1 > 0)))) then
   c1 a1 r1.1 r1.2 r3.1 r5.1 r5.2 r7.1 r9.1 r11.1 r13.1 r17.1 true a0_0 a0_1
  else
  bif (!(r7.2 == r1.2)) then
   c1 a1 r1.1 r1.2 r3.1 r5.1 r5.2 r7.1 r9.1 r11.1 r13.1 r17.1 true a0_0 a0_1
  else
  bif (!(r9.2 == r1.2)) then
   c1 a1 r1.1 r1.2 r3.1 r5.1 r5.2 r7.1 r9.1 r11.1 r13.1 r17.1 true a0_0 a0_1
  else
  bif (!(r11.2 == r1.2)) then
   c1 a1 r1.1 r1.2 r3.1 r5.1 r5.2 r7.1 r9.1 r11.1 r13.1 r17.1 true a0_0 a0_1
  else
  bif (!(r13.2 == r1.2)) then
   c1 a1 r1.1 r1.2 r3.1 r5.1 r5.2 r7.1 r9.1 r11.1 r13.1 r17.1 true a0_0 a0_1
  else
  bif r1.2 then
   bif (!(r15.2 == (decide ((a0_1.length : Int) > 0)))) then
    c1 a1 r1.1 r1.2 r3.1 r5.1 r5.2 r7.1 r9.1 r11.1 r13.1 r17.1 true a0_0 a0_1
   else
   c1 a1 r1.1 r1.2 r3.1 r5.1 r5.2 r7.1 r9.1 r11.1 r13.1 r17.1 (!(r17.2 == r1.2)) a0_0 a0_1
  else
  bif (!(r15.2 == false)) then
   c1 a1 r1.1 r1.2 r3.1 r5.1 r5.2 r7.1 r9.1 r11.1 r13.1 r17.1 true a0_0 a0_1
  else
  c1 a1 r1.1 r1.2 r3.1 r5.1 r5.2 r7.1 r9.1 r11.1 r13.1 r17.1 (!(r17.2 == r1.2)) a0_0 a0_1
 else
 bif (!(r5.2 == false)) then
  c1 a1 r1.1 r1.2 r3.1 r5.1 r5.2 r7.1 r9.1 r11.1 r13.1 r17.1 true a0_0 a0_1
 else
 bif (!(r7.2 == r1.2)) then
  c1 a1 r1.1 r1.2 r3.1 r5.1 r5.2 r7.1 r9.1 r11.1 r13.1 r17.1 true a0_0 a0_1
 else
 bif (!(r9.2 == r1.2)) then
  c1 a1 r1.1 r1.2 r3.1 r5.1 r5.2 r7.1 r9.1 r11.1 r13.1 r17.1 true a0_0 a0_1
 else
 bif (!(r11.2 == r1.2)) then
  c1 a1 r1.1 r1.2 r3.1 r5.1 r5.2 r7.1 r9.1 r11.1 r13.1 r17.1 true a0_0 a0_1
 else
 bif (!(r13.2 == r1.2)) then
  c1 a1 r1.1 r1.2 r3.1 r5.1 r5.2 r7.1 r9.1 r11.1 r13.1 r17.1 true a0_0 a0_1
 else
 bif r1.2 then
  bif (!(r15.2 == (decide ((a0_1.length : Int) > 0)))) then
   c1 a1 r1.1 r1.2 r3.1 r5.1 r5.2 r7.1 r9.1 r11.1 r13.1 r17.1 true a0_0 a0_1
  else
  c1 a1 r1.1 r1.2 r3.1 r5.1 r5.2 r7.1 r9.1 r11.1 r13.1 r17.1 (!(r17.2 == r1.2)) a0_0 a0_1
 else
 bif (!(r15.2 == false)) then
  c1 a1 r1.1 r1.2 r3.1 r5.1 r5.2 r7.1 r9.1 r11.1 r13.1 r17.1 true a0_0 a0_1
 else
 c1 a1 r1.1 r1.2 r3.1 r5.1 r5.2 r7.1 r9.1 r11.1 r13.1 r17.1 (!(r17.2 == r1.2)) a0_0 a0_1
theorem zq33.o0.run (N : Nat) (H8388605 : Code) (a0_0 : Int) (a0_1 : List S41) (a1 : ByteArray) : runC zq33.C (zq33.O N) N (.seq zq33.c2 (.seq zq33.c6 (.seq zq33.c14 (.seq zq33.c30 (.seq zq33.c62 (.seq zq33.c126 (.seq zq33.c254 (.seq zq33.c510 (.seq zq33.c1022 (.seq zq33.c2046 (.seq zq33.c4094 (.seq zq33.c8190 (.seq zq33.c16382 (.seq zq33.c32766 (.seq zq33.c65534 (.seq zq33.c131070 (.seq zq33.c262142 (.seq zq33.c524286 (.seq zq33.c1048574 (.seq zq33.c2097150 (.seq (.seq zq33.c8388604 H8388605) zq33.c4194303))))))))))))))))))))) 1 (st0 [.agg [.int .i64 a0_0, .sl false 41 a0_1], .one (.str a1)] [] : St D0) zq33.K0 = zq33.o0 N a0_0 a0_1 a1 ((fun w0 w1 w2 w3 w4 w5 w6 w7 w8 w9 w10 w11 w12 w13 => runC zq33.C (zq33.O N) N H8388605 8388605 (mkSt [(1, .one (.str w0)), (2, .one (.ptr 2 0)), (5, .one (.sl true 3 w1)), (6, .one (.bool w2)), (9, .one (.int .i64 w3)), (13, .one (.int .i64 w4)), (14, .one (.bool w5)), (17, .one (.sl true 46 w6)), (21, .one (.bool w7)), (25, .one (.sl true 3 w8)), (29, .one (.sl true 3 w9)), (37, .one (.str w10)), (314, .one (.bool w11))] [(2, some (24, [.int .i64 w12, .sl false 41 w13]))] : St D0) (onN (fun s => zq33.C.tidy 4194302 s (fun s' => runC zq33.C (zq33.O N) N zq33.c4194303 4194303 s' zq33.K0)) zq33.K0))) := by kernel_rfl
noncomputable def zq33.B4194302 (N : Nat) : St D0 → Option zq33.R := fun s' => runC zq33.C (zq33.O N) N zq33.c8388605 8388605 s' (zq33.K8388605 N)
noncomputable def zq33.g (N : Nat) (a0_0 : Int) (a0_1 : List S41) (a1 : ByteArray) : Option zq33.R := zq33.o0 N a0_0 a0_1 a1 ((fun w0 w1 w2 w3 w4 w5 w6 w7 w8 w9 w10 w11 w12 w13 => zq33.d1 N w0 w1 w2 w3 w4 w5 w6 w7 w8 w9 w10 w11 w12 w13))
theorem zq33.c1_0 : zq33.c1 = (.seq zq33.c2 (.seq zq33.c6 (.seq zq33.c14 (.seq zq33.c30 (.seq zq33.c62 (.seq zq33.c126 (.seq zq33.c254 (.seq zq33.c510 (.seq zq33.c1022 (.seq zq33.c2046 (.seq zq33.c4094 (.seq zq33.c8190 (.seq zq33.c16382 (.seq zq33.c32766 (.seq zq33.c65534 (.seq zq33.c131070 (.seq zq33.c262142 (.seq zq33.c524286 (.seq zq33.c1048574 (.seq zq33.c2097150 (.seq (.seq zq33.c8388604 zq33.c8388605) zq33.c4194303))))))))))))))))))))) := by kernel_rfl
theorem zq33.g.run (N : Nat) (a0_0 : Int) (a0_1 : List S41) (a1 : ByteArray) : runC zq33.C (zq33.O N) N zq33.c1 1 (st0 [.agg [.int .i64 a0_0, .sl false 41 a0_1], .one (.str a1)] [] : St D0) zq33.K0 = zq33.g N a0_0 a0_1 a1 := by
  rw [zq33.c1_0]; unfold zq33.g; exact (zq33.o0.run N zq33.c8388605 a0_0 a0_1 a1).trans (congr rfl (funext fun w0 => funext fun w1 => funext fun w2 => funext fun w3 => funext fun w4 => funext fun w5 => funext fun w6 => funext fun w7 => funext fun w8 => funext fun w9 => funext fun w10 => funext fun w11 => funext fun w12 => funext fun w13 => zq33.d1.run N w0 w1 w2 w3 w4 w5 w6 w7 w8 w9 w10 w11 w12 w13))
theorem zq33.good (N : Nat) (a0_0 : Int) (a0_1 : List S41) (a1 : ByteArray) (r : zq33.R) (h : zq33.g N a0_0 a0_1 a1 = some r) : Go.PM.Good Go.Proofs.Tryz.prog T0 3 [.agg [.int .i64 a0_0, .sl false 41 a0_1], .one (.str a1)] [] (zq33.sig.ret r) (zq33.sig.bs r) :=
  good_fn tabOk0 mixed0 zq33.sig (zq33.E N) Go.Proofs.Tryz.func3 (by kernel_rfl) (by kernel_rfl) 42177343641095021277996325090266777016362126809771168265585212144492764733774160110032235067294625864987618363880033689837208633898489445685048333699053439156215 0 0 [(8388604, [1, 2, 5, 6, 9, 13, 14, 17, 21, 25, 29, 37, 314], [2]), (8388606, [1], []), (134217724, [1, 61, 62, 532], [61]), (268435412, [1, 2, 5, 9, 17, 25, 29, 37, 41, 370], [2]), (1073741658, [1, 2, 5, 9, 17, 25, 29, 37, 41, 42], [2]), (2147483322, [1, 2, 5, 9, 17, 25, 29, 37, 41, 403, 404, 405], [2]), (4294966650, [1, 2, 9, 25, 29, 37, 458, 459], [2]), (4294966654, [1, 513], []), (274877864522, [1, 2, 5, 9, 17, 25, 29, 37, 41, 42, 43, 378, 379, 380], [2]), (1099511461070, [1, 2, 5, 9, 17, 25, 29, 37, 41, 403, 404, 405, 454], [2]), (2199022925006, [1, 2, 9, 25, 29, 37, 458, 459, 499], [2])] 21594954508835228158003591198192552499358000950170250559508097698778593560060073139727453444717452242395332784978290451769053213589988915513458575598712363199496192 false [] [(false, [.any])] (by kernel_rfl) rfl rfl ((zq33.g.run N a0_0 a0_1 a1).trans h)
noncomputable def zq33.ent (N : Nat) : Ent Go.Proofs.Tryz.prog T0 := mkEnt 3 [(true, [.any, .ro 41]), (false, [.any])] zq33.sig (fun t => zq33.g N t.1 t.2.1 t.2.2) (fun t r h => zq33.good N t.1 t.2.1 t.2.2 r h)
end Go.Proofs.YtpeleommbipeaaaGreatDoor.M

namespace Go.Proofs.YtpeleommbipeaaaGreatDoor.M
open Go Go.PM Go.Proofs.YtpeleommbipeaaaGreatDoor.P
set_option linter.unusedVariables false
set_option maxRecDepth 100000
def FnTimesSolvedOfAll.Pure : Prop := ∀ (y0 : Int × (List S41)) (y1 : ByteArray), (((Lit.int .i64 y0.1).wf = true) ∧ (y0.2.length ≤ maxLen ∧ y0.2.length * 24 ≤ 140737488351232 ∧ ∀ x ∈ y0.2, ((Lit.int .i64 x.f0).wf = true) ∧ ((Lit.int .i64 x.f1).wf = true) ∧ ((Lit.int .i64 x.f2).wf = true))) → (y1.size ≤ 140737488351232) → ∃ N, zq33.g N y0.1 y0.2 y1 = some true
end Go.Proofs.YtpeleommbipeaaaGreatDoor.M
