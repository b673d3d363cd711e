/- What the program's functions compute, walked by the machine (part 4). No conditions but those stated. -/
import Derived.Test.YtdidghlibfopgaaGreatDoorFnFnTopOfAll3
namespace Go.Proofs.YtdidghlibfopgaaGreatDoor.M
open Go Go.PM Go.Proofs.YtdidghlibfopgaaGreatDoor.P
set_option linter.unusedVariables false
set_option maxRecDepth 100000
namespace zq72
variable (N : Nat)
abbrev R : Type := List ByteArray × Int × Int × Int × Int × Int × Int × Int × Bool
abbrev QQ : Type := St D0 → Option R
abbrev sig : Sig := ⟨[(false, 1)], [], [.str], [(false, 1), (true, 7), (false, 1)], [], [.sl true 9, .int .i64, .int .i64, .int .i64, .int .i64, .int .i64, .int .i64, .int .i64, .bool]⟩
noncomputable def C : Cfg D0 := ⟨Tryz.prog, T0, 2063731793405, 0, 57, 0, [(60, [3, 5, 6, 31], [3]), (1018, [3, 7, 8, 37, 38, 39], [3, 7])], 35288001060864, false, []⟩
noncomputable def E : List (Ent Tryz.prog T0) := [zq168.ent N, zq12.ent N, zq48.ent N]
noncomputable def O : Orc D0 R := orcOf (E N)
noncomputable def K0 : Ex → QQ := exitK C Tryz.f49.results.toList [(false, [.own 9]), (true, [.any, .any, .any, .any, .any, .any, .any]), (false, [.any])] (decOut sig)
noncomputable def c (p : Nat) : Code := codeAt (Tryz.f49.body.getD .skip) (pathN p)
abbrev t1 : Type := (List ByteArray) → Int → Bool → Int → Int → Int → Int → Int → Int → Int → Option R
abbrev t2 : Type := (List ByteArray) → (List ByteArray) → Int → Int → Int → Int → Int → Int → Int → Int → Int → Int → Int → Int → Int → Int → Int → Int → Option R
noncomputable def s1 (v0 : List ByteArray) (v1 : Int) (v2 : Bool) (v3 v4 v5 v6 v7 v8 v9 : Int) : St D0 := mkSt [(3, .one (.ptr 3 0)), (5, .one (.sl true 9 v0)), (6, .one (.int .i64 v1)), (31, .one (.bool v2))] [(3, some (29, [.int .i64 v3, .int .i64 v4, .int .i64 v5, .int .i64 v6, .int .i64 v7, .int .i64 v8, .int .i64 v9]))]
noncomputable def s2 (v0 v1 : List ByteArray) (v2 v3 v4 v5 v6 v7 v8 v9 v10 v11 v12 v13 v14 v15 v16 v17 : Int) : St D0 := mkSt [(3, .one (.ptr 3 0)), (7, .one (.ptr 7 0)), (8, .one (.sl true 9 v0)), (37, .one (.sl false 9 v1)), (38, .one (.int .i64 v2)), (39, .one (.int .i64 v3))] [(3, some (29, [.int .i64 v4, .int .i64 v5, .int .i64 v6, .int .i64 v7, .int .i64 v8, .int .i64 v9, .int .i64 v10])), (7, some (29, [.int .i64 v11, .int .i64 v12, .int .i64 v13, .int .i64 v14, .int .i64 v15, .int .i64 v16, .int .i64 v17]))]
noncomputable def K2036 (Kn1018 : QQ) : Ex → QQ := ((fun up => (onN (fun s => C.tidy 1018 s ((onN Kn1018 up) .normal)) (onN Kn1018 up))) (blockK 0 (onN (tk C (O N) N c 254 255 K0) K0)))
noncomputable def o2 (v0 v1 : List ByteArray) (v2 v3 v4 v5 v6 v7 v8 v9 v10 v11 v12 v13 v14 v15 v16 v17 : Int) (c2 : t2) : Option R :=
 bif (decide (v3 < v2)) then
  bif (decide (0 ≤ v3)) then
   bif (decide (v3 < (v1.length : Int))) then
    (v1[(v3 : Int).toNat]?).bind fun x1 =>
    (zq48.g N v11 v12 v13 v14 v15 v16 v17 x1).bind fun r2 =>
    bif (Nat.blt (v0.length + ([r2.2.2.2.2.2.2.2] : List ByteArray).length) 8796093022208) then
     c2 (v0 ++ ([r2.2.2.2.2.2.2.2] : List ByteArray)) v1 v2 (w64 (v3 + 1)) v4 v5 v6 v7 v8 v9 v10 r2.1 r2.2.1 r2.2.2.1 r2.2.2.2.1 r2.2.2.2.2.1 r2.2.2.2.2.2.1 r2.2.2.2.2.2.2.1
    else
    none
   else
   none
  else
  none
 else
 some (v0, v11, v12, v13, v14, v15, v16, v17, true)
noncomputable def d2 (v0 v1 : List ByteArray) (v2 v3 v4 v5 v6 v7 v8 v9 v10 v11 v12 v13 v14 v15 v16 v17 : Int) (c2 : t2) : Option R := o2 N v0 v1 v2 v3 v4 v5 v6 v7 v8 v9 v10 v11 v12 v13 v14 v15 v16 v17 c2
theorem d2.run (Kn1018 : QQ) (v0 v1 : List ByteArray) (v2 v3 v4 v5 v6 v7 v8 v9 v10 v11 v12 v13 v14 v15 v16 v17 : Int) : runC C (O N) N (c 2036) 2036 (s2 v0 v1 v2 v3 v4 v5 v6 v7 v8 v9 v10 v11 v12 v13 v14 v15 v16 v17) (K2036 N Kn1018) = d2 N v0 v1 v2 v3 v4 v5 v6 v7 v8 v9 v10 v11 v12 v13 v14 v15 v16 v17 (Kn1018 <| s2 · · · · · · · · · · · · · · · · · ·) := by kernel_rfl
noncomputable def K1018 : Ex → QQ := (blockK 0 (onN (tk C (O N) N c 254 255 K0) K0))
noncomputable def l2 (N : Nat) : Nat → (List ByteArray) → (List ByteArray) → Int → Int → Int → Int → Int → Int → Int → Int → Int → Int → Int → Int → Int → Int → Int → Int → Option R
  | 0, _, _, _, _, _, _, _, _, _, _, _, _, _, _, _, _, _, _ => none
  | n + 1, v0, v1, v2, v3, v4, v5, v6, v7, v8, v9, v10, v11, v12, v13, v14, v15, v16, v17 => d2 N v0 v1 v2 v3 v4 v5 v6 v7 v8 v9 v10 v11 v12 v13 v14 v15 v16 v17 (l2 N n · · · · · · · · · · · · · · · · · ·)
theorem loop1018 (N : Nat) : ∀ n, (∀ (v0 v1 : List ByteArray) (v2 v3 v4 v5 v6 v7 v8 v9 v10 v11 v12 v13 v14 v15 v16 v17 : Int), iter (loopF C (O N) N (c 2036) 1018) n (s2 v0 v1 v2 v3 v4 v5 v6 v7 v8 v9 v10 v11 v12 v13 v14 v15 v16 v17) (K1018 N) = l2 N n v0 v1 v2 v3 v4 v5 v6 v7 v8 v9 v10 v11 v12 v13 v14 v15 v16 v17)
  | 0 => (fun v0 v1 v2 v3 v4 v5 v6 v7 v8 v9 v10 v11 v12 v13 v14 v15 v16 v17 => rfl)
  | n + 1 => (fun v0 v1 v2 v3 v4 v5 v6 v7 v8 v9 v10 v11 v12 v13 v14 v15 v16 v17 => (d2.run N (fun s => iter (loopF C (O N) N (c 2036) 1018) n s (K1018 N)) v0 v1 v2 v3 v4 v5 v6 v7 v8 v9 v10 v11 v12 v13 v14 v15 v16 v17).trans (show _ = d2 N v0 v1 v2 v3 v4 v5 v6 v7 v8 v9 v10 v11 v12 v13 v14 v15 v16 v17 (l2 N n · · · · · · · · · · · · · · · · · ·) from (congr rfl (fx18 ((loop1018 N n))))))
noncomputable def K61 : Ex → QQ := (onN (tk C (O N) N c 30 31 K0) K0)
noncomputable def o1 (v0 : List ByteArray) (v1 : Int) (v2 : Bool) (v3 v4 v5 v6 v7 v8 v9 : Int) (c2 : t2) : Option R :=
 bif v2 then
  some (([] : List ByteArray), 0, 0, 0, 0, 0, 0, 0, false)
 else
 (zq12.g N).bind fun r1 =>
 bif (decide (0 ≤ v1)) then
  bif (decide (v1 ≤ (v0.length : Int))) then
   bif (decide (0 ≤ v1)) then
    c2 ([] : List ByteArray) ((v0.take (v1 : Int).toNat).drop (0 : Int).toNat) (((v0.take (v1 : Int).toNat).drop (0 : Int).toNat).length : Int) 0 v3 v4 v5 v6 v7 v8 v9 r1.1 r1.2.1 r1.2.2.1 r1.2.2.2.1 r1.2.2.2.2.1 r1.2.2.2.2.2.1 r1.2.2.2.2.2.2
   else
   none
  else
  none
 else
 none
theorem o1.run (H2036 : Code) (v0 : List ByteArray) (v1 : Int) (v2 : Bool) (v3 v4 v5 v6 v7 v8 v9 : Int) : runC C (O N) N (c 61) 61 (s1 v0 v1 v2 v3 v4 v5 v6 v7 v8 v9) (onN (fun s => C.tidy 30 s (fun s' => runC C (O N) N (.seq (c 62) (.seq (c 126) (.seq (.seq (c 508) (.block 0 (.loop H2036))) (c 255)))) 31 s' K0)) K0) = o1 N v0 v1 v2 v3 v4 v5 v6 v7 v8 v9 ((fun w0 w1 w2 w3 w4 w5 w6 w7 w8 w9 w10 w11 w12 w13 w14 w15 w16 w17 => iter (loopF C (O N) N H2036 1018) N (s2 w0 w1 w2 w3 w4 w5 w6 w7 w8 w9 w10 w11 w12 w13 w14 w15 w16 w17) (blockK 0 (onN (tk C (O N) N c 254 255 K0) K0)))) := by kernel_rfl
noncomputable def d1 (v0 : List ByteArray) (v1 : Int) (v2 : Bool) (v3 v4 v5 v6 v7 v8 v9 : Int) : Option R := o1 N v0 v1 v2 v3 v4 v5 v6 v7 v8 v9 (l2 N N · · · · · · · · · · · · · · · · · ·)
theorem d1.run (v0 : List ByteArray) (v1 : Int) (v2 : Bool) (v3 v4 v5 v6 v7 v8 v9 : Int) : runC C (O N) N (c 61) 61 (s1 v0 v1 v2 v3 v4 v5 v6 v7 v8 v9) (K61 N) = d1 N v0 v1 v2 v3 v4 v5 v6 v7 v8 v9 := by
  unfold d1; exact (o1.run N (c 2036) v0 v1 v2 v3 v4 v5 v6 v7 v8 v9).trans (congr rfl (fx18 ((loop1018 N N))))
noncomputable def o0 (a0 : ByteArray) (c1 : t1) : Option R :=
 (zq168.g N a0 (⟨#[10]⟩ : ByteArray)).bind fun r1 =>
 bif (decide ((a0.size : Int) > 3000)) then
  c1 r1 (w64 ((r1.length : Int) - 1)) true 0 0 0 0 0 0 0
 else
 bif (decide (0 ≤ (w64 ((r1.length : Int) - 1)))) then
  bif (decide ((w64 ((r1.length : Int) - 1)) < (r1.length : Int))) then
   (r1[((w64 ((r1.length : Int) - 1)) : Int).toNat]?).bind fun x2 =>
   bif (!(x2.toList == (⟨#[]⟩ : ByteArray).toList)) then
    c1 r1 (w64 ((r1.length : Int) - 1)) true 0 0 0 0 0 0 0
   else
   c1 r1 (w64 ((r1.length : Int) - 1)) (decide ((w64 ((r1.length : Int) - 1)) > 50)) 0 0 0 0 0 0 0
  else
  none
 else
 none
theorem o0.run (H61 : Code) (a0 : ByteArray) : runC C (O N) N (.seq (c 2) (.seq (c 6) (.seq (c 14) (.seq (.seq (c 60) H61) (c 31))))) 1 (st0 [.one (.str a0)] [] : St D0) K0 = o0 N a0 ((fun w0 w1 w2 w3 w4 w5 w6 w7 w8 w9 => runC C (O N) N H61 61 (s1 w0 w1 w2 w3 w4 w5 w6 w7 w8 w9) (onN (tk C (O N) N c 30 31 K0) K0))) := by kernel_rfl
noncomputable def g (a0 : ByteArray) : Option R := o0 N a0 (d1 N · · · · · · · · · ·)
theorem c1_0 : (c 1) = (.seq (c 2) (.seq (c 6) (.seq (c 14) (.seq (.seq (c 60) (c 61)) (c 31))))) := by kernel_rfl
theorem g.run (a0 : ByteArray) : runC C (O N) N (c 1) 1 (st0 [.one (.str a0)] [] : St D0) K0 = g N a0 := by
  rw [c1_0]; unfold g; exact (o0.run N (c 61) a0).trans (congr rfl (fx10 (d1.run N)))
noncomputable def ent : Ent Tryz.prog T0 := mkEntC C tabOk0 mixed0 49 [(false, [.any])] sig (E N) Tryz.func49 (by kernel_rfl) [(false, [.own 9]), (true, [.any, .any, .any, .any, .any, .any, .any]), (false, [.any])] N (fun t => g N t) (fun _ => by kernel_rfl) (fun t => g.run N t)
end zq72
namespace zq103
variable (N : Nat)
abbrev R : Type := Int × Int × Int × Int × Int × Int × Int
abbrev sig : Sig := ⟨[], [], [], [(true, 7)], [], [.int .i64, .int .i64, .int .i64, .int .i64, .int .i64, .int .i64, .int .i64]⟩
noncomputable def C : Cfg D0 := ⟨Tryz.prog, T0, 1, 0, 5, 0, [], 0, false, []⟩
noncomputable def E (N : Nat) : List (Ent Tryz.prog T0) := []
noncomputable def O : Orc D0 R := orcOf (E N)
noncomputable def K0 : Ex → St D0 → Option R := exitK C Tryz.f83.results.toList [(true, [.any, .any, .any, .any, .any, .any, .any])] (decOut sig)
noncomputable def c (p : Nat) : Code := codeAt (Tryz.f83.body.getD .skip) (pathN p)
noncomputable def o0 (N : Nat) : Option R :=
 some (12, 0, 1, 0, 1, 73, 72)
noncomputable def g : Option R := o0 N
theorem g.run : runC C (O N) N (c 1) 1 (st0 [] [] : St D0) K0 = g N := by kernel_rfl
noncomputable def ent : Ent Tryz.prog T0 := mkEntC C tabOk0 mixed0 83 [] sig (E N) Tryz.func83 (by kernel_rfl) [(true, [.any, .any, .any, .any, .any, .any, .any])] N (fun t => g N) (fun _ => by kernel_rfl) (fun t => g.run N)
end zq103
namespace zq123
variable (N : Nat)
abbrev R : Type := Int × Int × Int × Int × Int × Int × Int × List ByteArray × Bool
abbrev QQ : Type := St D0 → Option R
abbrev sig : Sig := ⟨[(false, 1)], [], [.str], [(true, 7), (false, 1), (false, 1)], [], [.int .i64, .int .i64, .int .i64, .int .i64, .int .i64, .int .i64, .int .i64, .sl true 9, .bool]⟩
noncomputable def C : Cfg D0 := ⟨Tryz.prog, T0, 516469857789, 0, 55, 0, [(124, [2, 5, 6, 30], [2]), (2042, [2, 7, 8, 35, 36, 37], [2, 7])], 8822144507904, false, []⟩
noncomputable def E : List (Ent Tryz.prog T0) := [zq158.ent N, zq103.ent N, zq126.ent N]
noncomputable def O : Orc D0 R := orcOf (E N)
noncomputable def K0 : Ex → QQ := exitK C Tryz.f50.results.toList [(true, [.any, .any, .any, .any, .any, .any, .any]), (false, [.own 9]), (false, [.any])] (decOut sig)
noncomputable def c (p : Nat) : Code := codeAt (Tryz.f50.body.getD .skip) (pathN p)
abbrev t1 : Type := (List ByteArray) → Int → Bool → Int → Int → Int → Int → Int → Int → Int → Option R
abbrev t2 : Type := (List ByteArray) → Int → Int → Int → Int → Int → Int → Int → Int → Int → Int → Int → Int → Int → Int → Int → Int → Option R
abbrev t3 : Type := (List ByteArray) → (List ByteArray) → Int → Int → Int → Int → Int → Int → Int → Int → Int → Int → Int → Int → Int → Int → Int → Int → Option R
noncomputable def s1 (v0 : List ByteArray) (v1 : Int) (v2 : Bool) (v3 v4 v5 v6 v7 v8 v9 : Int) : St D0 := mkSt [(2, .one (.ptr 2 0)), (5, .one (.sl true 9 v0)), (6, .one (.int .i64 v1)), (30, .one (.bool v2))] [(2, some (29, [.int .i64 v3, .int .i64 v4, .int .i64 v5, .int .i64 v6, .int .i64 v7, .int .i64 v8, .int .i64 v9]))]
noncomputable def s2 (v0 : List ByteArray) (v1 v2 v3 v4 v5 v6 v7 v8 v9 v10 v11 v12 v13 v14 v15 v16 : Int) : St D0 := mkSt [(2, .one (.ptr 2 0)), (7, .one (.ptr 7 0)), (8, .one (.nl)), (35, .one (.sl false 9 v0)), (36, .one (.int .i64 v1)), (37, .one (.int .i64 v2))] [(2, some (29, [.int .i64 v3, .int .i64 v4, .int .i64 v5, .int .i64 v6, .int .i64 v7, .int .i64 v8, .int .i64 v9])), (7, some (29, [.int .i64 v10, .int .i64 v11, .int .i64 v12, .int .i64 v13, .int .i64 v14, .int .i64 v15, .int .i64 v16]))]
noncomputable def s3 (v0 v1 : List ByteArray) (v2 v3 v4 v5 v6 v7 v8 v9 v10 v11 v12 v13 v14 v15 v16 v17 : Int) : St D0 := mkSt [(2, .one (.ptr 2 0)), (7, .one (.ptr 7 0)), (8, .one (.sl true 9 v0)), (35, .one (.sl false 9 v1)), (36, .one (.int .i64 v2)), (37, .one (.int .i64 v3))] [(2, some (29, [.int .i64 v4, .int .i64 v5, .int .i64 v6, .int .i64 v7, .int .i64 v8, .int .i64 v9, .int .i64 v10])), (7, some (29, [.int .i64 v11, .int .i64 v12, .int .i64 v13, .int .i64 v14, .int .i64 v15, .int .i64 v16, .int .i64 v17]))]
noncomputable def K4084 (Kn2042 : QQ) : Ex → QQ := ((fun up => (onN (fun s => C.tidy 2042 s ((onN Kn2042 up) .normal)) (onN Kn2042 up))) (blockK 0 (onN (tk C (O N) N c 510 511 K0) K0)))
noncomputable def o2 (v0 : List ByteArray) (v1 v2 v3 v4 v5 v6 v7 v8 v9 v10 v11 v12 v13 v14 v15 v16 : Int) (c3 : t3) : Option R :=
 bif (decide (v2 < v1)) then
  bif (decide (0 ≤ v2)) then
   bif (decide (v2 < (v0.length : Int))) then
    (v0[(v2 : Int).toNat]?).bind fun x1 =>
    (zq126.g N v10 v11 v12 v13 v14 v15 v16 x1).bind fun r2 =>
    bif (Nat.blt (([] : List ByteArray).length + ([r2.2.2.2.2.2.2.2] : List ByteArray).length) 8796093022208) then
     c3 (([] : List ByteArray) ++ ([r2.2.2.2.2.2.2.2] : List ByteArray)) v0 v1 (w64 (v2 + 1)) v3 v4 v5 v6 v7 v8 v9 r2.1 r2.2.1 r2.2.2.1 r2.2.2.2.1 r2.2.2.2.2.1 r2.2.2.2.2.2.1 r2.2.2.2.2.2.2.1
    else
    none
   else
   none
  else
  none
 else
 some (v10, v11, v12, v13, v14, v15, v16, ([] : List ByteArray), true)
noncomputable def d2 (v0 : List ByteArray) (v1 v2 v3 v4 v5 v6 v7 v8 v9 v10 v11 v12 v13 v14 v15 v16 : Int) (c3 : t3) : Option R := o2 N v0 v1 v2 v3 v4 v5 v6 v7 v8 v9 v10 v11 v12 v13 v14 v15 v16 c3
theorem d2.run (Kn2042 : QQ) (v0 : List ByteArray) (v1 v2 v3 v4 v5 v6 v7 v8 v9 v10 v11 v12 v13 v14 v15 v16 : Int) : runC C (O N) N (c 4084) 4084 (s2 v0 v1 v2 v3 v4 v5 v6 v7 v8 v9 v10 v11 v12 v13 v14 v15 v16) (K4084 N Kn2042) = d2 N v0 v1 v2 v3 v4 v5 v6 v7 v8 v9 v10 v11 v12 v13 v14 v15 v16 (Kn2042 <| s3 · · · · · · · · · · · · · · · · · ·) := by kernel_rfl
noncomputable def o3 (v0 v1 : List ByteArray) (v2 v3 v4 v5 v6 v7 v8 v9 v10 v11 v12 v13 v14 v15 v16 v17 : Int) (c3 : t3) : Option R :=
 bif (decide (v3 < v2)) then
  bif (decide (0 ≤ v3)) then
   bif (decide (v3 < (v1.length : Int))) then
    (v1[(v3 : Int).toNat]?).bind fun x1 =>
    (zq126.g N v11 v12 v13 v14 v15 v16 v17 x1).bind fun r2 =>
    bif (Nat.blt (v0.length + ([r2.2.2.2.2.2.2.2] : List ByteArray).length) 8796093022208) then
     c3 (v0 ++ ([r2.2.2.2.2.2.2.2] : List ByteArray)) v1 v2 (w64 (v3 + 1)) v4 v5 v6 v7 v8 v9 v10 r2.1 r2.2.1 r2.2.2.1 r2.2.2.2.1 r2.2.2.2.2.1 r2.2.2.2.2.2.1 r2.2.2.2.2.2.2.1
    else
    none
   else
   none
  else
  none
 else
 some (v11, v12, v13, v14, v15, v16, v17, v0, true)
noncomputable def d3 (v0 v1 : List ByteArray) (v2 v3 v4 v5 v6 v7 v8 v9 v10 v11 v12 v13 v14 v15 v16 v17 : Int) (c3 : t3) : Option R := o3 N v0 v1 v2 v3 v4 v5 v6 v7 v8 v9 v10 v11 v12 v13 v14 v15 v16 v17 c3
theorem d3.run (Kn2042 : QQ) (v0 v1 : List ByteArray) (v2 v3 v4 v5 v6 v7 v8 v9 v10 v11 v12 v13 v14 v15 v16 v17 : Int) : runC C (O N) N (c 4084) 4084 (s3 v0 v1 v2 v3 v4 v5 v6 v7 v8 v9 v10 v11 v12 v13 v14 v15 v16 v17) (K4084 N Kn2042) = d3 N v0 v1 v2 v3 v4 v5 v6 v7 v8 v9 v10 v11 v12 v13 v14 v15 v16 v17 (Kn2042 <| s3 · · · · · · · · · · · · · · · · · ·) := by kernel_rfl
noncomputable def K2042 : Ex → QQ := (blockK 0 (onN (tk C (O N) N c 510 511 K0) K0))
mutual
noncomputable def l2 (N : Nat) : Nat → (List ByteArray) → Int → Int → Int → Int → Int → Int → Int → Int → Int → Int → Int → Int → Int → Int → Int → Int → Option R
  | 0, _, _, _, _, _, _, _, _, _, _, _, _, _, _, _, _, _ => none
  | n + 1, v0, v1, v2, v3, v4, v5, v6, v7, v8, v9, v10, v11, v12, v13, v14, v15, v16 => d2 N v0 v1 v2 v3 v4 v5 v6 v7 v8 v9 v10 v11 v12 v13 v14 v15 v16 (l3 N n · · · · · · · · · · · · · · · · · ·)
noncomputable def l3 (N : Nat) : Nat → (List ByteArray) → (List ByteArray) → Int → Int → Int → Int → Int → Int → Int → Int → Int → Int → Int → Int → Int → Int → Int → Int → Option R
  | 0, _, _, _, _, _, _, _, _, _, _, _, _, _, _, _, _, _, _ => none
  | n + 1, v0, v1, v2, v3, v4, v5, v6, v7, v8, v9, v10, v11, v12, v13, v14, v15, v16, v17 => d3 N v0 v1 v2 v3 v4 v5 v6 v7 v8 v9 v10 v11 v12 v13 v14 v15 v16 v17 (l3 N n · · · · · · · · · · · · · · · · · ·)
end
theorem loop2042 (N : Nat) : ∀ n, (∀ (v0 : List ByteArray) (v1 v2 v3 v4 v5 v6 v7 v8 v9 v10 v11 v12 v13 v14 v15 v16 : Int), iter (loopF C (O N) N (c 4084) 2042) n (s2 v0 v1 v2 v3 v4 v5 v6 v7 v8 v9 v10 v11 v12 v13 v14 v15 v16) (K2042 N) = l2 N n v0 v1 v2 v3 v4 v5 v6 v7 v8 v9 v10 v11 v12 v13 v14 v15 v16) ∧ (∀ (v0 v1 : List ByteArray) (v2 v3 v4 v5 v6 v7 v8 v9 v10 v11 v12 v13 v14 v15 v16 v17 : Int), iter (loopF C (O N) N (c 4084) 2042) n (s3 v0 v1 v2 v3 v4 v5 v6 v7 v8 v9 v10 v11 v12 v13 v14 v15 v16 v17) (K2042 N) = l3 N n v0 v1 v2 v3 v4 v5 v6 v7 v8 v9 v10 v11 v12 v13 v14 v15 v16 v17)
  | 0 => ⟨(fun v0 v1 v2 v3 v4 v5 v6 v7 v8 v9 v10 v11 v12 v13 v14 v15 v16 => rfl), (fun v0 v1 v2 v3 v4 v5 v6 v7 v8 v9 v10 v11 v12 v13 v14 v15 v16 v17 => rfl)⟩
  | n + 1 => ⟨(fun v0 v1 v2 v3 v4 v5 v6 v7 v8 v9 v10 v11 v12 v13 v14 v15 v16 => (d2.run N (fun s => iter (loopF C (O N) N (c 4084) 2042) n s (K2042 N)) v0 v1 v2 v3 v4 v5 v6 v7 v8 v9 v10 v11 v12 v13 v14 v15 v16).trans (show _ = d2 N v0 v1 v2 v3 v4 v5 v6 v7 v8 v9 v10 v11 v12 v13 v14 v15 v16 (l3 N n · · · · · · · · · · · · · · · · · ·) from (congr rfl (fx18 ((loop2042 N n).2))))), (fun v0 v1 v2 v3 v4 v5 v6 v7 v8 v9 v10 v11 v12 v13 v14 v15 v16 v17 => (d3.run N (fun s => iter (loopF C (O N) N (c 4084) 2042) n s (K2042 N)) v0 v1 v2 v3 v4 v5 v6 v7 v8 v9 v10 v11 v12 v13 v14 v15 v16 v17).trans (show _ = d3 N v0 v1 v2 v3 v4 v5 v6 v7 v8 v9 v10 v11 v12 v13 v14 v15 v16 v17 (l3 N n · · · · · · · · · · · · · · · · · ·) from (congr rfl (fx18 ((loop2042 N n).2)))))⟩
noncomputable def K125 : Ex → QQ := (onN (tk C (O N) N c 62 63 K0) K0)
noncomputable def o1 (v0 : List ByteArray) (v1 : Int) (v2 : Bool) (v3 v4 v5 v6 v7 v8 v9 : Int) (c2 : t2) : Option R :=
 bif v2 then
  some (0, 0, 0, 0, 0, 0, 0, ([] : List ByteArray), false)
 else
 (zq103.g N).bind fun r1 =>
 bif (decide (0 ≤ v1)) then
  bif (decide (v1 ≤ (v0.length : Int))) then
   bif (decide (0 ≤ v1)) then
    c2 ((v0.take (v1 : Int).toNat).drop (0 : Int).toNat) (((v0.take (v1 : Int).toNat).drop (0 : Int).toNat).length : Int) 0 v3 v4 v5 v6 v7 v8 v9 r1.1 r1.2.1 r1.2.2.1 r1.2.2.2.1 r1.2.2.2.2.1 r1.2.2.2.2.2.1 r1.2.2.2.2.2.2
   else
   none
  else
  none
 else
 none
theorem o1.run (H4084 : Code) (v0 : List ByteArray) (v1 : Int) (v2 : Bool) (v3 v4 v5 v6 v7 v8 v9 : Int) : runC C (O N) N (c 125) 125 (s1 v0 v1 v2 v3 v4 v5 v6 v7 v8 v9) (onN (fun s => C.tidy 62 s (fun s' => runC C (O N) N (.seq (c 126) (.seq (c 254) (.seq (.seq (c 1020) (.block 0 (.loop H4084))) (c 511)))) 63 s' K0)) K0) = o1 N v0 v1 v2 v3 v4 v5 v6 v7 v8 v9 ((fun w0 w1 w2 w3 w4 w5 w6 w7 w8 w9 w10 w11 w12 w13 w14 w15 w16 => iter (loopF C (O N) N H4084 2042) N (s2 w0 w1 w2 w3 w4 w5 w6 w7 w8 w9 w10 w11 w12 w13 w14 w15 w16) (blockK 0 (onN (tk C (O N) N c 510 511 K0) K0)))) := by kernel_rfl
noncomputable def d1 (v0 : List ByteArray) (v1 : Int) (v2 : Bool) (v3 v4 v5 v6 v7 v8 v9 : Int) : Option R := o1 N v0 v1 v2 v3 v4 v5 v6 v7 v8 v9 (l2 N N · · · · · · · · · · · · · · · · ·)
theorem d1.run (v0 : List ByteArray) (v1 : Int) (v2 : Bool) (v3 v4 v5 v6 v7 v8 v9 : Int) : runC C (O N) N (c 125) 125 (s1 v0 v1 v2 v3 v4 v5 v6 v7 v8 v9) (K125 N) = d1 N v0 v1 v2 v3 v4 v5 v6 v7 v8 v9 := by
  unfold d1; exact (o1.run N (c 4084) v0 v1 v2 v3 v4 v5 v6 v7 v8 v9).trans (congr rfl (fx17 ((loop2042 N N).1)))
noncomputable def o0 (a0 : ByteArray) (c1 : t1) : Option R :=
 bif (decide ((a0.size : Int) > 3000)) then
  some (0, 0, 0, 0, 0, 0, 0, ([] : List ByteArray), false)
 else
 (zq158.g N a0 10).bind fun r1 =>
 bif (decide (0 ≤ (w64 ((r1.length : Int) - 1)))) then
  bif (decide ((w64 ((r1.length : Int) - 1)) < (r1.length : Int))) then
   (r1[((w64 ((r1.length : Int) - 1)) : Int).toNat]?).bind fun x2 =>
   bif (!(x2.toList == (⟨#[]⟩ : ByteArray).toList)) then
    c1 r1 (w64 ((r1.length : Int) - 1)) true 0 0 0 0 0 0 0
   else
   c1 r1 (w64 ((r1.length : Int) - 1)) (decide ((w64 ((r1.length : Int) - 1)) > 50)) 0 0 0 0 0 0 0
  else
  none
 else
 none
theorem o0.run (H125 : Code) (a0 : ByteArray) : runC C (O N) N (.seq (c 2) (.seq (c 6) (.seq (c 14) (.seq (c 30) (.seq (.seq (c 124) H125) (c 63)))))) 1 (st0 [.one (.str a0)] [] : St D0) K0 = o0 N a0 ((fun w0 w1 w2 w3 w4 w5 w6 w7 w8 w9 => runC C (O N) N H125 125 (s1 w0 w1 w2 w3 w4 w5 w6 w7 w8 w9) (onN (tk C (O N) N c 62 63 K0) K0))) := by kernel_rfl
noncomputable def g (a0 : ByteArray) : Option R := o0 N a0 (d1 N · · · · · · · · · ·)
theorem c1_0 : (c 1) = (.seq (c 2) (.seq (c 6) (.seq (c 14) (.seq (c 30) (.seq (.seq (c 124) (c 125)) (c 63)))))) := by kernel_rfl
theorem g.run (a0 : ByteArray) : runC C (O N) N (c 1) 1 (st0 [.one (.str a0)] [] : St D0) K0 = g N a0 := by
  rw [c1_0]; unfold g; exact (o0.run N (c 125) a0).trans (congr rfl (fx10 (d1.run N)))
noncomputable def ent : Ent Tryz.prog T0 := mkEntC C tabOk0 mixed0 50 [(false, [.any])] sig (E N) Tryz.func50 (by kernel_rfl) [(true, [.any, .any, .any, .any, .any, .any, .any]), (false, [.own 9]), (false, [.any])] N (fun t => g N t) (fun _ => by kernel_rfl) (fun t => g.run N t)
end zq123
namespace zq85
variable (N : Nat)
abbrev R : Type := Bool
abbrev sig : Sig := ⟨[(true, 2), (true, 2)], [], [.int .i64, .int .i64, .int .i64, .int .i64], [(false, 1)], [], [.bool]⟩
noncomputable def C : Cfg D0 := ⟨Tryz.prog, T0, 16927, 0, 15, 0, [], 0, false, []⟩
noncomputable def E (N : Nat) : List (Ent Tryz.prog T0) := []
noncomputable def O : Orc D0 R := orcOf (E N)
noncomputable def K0 : Ex → St D0 → Option R := exitK C Tryz.f54.results.toList [(false, [.any])] (decOut sig)
noncomputable def c (p : Nat) : Code := codeAt (Tryz.f54.body.getD .skip) (pathN p)
noncomputable def o0 (N : Nat) (a0_0 a0_1 a1_0 a1_1 : Int) : Option R :=
 bif (a0_0 != a1_0) then
  some (false)
 else
 bif (a0_1 != a1_1) then
  some (false)
 else
 some (true)
noncomputable def g (a0_0 a0_1 a1_0 a1_1 : Int) : Option R := o0 N a0_0 a0_1 a1_0 a1_1
theorem g.run (a0_0 a0_1 a1_0 a1_1 : Int) : runC C (O N) N (c 1) 1 (st0 [.agg [.int .i64 a0_0, .int .i64 a0_1], .agg [.int .i64 a1_0, .int .i64 a1_1]] [] : St D0) K0 = g N a0_0 a0_1 a1_0 a1_1 := by kernel_rfl
noncomputable def ent : Ent Tryz.prog T0 := mkEntC C tabOk0 mixed0 54 [(true, [.any, .any]), (true, [.any, .any])] sig (E N) Tryz.func54 (by kernel_rfl) [(false, [.any])] N (fun t => g N t.1 t.2.1 t.2.2.1 t.2.2.2) (fun _ => by kernel_rfl) (fun t => g.run N t.1 t.2.1 t.2.2.1 t.2.2.2)
end zq85
namespace zq83
variable (N : Nat)
abbrev R : Type := Bool
abbrev sig : Sig := ⟨[(true, 4), (true, 4)], [], [.int .i64, .int .i64, .int .i64, .int .i64, .int .i64, .int .i64, .int .i64, .int .i64], [(false, 1)], [], [.bool]⟩
noncomputable def C : Cfg D0 := ⟨Tryz.prog, T0, 1082399, 0, 21, 0, [], 0, false, []⟩
noncomputable def E : List (Ent Tryz.prog T0) := [zq85.ent N]
noncomputable def O : Orc D0 R := orcOf (E N)
noncomputable def K0 : Ex → St D0 → Option R := exitK C Tryz.f55.results.toList [(false, [.any])] (decOut sig)
noncomputable def c (p : Nat) : Code := codeAt (Tryz.f55.body.getD .skip) (pathN p)
noncomputable def o0 (a0_0 a0_1 a0_2 a0_3 a1_0 a1_1 a1_2 a1_3 : Int) : Option R :=
 (zq85.g N a0_0 a0_1 a1_0 a1_1).bind fun r1 =>
 bif (!r1) then
  some (false)
 else
 bif (a0_2 != a1_2) then
  some (false)
 else
 bif (a0_3 != a1_3) then
  some (false)
 else
 some (true)
noncomputable def g (a0_0 a0_1 a0_2 a0_3 a1_0 a1_1 a1_2 a1_3 : Int) : Option R := o0 N a0_0 a0_1 a0_2 a0_3 a1_0 a1_1 a1_2 a1_3
theorem g.run (a0_0 a0_1 a0_2 a0_3 a1_0 a1_1 a1_2 a1_3 : Int) : runC C (O N) N (c 1) 1 (st0 [.agg [.int .i64 a0_0, .int .i64 a0_1, .int .i64 a0_2, .int .i64 a0_3], .agg [.int .i64 a1_0, .int .i64 a1_1, .int .i64 a1_2, .int .i64 a1_3]] [] : St D0) K0 = g N a0_0 a0_1 a0_2 a0_3 a1_0 a1_1 a1_2 a1_3 := by kernel_rfl
noncomputable def ent : Ent Tryz.prog T0 := mkEntC C tabOk0 mixed0 55 [(true, [.any, .any, .any, .any]), (true, [.any, .any, .any, .any])] sig (E N) Tryz.func55 (by kernel_rfl) [(false, [.any])] N (fun t => g N t.1 t.2.1 t.2.2.1 t.2.2.2.1 t.2.2.2.2.1 t.2.2.2.2.2.1 t.2.2.2.2.2.2.1 t.2.2.2.2.2.2.2) (fun _ => by kernel_rfl) (fun t => g.run N t.1 t.2.1 t.2.2.1 t.2.2.2.1 t.2.2.2.2.1 t.2.2.2.2.2.1 t.2.2.2.2.2.2.1 t.2.2.2.2.2.2.2)
end zq83
namespace zq84
variable (N : Nat)
abbrev R : Type := Bool
abbrev sig : Sig := ⟨[(true, 7), (true, 7)], [], [.int .i64, .int .i64, .int .i64, .int .i64, .int .i64, .int .i64, .int .i64, .int .i64, .int .i64, .int .i64, .int .i64, .int .i64, .int .i64, .int .i64], [(false, 1)], [], [.bool]⟩
noncomputable def C : Cfg D0 := ⟨Tryz.prog, T0, 2130463, 0, 22, 0, [], 0, false, []⟩
noncomputable def E : List (Ent Tryz.prog T0) := [zq85.ent N, zq83.ent N]
noncomputable def O : Orc D0 R := orcOf (E N)
noncomputable def K0 : Ex → St D0 → Option R := exitK C Tryz.f28.results.toList [(false, [.any])] (decOut sig)
noncomputable def c (p : Nat) : Code := codeAt (Tryz.f28.body.getD .skip) (pathN p)
noncomputable def o0 (a0_0 a0_1 a0_2 a0_3 a0_4 a0_5 a0_6 a1_0 a1_1 a1_2 a1_3 a1_4 a1_5 a1_6 : Int) : Option R :=
 bif (a0_0 != a1_0) then
  some (false)
 else
 (zq85.g N a0_1 a0_2 a1_1 a1_2).bind fun r1 =>
 bif (!r1) then
  some (false)
 else
 (zq83.g N a0_3 a0_4 a0_5 a0_6 a1_3 a1_4 a1_5 a1_6).bind fun r2 =>
 bif (!r2) then
  some (false)
 else
 some (true)
noncomputable def g (a0_0 a0_1 a0_2 a0_3 a0_4 a0_5 a0_6 a1_0 a1_1 a1_2 a1_3 a1_4 a1_5 a1_6 : Int) : Option R := o0 N a0_0 a0_1 a0_2 a0_3 a0_4 a0_5 a0_6 a1_0 a1_1 a1_2 a1_3 a1_4 a1_5 a1_6
theorem g.run (a0_0 a0_1 a0_2 a0_3 a0_4 a0_5 a0_6 a1_0 a1_1 a1_2 a1_3 a1_4 a1_5 a1_6 : Int) : runC C (O N) N (c 1) 1 (st0 [.agg [.int .i64 a0_0, .int .i64 a0_1, .int .i64 a0_2, .int .i64 a0_3, .int .i64 a0_4, .int .i64 a0_5, .int .i64 a0_6], .agg [.int .i64 a1_0, .int .i64 a1_1, .int .i64 a1_2, .int .i64 a1_3, .int .i64 a1_4, .int .i64 a1_5, .int .i64 a1_6]] [] : St D0) K0 = g N a0_0 a0_1 a0_2 a0_3 a0_4 a0_5 a0_6 a1_0 a1_1 a1_2 a1_3 a1_4 a1_5 a1_6 := by kernel_rfl
noncomputable def ent : Ent Tryz.prog T0 := mkEntC C tabOk0 mixed0 28 [(true, [.any, .any, .any, .any, .any, .any, .any]), (true, [.any, .any, .any, .any, .any, .any, .any])] sig (E N) Tryz.func28 (by kernel_rfl) [(false, [.any])] N (fun t => g N t.1 t.2.1 t.2.2.1 t.2.2.2.1 t.2.2.2.2.1 t.2.2.2.2.2.1 t.2.2.2.2.2.2.1 t.2.2.2.2.2.2.2.1 t.2.2.2.2.2.2.2.2.1 t.2.2.2.2.2.2.2.2.2.1 t.2.2.2.2.2.2.2.2.2.2.1 t.2.2.2.2.2.2.2.2.2.2.2.1 t.2.2.2.2.2.2.2.2.2.2.2.2.1 t.2.2.2.2.2.2.2.2.2.2.2.2.2) (fun _ => by kernel_rfl) (fun t => g.run N t.1 t.2.1 t.2.2.1 t.2.2.2.1 t.2.2.2.2.1 t.2.2.2.2.2.1 t.2.2.2.2.2.2.1 t.2.2.2.2.2.2.2.1 t.2.2.2.2.2.2.2.2.1 t.2.2.2.2.2.2.2.2.2.1 t.2.2.2.2.2.2.2.2.2.2.1 t.2.2.2.2.2.2.2.2.2.2.2.1 t.2.2.2.2.2.2.2.2.2.2.2.2.1 t.2.2.2.2.2.2.2.2.2.2.2.2.2)
end zq84
namespace zq88
variable (N : Nat)
abbrev R : Type := Int × Int
abbrev sig : Sig := ⟨[(true, 2)], [], [.int .i64, .int .i64], [(true, 2)], [], [.int .i64, .int .i64]⟩
noncomputable def C : Cfg D0 := ⟨Tryz.prog, T0, 15, 0, 11, 0, [], 0, false, []⟩
noncomputable def E (N : Nat) : List (Ent Tryz.prog T0) := []
noncomputable def O : Orc D0 R := orcOf (E N)
noncomputable def K0 : Ex → St D0 → Option R := exitK C Tryz.f52.results.toList [(true, [.any, .any])] (decOut sig)
noncomputable def c (p : Nat) : Code := codeAt (Tryz.f52.body.getD .skip) (pathN p)
noncomputable def o0 (N : Nat) (a0_0 a0_1 : Int) : Option R :=
 some (a0_0, a0_1)
noncomputable def g (a0_0 a0_1 : Int) : Option R := o0 N a0_0 a0_1
theorem g.run (a0_0 a0_1 : Int) : runC C (O N) N (c 1) 1 (st0 [.agg [.int .i64 a0_0, .int .i64 a0_1]] [] : St D0) K0 = g N a0_0 a0_1 := by kernel_rfl
noncomputable def ent : Ent Tryz.prog T0 := mkEntC C tabOk0 mixed0 52 [(true, [.any, .any])] sig (E N) Tryz.func52 (by kernel_rfl) [(true, [.any, .any])] N (fun t => g N t.1 t.2) (fun _ => by kernel_rfl) (fun t => g.run N t.1 t.2)
end zq88
namespace zq86
variable (N : Nat)
abbrev R : Type := Int × Int × Int × Int
abbrev sig : Sig := ⟨[(true, 4)], [], [.int .i64, .int .i64, .int .i64, .int .i64], [(true, 4)], [], [.int .i64, .int .i64, .int .i64, .int .i64]⟩
noncomputable def C : Cfg D0 := ⟨Tryz.prog, T0, 15, 0, 15, 0, [], 0, false, []⟩
noncomputable def E : List (Ent Tryz.prog T0) := [zq88.ent N]
noncomputable def O : Orc D0 R := orcOf (E N)
noncomputable def K0 : Ex → St D0 → Option R := exitK C Tryz.f53.results.toList [(true, [.any, .any, .any, .any])] (decOut sig)
noncomputable def c (p : Nat) : Code := codeAt (Tryz.f53.body.getD .skip) (pathN p)
noncomputable def o0 (a0_0 a0_1 a0_2 a0_3 : Int) : Option R :=
 (zq88.g N a0_0 a0_1).bind fun r1 =>
 some (r1.1, r1.2, a0_2, a0_3)
noncomputable def g (a0_0 a0_1 a0_2 a0_3 : Int) : Option R := o0 N a0_0 a0_1 a0_2 a0_3
theorem g.run (a0_0 a0_1 a0_2 a0_3 : Int) : runC C (O N) N (c 1) 1 (st0 [.agg [.int .i64 a0_0, .int .i64 a0_1, .int .i64 a0_2, .int .i64 a0_3]] [] : St D0) K0 = g N a0_0 a0_1 a0_2 a0_3 := by kernel_rfl
noncomputable def ent : Ent Tryz.prog T0 := mkEntC C tabOk0 mixed0 53 [(true, [.any, .any, .any, .any])] sig (E N) Tryz.func53 (by kernel_rfl) [(true, [.any, .any, .any, .any])] N (fun t => g N t.1 t.2.1 t.2.2.1 t.2.2.2) (fun _ => by kernel_rfl) (fun t => g.run N t.1 t.2.1 t.2.2.1 t.2.2.2)
end zq86
namespace zq87
variable (N : Nat)
abbrev R : Type := Int × Int × Int × Int × Int × Int × Int
abbrev sig : Sig := ⟨[(true, 7)], [], [.int .i64, .int .i64, .int .i64, .int .i64, .int .i64, .int .i64, .int .i64], [(true, 7)], [], [.int .i64, .int .i64, .int .i64, .int .i64, .int .i64, .int .i64, .int .i64]⟩
noncomputable def C : Cfg D0 := ⟨Tryz.prog, T0, 15, 0, 16, 0, [], 0, false, []⟩
noncomputable def E : List (Ent Tryz.prog T0) := [zq88.ent N, zq86.ent N]
noncomputable def O : Orc D0 R := orcOf (E N)
noncomputable def K0 : Ex → St D0 → Option R := exitK C Tryz.f27.results.toList [(true, [.any, .any, .any, .any, .any, .any, .any])] (decOut sig)
noncomputable def c (p : Nat) : Code := codeAt (Tryz.f27.body.getD .skip) (pathN p)
noncomputable def o0 (a0_0 a0_1 a0_2 a0_3 a0_4 a0_5 a0_6 : Int) : Option R :=
 (zq88.g N a0_1 a0_2).bind fun r1 =>
 (zq86.g N a0_3 a0_4 a0_5 a0_6).bind fun r2 =>
 some (a0_0, r1.1, r1.2, r2.1, r2.2.1, r2.2.2.1, r2.2.2.2)
noncomputable def g (a0_0 a0_1 a0_2 a0_3 a0_4 a0_5 a0_6 : Int) : Option R := o0 N a0_0 a0_1 a0_2 a0_3 a0_4 a0_5 a0_6
theorem g.run (a0_0 a0_1 a0_2 a0_3 a0_4 a0_5 a0_6 : Int) : runC C (O N) N (c 1) 1 (st0 [.agg [.int .i64 a0_0, .int .i64 a0_1, .int .i64 a0_2, .int .i64 a0_3, .int .i64 a0_4, .int .i64 a0_5, .int .i64 a0_6]] [] : St D0) K0 = g N a0_0 a0_1 a0_2 a0_3 a0_4 a0_5 a0_6 := by kernel_rfl
noncomputable def ent : Ent Tryz.prog T0 := mkEntC C tabOk0 mixed0 27 [(true, [.any, .any, .any, .any, .any, .any, .any])] sig (E N) Tryz.func27 (by kernel_rfl) [(true, [.any, .any, .any, .any, .any, .any, .any])] N (fun t => g N t.1 t.2.1 t.2.2.1 t.2.2.2.1 t.2.2.2.2.1 t.2.2.2.2.2.1 t.2.2.2.2.2.2) (fun _ => by kernel_rfl) (fun t => g.run N t.1 t.2.1 t.2.2.1 t.2.2.2.1 t.2.2.2.2.1 t.2.2.2.2.2.1 t.2.2.2.2.2.2)
end zq87
namespace zq8
variable (N : Nat)
abbrev R : Type := Int × Int × Int × Int × Int × Int × Int × Bool
abbrev sig : Sig := ⟨[(false, 1)], [], [.str], [(true, 7), (false, 1)], [], [.int .i64, .int .i64, .int .i64, .int .i64, .int .i64, .int .i64, .int .i64, .bool]⟩
noncomputable def C : Cfg D0 := ⟨Tryz.prog, T0, 109, 0, 15, 0, [], 256, false, []⟩
noncomputable def E : List (Ent Tryz.prog T0) := [zq72.ent N]
noncomputable def O : Orc D0 R := orcOf (E N)
noncomputable def K0 : Ex → St D0 → Option R := exitK C Tryz.f19.results.toList [(true, [.any, .any, .any, .any, .any, .any, .any]), (false, [.any])] (decOut sig)
noncomputable def c (p : Nat) : Code := codeAt (Tryz.f19.body.getD .skip) (pathN p)
noncomputable def o0 (a0 : ByteArray) : Option R :=
 (zq72.g N a0).bind fun r1 =>
 some (r1.2.1, r1.2.2.1, r1.2.2.2.1, r1.2.2.2.2.1, r1.2.2.2.2.2.1, r1.2.2.2.2.2.2.1, r1.2.2.2.2.2.2.2.1, r1.2.2.2.2.2.2.2.2)
noncomputable def g (a0 : ByteArray) : Option R := o0 N a0
theorem g.run (a0 : ByteArray) : runC C (O N) N (c 1) 1 (st0 [.one (.str a0)] [] : St D0) K0 = g N a0 := by kernel_rfl
noncomputable def ent : Ent Tryz.prog T0 := mkEntC C tabOk0 mixed0 19 [(false, [.any])] sig (E N) Tryz.func19 (by kernel_rfl) [(true, [.any, .any, .any, .any, .any, .any, .any]), (false, [.any])] N (fun t => g N t) (fun _ => by kernel_rfl) (fun t => g.run N t)
end zq8
namespace zq99
variable (N : Nat)
abbrev R : Type := Int × Int × Int × Int × Int × Int × Int × Bool
abbrev sig : Sig := ⟨[(false, 1)], [], [.str], [(true, 7), (false, 1)], [], [.int .i64, .int .i64, .int .i64, .int .i64, .int .i64, .int .i64, .int .i64, .bool]⟩
noncomputable def C : Cfg D0 := ⟨Tryz.prog, T0, 16477, 0, 17, 0, [], 8448, false, []⟩
noncomputable def E : List (Ent Tryz.prog T0) := [zq123.ent N]
noncomputable def O : Orc D0 R := orcOf (E N)
noncomputable def K0 : Ex → St D0 → Option R := exitK C Tryz.f21.results.toList [(true, [.any, .any, .any, .any, .any, .any, .any]), (false, [.any])] (decOut sig)
noncomputable def c (p : Nat) : Code := codeAt (Tryz.f21.body.getD .skip) (pathN p)
noncomputable def o0 (a0 : ByteArray) : Option R :=
 (zq123.g N a0).bind fun r1 =>
 bif (!r1.2.2.2.2.2.2.2.2) then
  some (0, 0, 0, 0, 0, 0, 0, false)
 else
 some (r1.1, r1.2.1, r1.2.2.1, r1.2.2.2.1, r1.2.2.2.2.1, r1.2.2.2.2.2.1, r1.2.2.2.2.2.2.1, true)
noncomputable def g (a0 : ByteArray) : Option R := o0 N a0
theorem g.run (a0 : ByteArray) : runC C (O N) N (c 1) 1 (st0 [.one (.str a0)] [] : St D0) K0 = g N a0 := by kernel_rfl
noncomputable def ent : Ent Tryz.prog T0 := mkEntC C tabOk0 mixed0 21 [(false, [.any])] sig (E N) Tryz.func21 (by kernel_rfl) [(true, [.any, .any, .any, .any, .any, .any, .any]), (false, [.any])] N (fun t => g N t) (fun _ => by kernel_rfl) (fun t => g.run N t)
end zq99
namespace zq30
variable (N : Nat)
abbrev R : Type := List ByteArray × Bool
abbrev sig : Sig := ⟨[(false, 1)], [], [.str], [(false, 1), (false, 1)], [], [.sl true 9, .bool]⟩
noncomputable def C : Cfg D0 := ⟨Tryz.prog, T0, 93, 0, 15, 0, [], 256, false, []⟩
noncomputable def E : List (Ent Tryz.prog T0) := [zq72.ent N]
noncomputable def O : Orc D0 R := orcOf (E N)
noncomputable def K0 : Ex → St D0 → Option R := exitK C Tryz.f17.results.toList [(false, [.own 9]), (false, [.any])] (decOut sig)
noncomputable def c (p : Nat) : Code := codeAt (Tryz.f17.body.getD .skip) (pathN p)
noncomputable def o0 (a0 : ByteArray) : Option R :=
 (zq72.g N a0).bind fun r1 =>
 some (r1.1, r1.2.2.2.2.2.2.2.2)
noncomputable def g (a0 : ByteArray) : Option R := o0 N a0
theorem g.run (a0 : ByteArray) : runC C (O N) N (c 1) 1 (st0 [.one (.str a0)] [] : St D0) K0 = g N a0 := by kernel_rfl
noncomputable def ent : Ent Tryz.prog T0 := mkEntC C tabOk0 mixed0 17 [(false, [.any])] sig (E N) Tryz.func17 (by kernel_rfl) [(false, [.own 9]), (false, [.any])] N (fun t => g N t) (fun _ => by kernel_rfl) (fun t => g.run N t)
end zq30
namespace zq111
variable (N : Nat)
abbrev R : Type := List ByteArray × Bool
abbrev sig : Sig := ⟨[(false, 1)], [], [.str], [(false, 1), (false, 1)], [], [.sl true 9, .bool]⟩
noncomputable def C : Cfg D0 := ⟨Tryz.prog, T0, 109, 0, 15, 0, [], 256, false, []⟩
noncomputable def E : List (Ent Tryz.prog T0) := [zq123.ent N]
noncomputable def O : Orc D0 R := orcOf (E N)
noncomputable def K0 : Ex → St D0 → Option R := exitK C Tryz.f18.results.toList [(false, [.own 9]), (false, [.any])] (decOut sig)
noncomputable def c (p : Nat) : Code := codeAt (Tryz.f18.body.getD .skip) (pathN p)
noncomputable def o0 (a0 : ByteArray) : Option R :=
 (zq123.g N a0).bind fun r1 =>
 some (r1.2.2.2.2.2.2.2.1, r1.2.2.2.2.2.2.2.2)
noncomputable def g (a0 : ByteArray) : Option R := o0 N a0
theorem g.run (a0 : ByteArray) : runC C (O N) N (c 1) 1 (st0 [.one (.str a0)] [] : St D0) K0 = g N a0 := by kernel_rfl
noncomputable def ent : Ent Tryz.prog T0 := mkEntC C tabOk0 mixed0 18 [(false, [.any])] sig (E N) Tryz.func18 (by kernel_rfl) [(false, [.own 9]), (false, [.any])] N (fun t => g N t) (fun _ => by kernel_rfl) (fun t => g.run N t)
end zq111
namespace zq11
variable (N : Nat)
abbrev R : Type := List Int × Bool
abbrev QQ : Type := St D0 → Option R
abbrev sig : Sig := ⟨[(false, 1)], [], [.str], [(false, 1), (false, 1)], [], [.sl true 3, .bool]⟩
noncomputable def C : Cfg D0 := ⟨Tryz.prog, T0, 2155480029, 0, 39, 0, [(250, [7, 19, 20, 21], []), (32050, [7, 8, 19, 20, 21, 31], [])], 9193981952, false, []⟩
noncomputable def E : List (Ent Tryz.prog T0) := [zq72.ent N]
noncomputable def O : Orc D0 R := orcOf (E N)
noncomputable def K0 : Ex → QQ := exitK C Tryz.f20.results.toList [(false, [.own 3]), (false, [.any])] (decOut sig)
noncomputable def c (p : Nat) : Code := codeAt (Tryz.f20.body.getD .skip) (pathN p)
abbrev t1 : Type := (List Int) → (List ByteArray) → Int → Int → Option R
abbrev t2 : Type := (List Int) → Int → (List ByteArray) → Int → Int → Bool → Option R
noncomputable def s1 (v0 : List Int) (v1 : List ByteArray) (v2 v3 : Int) : St D0 := mkSt [(7, .one (.sl true 3 v0)), (19, .one (.sl true 9 v1)), (20, .one (.int .i64 v2)), (21, .one (.int .i64 v3))] []
noncomputable def s2 (v0 : List Int) (v1 : Int) (v2 : List ByteArray) (v3 v4 : Int) (v5 : Bool) : St D0 := mkSt [(7, .one (.sl true 3 v0)), (8, .one (.int .i64 v1)), (19, .one (.sl true 9 v2)), (20, .one (.int .i64 v3)), (21, .one (.int .i64 v4)), (31, .one (.bool v5))] []
noncomputable def K32051 (Kn250 : QQ) : Ex → QQ := (blockK 1 ((fun up => (onN (tk C (O N) N c 4006 4007 up) up)) ((fun up => (onN (fun s => C.tidy 250 s ((onN Kn250 up) .normal)) (onN Kn250 up))) (blockK 0 (onN (tk C (O N) N c 62 63 K0) K0)))))
noncomputable def o2 (N : Nat) (v0 : List Int) (v1 : Int) (v2 : List ByteArray) (v3 v4 : Int) (v5 : Bool) (c1 : t1) : Option R :=
 bif v5 then
  bif (Nat.blt (v0.length + ([(w64 (v1 + 1))] : List Int).length) 17592186044416) then
   c1 (v0 ++ ([(w64 (v1 + 1))] : List Int)) v2 v3 (w64 (v4 + 1))
  else
  none
 else
 c1 v0 v2 v3 (w64 (v4 + 1))
noncomputable def d2 (v0 : List Int) (v1 : Int) (v2 : List ByteArray) (v3 v4 : Int) (v5 : Bool) (c1 : t1) : Option R := o2 N v0 v1 v2 v3 v4 v5 c1
theorem d2.run (Kn250 : QQ) (v0 : List Int) (v1 : Int) (v2 : List ByteArray) (v3 v4 : Int) (v5 : Bool) : runC C (O N) N (c 32051) 32051 (s2 v0 v1 v2 v3 v4 v5) (K32051 N Kn250) = d2 N v0 v1 v2 v3 v4 v5 (Kn250 <| s1 · · · ·) := by kernel_rfl
noncomputable def K500 (Kn250 : QQ) : Ex → QQ := ((fun up => (onN (fun s => C.tidy 250 s ((onN Kn250 up) .normal)) (onN Kn250 up))) (blockK 0 (onN (tk C (O N) N c 62 63 K0) K0)))
noncomputable def o1 (N : Nat) (v0 : List Int) (v1 : List ByteArray) (v2 v3 : Int) (c2 : t2) : Option R :=
 bif (decide (v3 < v2)) then
  bif (decide (0 ≤ v3)) then
   bif (decide (v3 < (v1.length : Int))) then
    (v1[(v3 : Int).toNat]?).bind fun x1 =>
    bif (x1.toList == (⟨#[110, 111]⟩ : ByteArray).toList) then
     c2 v0 v3 v1 v2 v3 true
    else
    c2 v0 v3 v1 v2 v3 (x1.toList == (⟨#[119, 104, 97, 116]⟩ : ByteArray).toList)
   else
   none
  else
  none
 else
 some (v0, true)
theorem o1.run (Kn250 : QQ) (H32051 : Code) (v0 : List Int) (v1 : List ByteArray) (v2 v3 : Int) : runC C (O N) N (.seq (c 1000) (.seq (c 2002) (.seq (.block 1 (.seq (c 16024) (.seq (c 32050) H32051))) (c 4007)))) 500 (s1 v0 v1 v2 v3) ((fun up => (onN (fun s => C.tidy 250 s ((onN Kn250 up) .normal)) (onN Kn250 up))) (blockK 0 (onN (tk C (O N) N c 62 63 K0) K0))) = o1 N v0 v1 v2 v3 ((fun w0 w1 w2 w3 w4 w5 => runC C (O N) N H32051 32051 (s2 w0 w1 w2 w3 w4 w5) (blockK 1 ((fun up => (onN (tk C (O N) N c 4006 4007 up) up)) ((fun up => (onN (fun s => C.tidy 250 s ((onN Kn250 up) .normal)) (onN Kn250 up))) (blockK 0 (onN (tk C (O N) N c 62 63 K0) K0))))))) := by kernel_rfl
noncomputable def d1 (v0 : List Int) (v1 : List ByteArray) (v2 v3 : Int) (c1 : t1) : Option R := o1 N v0 v1 v2 v3 (d2 N · · · · · · c1)
theorem c500_1 : (c 500) = (.seq (c 1000) (.seq (c 2002) (.seq (.block 1 (.seq (c 16024) (.seq (c 32050) (c 32051)))) (c 4007)))) := by kernel_rfl
theorem d1.run (Kn250 : QQ) (v0 : List Int) (v1 : List ByteArray) (v2 v3 : Int) : runC C (O N) N (c 500) 500 (s1 v0 v1 v2 v3) (K500 N Kn250) = d1 N v0 v1 v2 v3 (Kn250 <| s1 · · · ·) := by
  rw [c500_1]; unfold d1; exact (o1.run N Kn250 (c 32051) v0 v1 v2 v3).trans (congr rfl (fx6 (d2.run N Kn250)))
noncomputable def K250 : Ex → QQ := (blockK 0 (onN (tk C (O N) N c 62 63 K0) K0))
noncomputable def l1 (N : Nat) : Nat → (List Int) → (List ByteArray) → Int → Int → Option R
  | 0, _, _, _, _ => none
  | n + 1, v0, v1, v2, v3 => d1 N v0 v1 v2 v3 (l1 N n · · · ·)
theorem loop250 (N : Nat) : ∀ n, (∀ (v0 : List Int) (v1 : List ByteArray) (v2 v3 : Int), iter (loopF C (O N) N (c 500) 250) n (s1 v0 v1 v2 v3) (K250 N) = l1 N n v0 v1 v2 v3)
  | 0 => (fun v0 v1 v2 v3 => rfl)
  | n + 1 => (fun v0 v1 v2 v3 => (d1.run N (fun s => iter (loopF C (O N) N (c 500) 250) n s (K250 N)) v0 v1 v2 v3).trans (show _ = d1 N v0 v1 v2 v3 (l1 N n · · · ·) from (congr rfl (fx4 ((loop250 N n))))))
noncomputable def o0 (a0 : ByteArray) (c1 : t1) : Option R :=
 (zq72.g N a0).bind fun r1 =>
 bif (!r1.2.2.2.2.2.2.2.2) then
  some (([] : List Int), false)
 else
 c1 ([] : List Int) r1.1 (r1.1.length : Int) 0
theorem o0.run (H500 : Code) (a0 : ByteArray) : runC C (O N) N (.seq (c 2) (.seq (c 6) (.seq (c 14) (.seq (c 30) (.seq (.seq (c 124) (.block 0 (.loop H500))) (c 63)))))) 1 (st0 [.one (.str a0)] [] : St D0) K0 = o0 N a0 ((fun w0 w1 w2 w3 => iter (loopF C (O N) N H500 250) N (s1 w0 w1 w2 w3) (blockK 0 (onN (tk C (O N) N c 62 63 K0) K0)))) := by kernel_rfl
noncomputable def g (a0 : ByteArray) : Option R := o0 N a0 (l1 N N · · · ·)
theorem c1_0 : (c 1) = (.seq (c 2) (.seq (c 6) (.seq (c 14) (.seq (c 30) (.seq (.seq (c 124) (.block 0 (.loop (c 500)))) (c 63)))))) := by kernel_rfl
theorem g.run (a0 : ByteArray) : runC C (O N) N (c 1) 1 (st0 [.one (.str a0)] [] : St D0) K0 = g N a0 := by
  rw [c1_0]; unfold g; exact (o0.run N (c 500) a0).trans (congr rfl (fx4 ((loop250 N N))))
noncomputable def ent : Ent Tryz.prog T0 := mkEntC C tabOk0 mixed0 20 [(false, [.any])] sig (E N) Tryz.func20 (by kernel_rfl) [(false, [.own 3]), (false, [.any])] N (fun t => g N t) (fun _ => by kernel_rfl) (fun t => g.run N t)
end zq11
namespace zq102
variable (N : Nat)
abbrev R : Type := List Int × Bool
abbrev QQ : Type := St D0 → Option R
abbrev sig : Sig := ⟨[(false, 1)], [], [.str], [(false, 1), (false, 1)], [], [.sl true 3, .bool]⟩
noncomputable def C : Cfg D0 := ⟨Tryz.prog, T0, 269419501, 0, 37, 0, [(122, [6, 7, 16, 17, 18], []), (15666, [6, 7, 8, 16, 17, 18, 28], [])], 1149241344, false, []⟩
noncomputable def E : List (Ent Tryz.prog T0) := [zq123.ent N]
noncomputable def O : Orc D0 R := orcOf (E N)
noncomputable def K0 : Ex → QQ := exitK C Tryz.f22.results.toList [(false, [.own 3]), (false, [.any])] (decOut sig)
noncomputable def c (p : Nat) : Code := codeAt (Tryz.f22.body.getD .skip) (pathN p)
abbrev t1 : Type := Bool → (List ByteArray) → Int → Int → Option R
abbrev t2 : Type := Bool → Int → (List ByteArray) → Int → Int → Bool → Option R
abbrev t3 : Type := Bool → (List Int) → (List ByteArray) → Int → Int → Option R
abbrev t4 : Type := Bool → (List Int) → Int → (List ByteArray) → Int → Int → Bool → Option R
noncomputable def s1 (v0 : Bool) (v1 : List ByteArray) (v2 v3 : Int) : St D0 := mkSt [(6, .one (.bool v0)), (7, .one (.nl)), (16, .one (.sl true 9 v1)), (17, .one (.int .i64 v2)), (18, .one (.int .i64 v3))] []
noncomputable def s2 (v0 : Bool) (v1 : Int) (v2 : List ByteArray) (v3 v4 : Int) (v5 : Bool) : St D0 := mkSt [(6, .one (.bool v0)), (7, .one (.nl)), (8, .one (.int .i64 v1)), (16, .one (.sl true 9 v2)), (17, .one (.int .i64 v3)), (18, .one (.int .i64 v4)), (28, .one (.bool v5))] []
noncomputable def s3 (v0 : Bool) (v1 : List Int) (v2 : List ByteArray) (v3 v4 : Int) : St D0 := mkSt [(6, .one (.bool v0)), (7, .one (.sl true 3 v1)), (16, .one (.sl true 9 v2)), (17, .one (.int .i64 v3)), (18, .one (.int .i64 v4))] []
noncomputable def s4 (v0 : Bool) (v1 : List Int) (v2 : Int) (v3 : List ByteArray) (v4 v5 : Int) (v6 : Bool) : St D0 := mkSt [(6, .one (.bool v0)), (7, .one (.sl true 3 v1)), (8, .one (.int .i64 v2)), (16, .one (.sl true 9 v3)), (17, .one (.int .i64 v4)), (18, .one (.int .i64 v5)), (28, .one (.bool v6))] []
noncomputable def K15667 (Kn122 : QQ) : Ex → QQ := (blockK 1 ((fun up => (onN (tk C (O N) N c 1958 1959 up) up)) ((fun up => (onN (fun s => C.tidy 122 s ((onN Kn122 up) .normal)) (onN Kn122 up))) (blockK 0 (onN (tk C (O N) N c 30 31 K0) K0)))))
noncomputable def o2 (N : Nat) (v0 : Bool) (v1 : Int) (v2 : List ByteArray) (v3 v4 : Int) (v5 : Bool) (c3 : t3) (c1 : t1) : Option R :=
 bif v5 then
  bif (Nat.blt (([] : List Int).length + ([(w64 (v1 + 1))] : List Int).length) 17592186044416) then
   c3 v0 (([] : List Int) ++ ([(w64 (v1 + 1))] : List Int)) v2 v3 (w64 (v4 + 1))
  else
  none
 else
 c1 v0 v2 v3 (w64 (v4 + 1))
noncomputable def d2 (v0 : Bool) (v1 : Int) (v2 : List ByteArray) (v3 v4 : Int) (v5 : Bool) (c1 : t1) (c3 : t3) : Option R := o2 N v0 v1 v2 v3 v4 v5 c3 c1
theorem d2.run (Kn122 : QQ) (v0 : Bool) (v1 : Int) (v2 : List ByteArray) (v3 v4 : Int) (v5 : Bool) : runC C (O N) N (c 15667) 15667 (s2 v0 v1 v2 v3 v4 v5) (K15667 N Kn122) = d2 N v0 v1 v2 v3 v4 v5 (Kn122 <| s1 · · · ·) (Kn122 <| s3 · · · · ·) := by kernel_rfl
noncomputable def K244 (Kn122 : QQ) : Ex → QQ := ((fun up => (onN (fun s => C.tidy 122 s ((onN Kn122 up) .normal)) (onN Kn122 up))) (blockK 0 (onN (tk C (O N) N c 30 31 K0) K0)))
noncomputable def o1 (N : Nat) (v0 : Bool) (v1 : List ByteArray) (v2 v3 : Int) (c2 : t2) : Option R :=
 bif (decide (v3 < v2)) then
  bif (decide (0 ≤ v3)) then
   bif (decide (v3 < (v1.length : Int))) then
    (v1[(v3 : Int).toNat]?).bind fun x1 =>
    bif (x1.toList == (⟨#[110, 111]⟩ : ByteArray).toList) then
     c2 v0 v3 v1 v2 v3 true
    else
    c2 v0 v3 v1 v2 v3 (x1.toList == (⟨#[119, 104, 97, 116]⟩ : ByteArray).toList)
   else
   none
  else
  none
 else
 some (([] : List Int), v0)
theorem o1.run (Kn122 : QQ) (H15667 : Code) (v0 : Bool) (v1 : List ByteArray) (v2 v3 : Int) : runC C (O N) N (.seq (c 488) (.seq (c 978) (.seq (.block 1 (.seq (c 7832) (.seq (c 15666) H15667))) (c 1959)))) 244 (s1 v0 v1 v2 v3) ((fun up => (onN (fun s => C.tidy 122 s ((onN Kn122 up) .normal)) (onN Kn122 up))) (blockK 0 (onN (tk C (O N) N c 30 31 K0) K0))) = o1 N v0 v1 v2 v3 ((fun w0 w1 w2 w3 w4 w5 => runC C (O N) N H15667 15667 (s2 w0 w1 w2 w3 w4 w5) (blockK 1 ((fun up => (onN (tk C (O N) N c 1958 1959 up) up)) ((fun up => (onN (fun s => C.tidy 122 s ((onN Kn122 up) .normal)) (onN Kn122 up))) (blockK 0 (onN (tk C (O N) N c 30 31 K0) K0))))))) := by kernel_rfl
noncomputable def d1 (v0 : Bool) (v1 : List ByteArray) (v2 v3 : Int) (c1 : t1) (c3 : t3) : Option R := o1 N v0 v1 v2 v3 (d2 N · · · · · · c1 c3)
theorem c244_1 : (c 244) = (.seq (c 488) (.seq (c 978) (.seq (.block 1 (.seq (c 7832) (.seq (c 15666) (c 15667)))) (c 1959)))) := by kernel_rfl
theorem d1.run (Kn122 : QQ) (v0 : Bool) (v1 : List ByteArray) (v2 v3 : Int) : runC C (O N) N (c 244) 244 (s1 v0 v1 v2 v3) (K244 N Kn122) = d1 N v0 v1 v2 v3 (Kn122 <| s1 · · · ·) (Kn122 <| s3 · · · · ·) := by
  rw [c244_1]; unfold d1; exact (o1.run N Kn122 (c 15667) v0 v1 v2 v3).trans (congr rfl (fx6 (d2.run N Kn122)))
noncomputable def o4 (N : Nat) (v0 : Bool) (v1 : List Int) (v2 : Int) (v3 : List ByteArray) (v4 v5 : Int) (v6 : Bool) (c3 : t3) : Option R :=
 bif v6 then
  bif (Nat.blt (v1.length + ([(w64 (v2 + 1))] : List Int).length) 17592186044416) then
   c3 v0 (v1 ++ ([(w64 (v2 + 1))] : List Int)) v3 v4 (w64 (v5 + 1))
  else
  none
 else
 c3 v0 v1 v3 v4 (w64 (v5 + 1))
noncomputable def d4 (v0 : Bool) (v1 : List Int) (v2 : Int) (v3 : List ByteArray) (v4 v5 : Int) (v6 : Bool) (c3 : t3) : Option R := o4 N v0 v1 v2 v3 v4 v5 v6 c3
theorem d4.run (Kn122 : QQ) (v0 : Bool) (v1 : List Int) (v2 : Int) (v3 : List ByteArray) (v4 v5 : Int) (v6 : Bool) : runC C (O N) N (c 15667) 15667 (s4 v0 v1 v2 v3 v4 v5 v6) (K15667 N Kn122) = d4 N v0 v1 v2 v3 v4 v5 v6 (Kn122 <| s3 · · · · ·) := by kernel_rfl
noncomputable def o3 (N : Nat) (v0 : Bool) (v1 : List Int) (v2 : List ByteArray) (v3 v4 : Int) (c4 : t4) : Option R :=
 bif (decide (v4 < v3)) then
  bif (decide (0 ≤ v4)) then
   bif (decide (v4 < (v2.length : Int))) then
    (v2[(v4 : Int).toNat]?).bind fun x1 =>
    bif (x1.toList == (⟨#[110, 111]⟩ : ByteArray).toList) then
     c4 v0 v1 v4 v2 v3 v4 true
    else
    c4 v0 v1 v4 v2 v3 v4 (x1.toList == (⟨#[119, 104, 97, 116]⟩ : ByteArray).toList)
   else
   none
  else
  none
 else
 some (v1, v0)
theorem o3.run (Kn122 : QQ) (H15667 : Code) (v0 : Bool) (v1 : List Int) (v2 : List ByteArray) (v3 v4 : Int) : runC C (O N) N (.seq (c 488) (.seq (c 978) (.seq (.block 1 (.seq (c 7832) (.seq (c 15666) H15667))) (c 1959)))) 244 (s3 v0 v1 v2 v3 v4) ((fun up => (onN (fun s => C.tidy 122 s ((onN Kn122 up) .normal)) (onN Kn122 up))) (blockK 0 (onN (tk C (O N) N c 30 31 K0) K0))) = o3 N v0 v1 v2 v3 v4 ((fun w0 w1 w2 w3 w4 w5 w6 => runC C (O N) N H15667 15667 (s4 w0 w1 w2 w3 w4 w5 w6) (blockK 1 ((fun up => (onN (tk C (O N) N c 1958 1959 up) up)) ((fun up => (onN (fun s => C.tidy 122 s ((onN Kn122 up) .normal)) (onN Kn122 up))) (blockK 0 (onN (tk C (O N) N c 30 31 K0) K0))))))) := by kernel_rfl
noncomputable def d3 (v0 : Bool) (v1 : List Int) (v2 : List ByteArray) (v3 v4 : Int) (c3 : t3) : Option R := o3 N v0 v1 v2 v3 v4 (d4 N · · · · · · · c3)
theorem c244_3 : (c 244) = (.seq (c 488) (.seq (c 978) (.seq (.block 1 (.seq (c 7832) (.seq (c 15666) (c 15667)))) (c 1959)))) := by kernel_rfl
theorem d3.run (Kn122 : QQ) (v0 : Bool) (v1 : List Int) (v2 : List ByteArray) (v3 v4 : Int) : runC C (O N) N (c 244) 244 (s3 v0 v1 v2 v3 v4) (K244 N Kn122) = d3 N v0 v1 v2 v3 v4 (Kn122 <| s3 · · · · ·) := by
  rw [c244_3]; unfold d3; exact (o3.run N Kn122 (c 15667) v0 v1 v2 v3 v4).trans (congr rfl (fx7 (d4.run N Kn122)))
noncomputable def K122 : Ex → QQ := (blockK 0 (onN (tk C (O N) N c 30 31 K0) K0))
mutual
noncomputable def l1 (N : Nat) : Nat → Bool → (List ByteArray) → Int → Int → Option R
  | 0, _, _, _, _ => none
  | n + 1, v0, v1, v2, v3 => d1 N v0 v1 v2 v3 (l1 N n · · · ·) (l3 N n · · · · ·)
noncomputable def l3 (N : Nat) : Nat → Bool → (List Int) → (List ByteArray) → Int → Int → Option R
  | 0, _, _, _, _, _ => none
  | n + 1, v0, v1, v2, v3, v4 => d3 N v0 v1 v2 v3 v4 (l3 N n · · · · ·)
end
theorem loop122 (N : Nat) : ∀ n, (∀ (v0 : Bool) (v1 : List ByteArray) (v2 v3 : Int), iter (loopF C (O N) N (c 244) 122) n (s1 v0 v1 v2 v3) (K122 N) = l1 N n v0 v1 v2 v3) ∧ (∀ (v0 : Bool) (v1 : List Int) (v2 : List ByteArray) (v3 v4 : Int), iter (loopF C (O N) N (c 244) 122) n (s3 v0 v1 v2 v3 v4) (K122 N) = l3 N n v0 v1 v2 v3 v4)
  | 0 => ⟨(fun v0 v1 v2 v3 => rfl), (fun v0 v1 v2 v3 v4 => rfl)⟩
  | n + 1 => ⟨(fun v0 v1 v2 v3 => (d1.run N (fun s => iter (loopF C (O N) N (c 244) 122) n s (K122 N)) v0 v1 v2 v3).trans (show _ = d1 N v0 v1 v2 v3 (l1 N n · · · ·) (l3 N n · · · · ·) from (congr (congr rfl (fx4 ((loop122 N n).1))) (fx5 ((loop122 N n).2))))), (fun v0 v1 v2 v3 v4 => (d3.run N (fun s => iter (loopF C (O N) N (c 244) 122) n s (K122 N)) v0 v1 v2 v3 v4).trans (show _ = d3 N v0 v1 v2 v3 v4 (l3 N n · · · · ·) from (congr rfl (fx5 ((loop122 N n).2)))))⟩
noncomputable def o0 (a0 : ByteArray) (c1 : t1) : Option R :=
 (zq123.g N a0).bind fun r1 =>
 c1 r1.2.2.2.2.2.2.2.2 r1.2.2.2.2.2.2.2.1 (r1.2.2.2.2.2.2.2.1.length : Int) 0
theorem o0.run (H244 : Code) (a0 : ByteArray) : runC C (O N) N (.seq (c 2) (.seq (c 6) (.seq (c 14) (.seq (.seq (c 60) (.block 0 (.loop H244))) (c 31))))) 1 (st0 [.one (.str a0)] [] : St D0) K0 = o0 N a0 ((fun w0 w1 w2 w3 => iter (loopF C (O N) N H244 122) N (s1 w0 w1 w2 w3) (blockK 0 (onN (tk C (O N) N c 30 31 K0) K0)))) := by kernel_rfl
noncomputable def g (a0 : ByteArray) : Option R := o0 N a0 (l1 N N · · · ·)
theorem c1_0 : (c 1) = (.seq (c 2) (.seq (c 6) (.seq (c 14) (.seq (.seq (c 60) (.block 0 (.loop (c 244)))) (c 31))))) := by kernel_rfl
theorem g.run (a0 : ByteArray) : runC C (O N) N (c 1) 1 (st0 [.one (.str a0)] [] : St D0) K0 = g N a0 := by
  rw [c1_0]; unfold g; exact (o0.run N (c 244) a0).trans (congr rfl (fx4 ((loop122 N N).1)))
noncomputable def ent : Ent Tryz.prog T0 := mkEntC C tabOk0 mixed0 22 [(false, [.any])] sig (E N) Tryz.func22 (by kernel_rfl) [(false, [.own 3]), (false, [.any])] N (fun t => g N t) (fun _ => by kernel_rfl) (fun t => g.run N t)
end zq102
namespace zq91
variable (N : Nat)
abbrev R : Type := Bool
abbrev QQ : Type := St D0 → Option R
abbrev sig : Sig := ⟨[(false, 1), (false, 1)], [], [.sl false 9, .sl false 9], [(false, 1)], [], [.bool]⟩
noncomputable def C : Cfg D0 := ⟨Tryz.prog, T0, 16806963, 0, 26, 0, [(58, [0, 1, 12, 13], [])], 3344704, false, []⟩
noncomputable def E (N : Nat) : List (Ent Tryz.prog T0) := []
noncomputable def O : Orc D0 R := orcOf (E N)
noncomputable def K0 : Ex → QQ := exitK C Tryz.f23.results.toList [(false, [.any])] (decOut sig)
noncomputable def c (p : Nat) : Code := codeAt (Tryz.f23.body.getD .skip) (pathN p)
abbrev t1 : Type := (List ByteArray) → (List ByteArray) → Int → Int → Option R
noncomputable def s1 (v0 v1 : List ByteArray) (v2 v3 : Int) : St D0 := mkSt [(0, .one (.sl false 9 v0)), (1, .one (.sl false 9 v1)), (12, .one (.int .i64 v2)), (13, .one (.int .i64 v3))] []
noncomputable def K116 (Kn58 : QQ) : Ex → QQ := ((fun up => (onN (fun s => C.tidy 58 s ((onN Kn58 up) .normal)) (onN Kn58 up))) (blockK 0 (onN (tk C (O N) N c 14 15 K0) K0)))
noncomputable def o1 (N : Nat) (v0 v1 : List ByteArray) (v2 v3 : Int) (c1 : t1) : Option R :=
 bif (decide (v3 < v2)) then
  bif (decide (0 ≤ v3)) then
   bif (decide (v3 < (v0.length : Int))) then
    (v0[(v3 : Int).toNat]?).bind fun x1 =>
    bif (decide (0 ≤ v3)) then
     bif (decide (v3 < (v1.length : Int))) then
      (v1[(v3 : Int).toNat]?).bind fun x2 =>
      bif (!(x1.toList == x2.toList)) then
       some (false)
      else
      c1 v0 v1 v2 (w64 (v3 + 1))
     else
     none
    else
    none
   else
   none
  else
  none
 else
 some (true)
noncomputable def d1 (v0 v1 : List ByteArray) (v2 v3 : Int) (c1 : t1) : Option R := o1 N v0 v1 v2 v3 c1
theorem d1.run (Kn58 : QQ) (v0 v1 : List ByteArray) (v2 v3 : Int) : runC C (O N) N (c 116) 116 (s1 v0 v1 v2 v3) (K116 N Kn58) = d1 N v0 v1 v2 v3 (Kn58 <| s1 · · · ·) := by kernel_rfl
noncomputable def K58 : Ex → QQ := (blockK 0 (onN (tk C (O N) N c 14 15 K0) K0))
noncomputable def l1 (N : Nat) : Nat → (List ByteArray) → (List ByteArray) → Int → Int → Option R
  | 0, _, _, _, _ => none
  | n + 1, v0, v1, v2, v3 => d1 N v0 v1 v2 v3 (l1 N n · · · ·)
theorem loop58 (N : Nat) : ∀ n, (∀ (v0 v1 : List ByteArray) (v2 v3 : Int), iter (loopF C (O N) N (c 116) 58) n (s1 v0 v1 v2 v3) (K58 N) = l1 N n v0 v1 v2 v3)
  | 0 => (fun v0 v1 v2 v3 => rfl)
  | n + 1 => (fun v0 v1 v2 v3 => (d1.run N (fun s => iter (loopF C (O N) N (c 116) 58) n s (K58 N)) v0 v1 v2 v3).trans (show _ = d1 N v0 v1 v2 v3 (l1 N n · · · ·) from (congr rfl (fx4 ((loop58 N n))))))
noncomputable def o0 (N : Nat) (a0 a1 : List ByteArray) (c1 : t1) : Option R :=
 bif ((a0.length : Int) != (a1.length : Int)) then
  some (false)
 else
 c1 a0 a1 (a0.length : Int) 0
theorem o0.run (H116 : Code) (a0 a1 : List ByteArray) : runC C (O N) N (.seq (c 2) (.seq (c 6) (.seq (.seq (c 28) (.block 0 (.loop H116))) (c 15)))) 1 (st0 [.one (.sl false 9 a0), .one (.sl false 9 a1)] [] : St D0) K0 = o0 N a0 a1 ((fun w0 w1 w2 w3 => iter (loopF C (O N) N H116 58) N (s1 w0 w1 w2 w3) (blockK 0 (onN (tk C (O N) N c 14 15 K0) K0)))) := by kernel_rfl
noncomputable def g (a0 a1 : List ByteArray) : Option R := o0 N a0 a1 (l1 N N · · · ·)
theorem c1_0 : (c 1) = (.seq (c 2) (.seq (c 6) (.seq (.seq (c 28) (.block 0 (.loop (c 116)))) (c 15)))) := by kernel_rfl
theorem g.run (a0 a1 : List ByteArray) : runC C (O N) N (c 1) 1 (st0 [.one (.sl false 9 a0), .one (.sl false 9 a1)] [] : St D0) K0 = g N a0 a1 := by
  rw [c1_0]; unfold g; exact (o0.run N (c 116) a0 a1).trans (congr rfl (fx4 ((loop58 N N))))
noncomputable def ent : Ent Tryz.prog T0 := mkEntC C tabOk0 mixed0 23 [(false, [.ro 9]), (false, [.ro 9])] sig (E N) Tryz.func23 (by kernel_rfl) [(false, [.any])] N (fun t => g N t.1 t.2) (fun _ => by kernel_rfl) (fun t => g.run N t.1 t.2)
end zq91
namespace zq89
variable (N : Nat)
abbrev R : Type := Bool
abbrev sig : Sig := ⟨[], [], [], [(false, 1)], [], [.bool]⟩
noncomputable def C : Cfg D0 := ⟨Tryz.prog, T0, 1, 0, 1, 0, [], 0, false, []⟩
noncomputable def E (N : Nat) : List (Ent Tryz.prog T0) := []
noncomputable def O : Orc D0 R := orcOf (E N)
noncomputable def K0 : Ex → St D0 → Option R := exitK C Tryz.f16.results.toList [(false, [.any])] (decOut sig)
noncomputable def c (p : Nat) : Code := codeAt (Tryz.f16.body.getD .skip) (pathN p)
noncomputable def o0 (N : Nat) : Option R :=
 some (true)
noncomputable def g : Option R := o0 N
theorem g.run : runC C (O N) N (c 1) 1 (st0 [] [] : St D0) K0 = g N := by kernel_rfl
noncomputable def ent : Ent Tryz.prog T0 := mkEntC C tabOk0 mixed0 16 [] sig (E N) Tryz.func16 (by kernel_rfl) [(false, [.any])] N (fun t => g N) (fun _ => by kernel_rfl) (fun t => g.run N)
end zq89
namespace zq90
variable (N : Nat)
abbrev R : Type := Bool
abbrev QQ : Type := St D0 → Option R
abbrev sig : Sig := ⟨[(false, 1), (false, 1)], [], [.sl false 3, .sl false 3], [(false, 1)], [], [.bool]⟩
noncomputable def C : Cfg D0 := ⟨Tryz.prog, T0, 16806963, 0, 26, 0, [(58, [0, 1, 12, 13], [])], 3344704, false, []⟩
noncomputable def E (N : Nat) : List (Ent Tryz.prog T0) := []
noncomputable def O : Orc D0 R := orcOf (E N)
noncomputable def K0 : Ex → QQ := exitK C Tryz.f24.results.toList [(false, [.any])] (decOut sig)
noncomputable def c (p : Nat) : Code := codeAt (Tryz.f24.body.getD .skip) (pathN p)
abbrev t1 : Type := (List Int) → (List Int) → Int → Int → Option R
noncomputable def s1 (v0 v1 : List Int) (v2 v3 : Int) : St D0 := mkSt [(0, .one (.sl false 3 v0)), (1, .one (.sl false 3 v1)), (12, .one (.int .i64 v2)), (13, .one (.int .i64 v3))] []
noncomputable def K116 (Kn58 : QQ) : Ex → QQ := ((fun up => (onN (fun s => C.tidy 58 s ((onN Kn58 up) .normal)) (onN Kn58 up))) (blockK 0 (onN (tk C (O N) N c 14 15 K0) K0)))
noncomputable def o1 (N : Nat) (v0 v1 : List Int) (v2 v3 : Int) (c1 : t1) : Option R :=
 bif (decide (v3 < v2)) then
  bif (decide (0 ≤ v3)) then
   bif (decide (v3 < (v0.length : Int))) then
    (v0[(v3 : Int).toNat]?).bind fun x1 =>
    bif (decide (0 ≤ v3)) then
     bif (decide (v3 < (v1.length : Int))) then
      (v1[(v3 : Int).toNat]?).bind fun x2 =>
      bif (x1 != x2) then
       some (false)
      else
      c1 v0 v1 v2 (w64 (v3 + 1))
     else
     none
    else
    none
   else
   none
  else
  none
 else
 some (true)
noncomputable def d1 (v0 v1 : List Int) (v2 v3 : Int) (c1 : t1) : Option R := o1 N v0 v1 v2 v3 c1
theorem d1.run (Kn58 : QQ) (v0 v1 : List Int) (v2 v3 : Int) : runC C (O N) N (c 116) 116 (s1 v0 v1 v2 v3) (K116 N Kn58) = d1 N v0 v1 v2 v3 (Kn58 <| s1 · · · ·) := by kernel_rfl
noncomputable def K58 : Ex → QQ := (blockK 0 (onN (tk C (O N) N c 14 15 K0) K0))
noncomputable def l1 (N : Nat) : Nat → (List Int) → (List Int) → Int → Int → Option R
  | 0, _, _, _, _ => none
  | n + 1, v0, v1, v2, v3 => d1 N v0 v1 v2 v3 (l1 N n · · · ·)
theorem loop58 (N : Nat) : ∀ n, (∀ (v0 v1 : List Int) (v2 v3 : Int), iter (loopF C (O N) N (c 116) 58) n (s1 v0 v1 v2 v3) (K58 N) = l1 N n v0 v1 v2 v3)
  | 0 => (fun v0 v1 v2 v3 => rfl)
  | n + 1 => (fun v0 v1 v2 v3 => (d1.run N (fun s => iter (loopF C (O N) N (c 116) 58) n s (K58 N)) v0 v1 v2 v3).trans (show _ = d1 N v0 v1 v2 v3 (l1 N n · · · ·) from (congr rfl (fx4 ((loop58 N n))))))
noncomputable def o0 (N : Nat) (a0 a1 : List Int) (c1 : t1) : Option R :=
 bif ((a0.length : Int) != (a1.length : Int)) then
  some (false)
 else
 c1 a0 a1 (a0.length : Int) 0
theorem o0.run (H116 : Code) (a0 a1 : List Int) : runC C (O N) N (.seq (c 2) (.seq (c 6) (.seq (.seq (c 28) (.block 0 (.loop H116))) (c 15)))) 1 (st0 [.one (.sl false 3 a0), .one (.sl false 3 a1)] [] : St D0) K0 = o0 N a0 a1 ((fun w0 w1 w2 w3 => iter (loopF C (O N) N H116 58) N (s1 w0 w1 w2 w3) (blockK 0 (onN (tk C (O N) N c 14 15 K0) K0)))) := by kernel_rfl
noncomputable def g (a0 a1 : List Int) : Option R := o0 N a0 a1 (l1 N N · · · ·)
theorem c1_0 : (c 1) = (.seq (c 2) (.seq (c 6) (.seq (.seq (c 28) (.block 0 (.loop (c 116)))) (c 15)))) := by kernel_rfl
theorem g.run (a0 a1 : List Int) : runC C (O N) N (c 1) 1 (st0 [.one (.sl false 3 a0), .one (.sl false 3 a1)] [] : St D0) K0 = g N a0 a1 := by
  rw [c1_0]; unfold g; exact (o0.run N (c 116) a0 a1).trans (congr rfl (fx4 ((loop58 N N))))
noncomputable def ent : Ent Tryz.prog T0 := mkEntC C tabOk0 mixed0 24 [(false, [.ro 3]), (false, [.ro 3])] sig (E N) Tryz.func24 (by kernel_rfl) [(false, [.any])] N (fun t => g N t.1 t.2) (fun _ => by kernel_rfl) (fun t => g.run N t.1 t.2)
end zq90
namespace zq82
variable (N : Nat)
abbrev R : Type := Bool
abbrev QQ : Type := St D0 → Option R
abbrev sig : Sig := ⟨[(false, 1), (false, 1)], [], [.str, .int .i64], [(false, 1)], [], [.bool]⟩
noncomputable def C : Cfg D0 := ⟨Tryz.prog, T0, 411476965276926530361410030031641402743155979153197392134586355, 0, 227, 0, [(4092, [0, 1, 5, 6, 9, 11, 95], [9]), (8190, [0, 5, 9, 11], [9]), (16380, [0, 1, 5, 9, 11, 116], [9]), (262100, [0, 5, 9, 11, 17, 132], [9]), (524206, [0, 5, 9, 11, 17, 19], [9]), (524282, [0, 5, 9, 11, 20, 21, 22, 23, 24], [9, 20]), (4194258, [0, 5, 9, 11, 20, 21, 22, 23, 24], [9, 20]), (134216268, [0, 5, 9, 11, 20, 22, 23, 24, 25, 26, 188], [9, 20, 25]), (268432542, [0, 5, 9, 11, 20, 22, 23, 24, 25], [9, 20, 25]), (536865084, [0, 5, 9, 11, 20, 22, 23, 24, 25, 196], [9, 20, 25]), (4294920680, [0, 5, 9, 11, 20, 22, 23, 24, 25, 208], [9, 20, 25])], 652565316019353364157563070982912113523430059331300865585230905344, false, []⟩
noncomputable def E : List (Ent Tryz.prog T0) := [zq89.ent N, zq30.ent N, zq111.ent N, zq8.ent N, zq11.ent N, zq99.ent N, zq102.ent N, zq91.ent N, zq90.ent N, zq12.ent N, zq9.ent N]
noncomputable def O : Orc D0 R := orcOf (E N)
noncomputable def K0 : Ex → QQ := exitK C Tryz.f4.results.toList [(false, [.any])] (decOut sig)
noncomputable def c (p : Nat) : Code := codeAt (Tryz.f4.body.getD .skip) (pathN p)
abbrev t1 : Type := ByteArray → Int → (List ByteArray) → Bool → (List Int) → Bool → Int → Int → Int → Int → Int → Int → Int → Option R
abbrev t2 : Type := ByteArray → Int → (List ByteArray) → (List Int) → Bool → Int → Int → Int → Int → Int → Int → Int → Option R
abbrev t3 : Type := ByteArray → (List ByteArray) → (List Int) → (List ByteArray) → Bool → Int → Int → Int → Int → Int → Int → Int → Option R
abbrev t4 : Type := ByteArray → (List ByteArray) → (List Int) → Int → Int → Int → Int → Int → Int → Int → Option R
abbrev t5 : Type := ByteArray → (List ByteArray) → (List Int) → (List ByteArray) → Int → Int → Int → Int → Int → Int → Int → Int → Option R
abbrev t6 : Type := ByteArray → (List ByteArray) → (List Int) → ByteArray → Int → Int → Int → Int → Int → Int → Int → Int → Int → Int → Int → Int → Int → Int → Int → Int → Int → Option R
abbrev t7 : Type := ByteArray → (List ByteArray) → (List Int) → ByteArray → Int → Int → Int → Int → Int → Int → Int → Int → Int → Int → Int → Int → Int → Int → Int → Int → Int → Option R
abbrev t8 : Type := ByteArray → (List ByteArray) → (List Int) → Int → Int → Int → ByteArray → Bool → Int → Int → Int → Int → Int → Int → Int → Int → Int → Int → Int → Int → Int → Int → Int → Int → Int → Int → Int → Int → Int → Option R
abbrev t9 : Type := ByteArray → (List ByteArray) → (List Int) → Int → Int → Int → Bool → Int → Int → Int → Int → Int → Int → Int → Int → Int → Int → Int → Int → Int → Int → Int → Int → Int → Int → Int → Int → Int → Option R
abbrev t10 : Type := ByteArray → (List ByteArray) → (List Int) → Int → Int → Int → Bool → Int → Int → Int → Int → Int → Int → Int → Int → Int → Int → Int → Int → Int → Int → Int → Int → Int → Int → Int → Int → Int → Option R
abbrev t11 : Type := ByteArray → (List ByteArray) → (List Int) → Int → Int → Int → Int → Int → Int → Int → Int → Int → Int → Int → Int → Int → Int → Int → Int → Int → Int → Int → Int → Int → Int → Int → Int → Option R
noncomputable def s1 (v0 : ByteArray) (v1 : Int) (v2 : List ByteArray) (v3 : Bool) (v4 : List Int) (v5 : Bool) (v6 v7 v8 v9 v10 v11 v12 : Int) : St D0 := mkSt [(0, .one (.str v0)), (1, .one (.int .i64 v1)), (5, .one (.sl true 9 v2)), (6, .one (.bool v3)), (9, .one (.ptr 9 0)), (11, .one (.sl true 3 v4)), (95, .one (.bool v5))] [(9, some (29, [.int .i64 v6, .int .i64 v7, .int .i64 v8, .int .i64 v9, .int .i64 v10, .int .i64 v11, .int .i64 v12]))]
noncomputable def s2 (v0 : ByteArray) (v1 : Int) (v2 : List ByteArray) (v3 : List Int) (v4 : Bool) (v5 v6 v7 v8 v9 v10 v11 : Int) : St D0 := mkSt [(0, .one (.str v0)), (1, .one (.int .i64 v1)), (5, .one (.sl true 9 v2)), (9, .one (.ptr 9 0)), (11, .one (.sl true 3 v3)), (116, .one (.bool v4))] [(9, some (29, [.int .i64 v5, .int .i64 v6, .int .i64 v7, .int .i64 v8, .int .i64 v9, .int .i64 v10, .int .i64 v11]))]
noncomputable def s3 (v0 : ByteArray) (v1 : List ByteArray) (v2 : List Int) (v3 : List ByteArray) (v4 : Bool) (v5 v6 v7 v8 v9 v10 v11 : Int) : St D0 := mkSt [(0, .one (.str v0)), (5, .one (.sl true 9 v1)), (9, .one (.ptr 9 0)), (11, .one (.sl true 3 v2)), (17, .one (.sl true 9 v3)), (132, .one (.bool v4))] [(9, some (29, [.int .i64 v5, .int .i64 v6, .int .i64 v7, .int .i64 v8, .int .i64 v9, .int .i64 v10, .int .i64 v11]))]
noncomputable def s4 (v0 : ByteArray) (v1 : List ByteArray) (v2 : List Int) (v3 v4 v5 v6 v7 v8 v9 : Int) : St D0 := mkSt [(0, .one (.str v0)), (5, .one (.sl true 9 v1)), (9, .one (.ptr 9 0)), (11, .one (.sl true 3 v2))] [(9, some (29, [.int .i64 v3, .int .i64 v4, .int .i64 v5, .int .i64 v6, .int .i64 v7, .int .i64 v8, .int .i64 v9]))]
noncomputable def s5 (v0 : ByteArray) (v1 : List ByteArray) (v2 : List Int) (v3 : List ByteArray) (v4 v5 v6 v7 v8 v9 v10 v11 : Int) : St D0 := mkSt [(0, .one (.str v0)), (5, .one (.sl true 9 v1)), (9, .one (.ptr 9 0)), (11, .one (.sl true 3 v2)), (17, .one (.sl true 9 v3)), (19, .one (.int .i64 v4))] [(9, some (29, [.int .i64 v5, .int .i64 v6, .int .i64 v7, .int .i64 v8, .int .i64 v9, .int .i64 v10, .int .i64 v11]))]
noncomputable def s6 (v0 : ByteArray) (v1 : List ByteArray) (v2 : List Int) (v3 : ByteArray) (v4 v5 v6 v7 v8 v9 v10 v11 v12 v13 v14 v15 v16 v17 v18 v19 v20 : Int) : St D0 := mkSt [(0, .one (.str v0)), (5, .one (.sl true 9 v1)), (9, .one (.ptr 9 0)), (11, .one (.sl true 3 v2)), (20, .one (.ptr 20 0)), (21, .one (.str v3)), (22, .one (.int .i64 v4)), (23, .one (.int .i64 v5)), (24, .one (.int .i64 v6))] [(9, some (29, [.int .i64 v7, .int .i64 v8, .int .i64 v9, .int .i64 v10, .int .i64 v11, .int .i64 v12, .int .i64 v13])), (20, some (29, [.int .i64 v14, .int .i64 v15, .int .i64 v16, .int .i64 v17, .int .i64 v18, .int .i64 v19, .int .i64 v20]))]
noncomputable def s7 (v0 : ByteArray) (v1 : List ByteArray) (v2 : List Int) (v3 : ByteArray) (v4 v5 v6 v7 v8 v9 v10 v11 v12 v13 v14 v15 v16 v17 v18 v19 v20 : Int) : St D0 := mkSt [(0, .one (.str v0)), (5, .one (.sl true 9 v1)), (9, .one (.ptr 9 0)), (11, .one (.sl true 3 v2)), (20, .one (.ptr 20 0)), (21, .one (.str v3)), (22, .one (.int .i64 v4)), (23, .one (.int .i64 v5)), (24, .one (.int .i64 v6))] [(9, some (29, [.int .i64 v7, .int .i64 v8, .int .i64 v9, .int .i64 v10, .int .i64 v11, .int .i64 v12, .int .i64 v13])), (20, some (29, [.int .i64 v14, .int .i64 v15, .int .i64 v16, .int .i64 v17, .int .i64 v18, .int .i64 v19, .int .i64 v20]))]
noncomputable def s8 (v0 : ByteArray) (v1 : List ByteArray) (v2 : List Int) (v3 v4 v5 : Int) (v6 : ByteArray) (v7 : Bool) (v8 v9 v10 v11 v12 v13 v14 v15 v16 v17 v18 v19 v20 v21 v22 v23 v24 v25 v26 v27 v28 : Int) : St D0 := mkSt [(0, .one (.str v0)), (5, .one (.sl true 9 v1)), (9, .one (.ptr 9 0)), (11, .one (.sl true 3 v2)), (20, .one (.ptr 20 0)), (22, .one (.int .i64 v3)), (23, .one (.int .i64 v4)), (24, .one (.int .i64 v5)), (25, .one (.ptr 25 0)), (26, .one (.str v6)), (188, .one (.bool v7))] [(9, some (29, [.int .i64 v8, .int .i64 v9, .int .i64 v10, .int .i64 v11, .int .i64 v12, .int .i64 v13, .int .i64 v14])), (20, some (29, [.int .i64 v15, .int .i64 v16, .int .i64 v17, .int .i64 v18, .int .i64 v19, .int .i64 v20, .int .i64 v21])), (25, some (29, [.int .i64 v22, .int .i64 v23, .int .i64 v24, .int .i64 v25, .int .i64 v26, .int .i64 v27, .int .i64 v28]))]
noncomputable def s9 (v0 : ByteArray) (v1 : List ByteArray) (v2 : List Int) (v3 v4 v5 : Int) (v6 : Bool) (v7 v8 v9 v10 v11 v12 v13 v14 v15 v16 v17 v18 v19 v20 v21 v22 v23 v24 v25 v26 v27 : Int) : St D0 := mkSt [(0, .one (.str v0)), (5, .one (.sl true 9 v1)), (9, .one (.ptr 9 0)), (11, .one (.sl true 3 v2)), (20, .one (.ptr 20 0)), (22, .one (.int .i64 v3)), (23, .one (.int .i64 v4)), (24, .one (.int .i64 v5)), (25, .one (.ptr 25 0)), (196, .one (.bool v6))] [(9, some (29, [.int .i64 v7, .int .i64 v8, .int .i64 v9, .int .i64 v10, .int .i64 v11, .int .i64 v12, .int .i64 v13])), (20, some (29, [.int .i64 v14, .int .i64 v15, .int .i64 v16, .int .i64 v17, .int .i64 v18, .int .i64 v19, .int .i64 v20])), (25, some (29, [.int .i64 v21, .int .i64 v22, .int .i64 v23, .int .i64 v24, .int .i64 v25, .int .i64 v26, .int .i64 v27]))]
noncomputable def s10 (v0 : ByteArray) (v1 : List ByteArray) (v2 : List Int) (v3 v4 v5 : Int) (v6 : Bool) (v7 v8 v9 v10 v11 v12 v13 v14 v15 v16 v17 v18 v19 v20 v21 v22 v23 v24 v25 v26 v27 : Int) : St D0 := mkSt [(0, .one (.str v0)), (5, .one (.sl true 9 v1)), (9, .one (.ptr 9 0)), (11, .one (.sl true 3 v2)), (20, .one (.ptr 20 0)), (22, .one (.int .i64 v3)), (23, .one (.int .i64 v4)), (24, .one (.int .i64 v5)), (25, .one (.ptr 25 0)), (208, .one (.bool v6))] [(9, some (29, [.int .i64 v7, .int .i64 v8, .int .i64 v9, .int .i64 v10, .int .i64 v11, .int .i64 v12, .int .i64 v13])), (20, some (29, [.int .i64 v14, .int .i64 v15, .int .i64 v16, .int .i64 v17, .int .i64 v18, .int .i64 v19, .int .i64 v20])), (25, some (29, [.int .i64 v21, .int .i64 v22, .int .i64 v23, .int .i64 v24, .int .i64 v25, .int .i64 v26, .int .i64 v27]))]
noncomputable def s11 (v0 : ByteArray) (v1 : List ByteArray) (v2 : List Int) (v3 v4 v5 v6 v7 v8 v9 v10 v11 v12 v13 v14 v15 v16 v17 v18 v19 v20 v21 v22 v23 v24 v25 v26 : Int) : St D0 := mkSt [(0, .one (.str v0)), (5, .one (.sl true 9 v1)), (9, .one (.ptr 9 0)), (11, .one (.sl true 3 v2)), (20, .one (.ptr 20 0)), (22, .one (.int .i64 v3)), (23, .one (.int .i64 v4)), (24, .one (.int .i64 v5)), (25, .one (.ptr 25 0))] [(9, some (29, [.int .i64 v6, .int .i64 v7, .int .i64 v8, .int .i64 v9, .int .i64 v10, .int .i64 v11, .int .i64 v12])), (20, some (29, [.int .i64 v13, .int .i64 v14, .int .i64 v15, .int .i64 v16, .int .i64 v17, .int .i64 v18, .int .i64 v19])), (25, some (29, [.int .i64 v20, .int .i64 v21, .int .i64 v22, .int .i64 v23, .int .i64 v24, .int .i64 v25, .int .i64 v26]))]
noncomputable def K4194259 (Kn524282 : QQ) : Ex → QQ := ((fun up => (onN (fun s => C.tidy 524282 s ((onN Kn524282 up) .normal)) (onN Kn524282 up))) (blockK 2 (onN (tk C (O N) N c 131070 131071 K0) K0)))
noncomputable def o7 (N : Nat) (v0 : ByteArray) (v1 : List ByteArray) (v2 : List Int) (v3 : ByteArray) (v4 v5 v6 v7 v8 v9 v10 v11 v12 v13 v14 v15 v16 v17 v18 v19 v20 : Int) (c6 : t6) : Option R :=
 c6 v0 v1 v2 v3 v4 v5 (w64 (v6 + 1)) v7 v8 v9 v10 v11 v12 v13 v14 v15 v16 v17 v18 v19 v20
noncomputable def d7 (v0 : ByteArray) (v1 : List ByteArray) (v2 : List Int) (v3 : ByteArray) (v4 v5 v6 v7 v8 v9 v10 v11 v12 v13 v14 v15 v16 v17 v18 v19 v20 : Int) (c6 : t6) : Option R := o7 N v0 v1 v2 v3 v4 v5 v6 v7 v8 v9 v10 v11 v12 v13 v14 v15 v16 v17 v18 v19 v20 c6
theorem d7.run (Kn524282 : QQ) (v0 : ByteArray) (v1 : List ByteArray) (v2 : List Int) (v3 : ByteArray) (v4 v5 v6 v7 v8 v9 v10 v11 v12 v13 v14 v15 v16 v17 v18 v19 v20 : Int) : runC C (O N) N (c 4194259) 4194259 (s7 v0 v1 v2 v3 v4 v5 v6 v7 v8 v9 v10 v11 v12 v13 v14 v15 v16 v17 v18 v19 v20) (K4194259 N Kn524282) = d7 N v0 v1 v2 v3 v4 v5 v6 v7 v8 v9 v10 v11 v12 v13 v14 v15 v16 v17 v18 v19 v20 (Kn524282 <| s6 · · · · · · · · · · · · · · · · · · · · ·) := by kernel_rfl
noncomputable def B2097129 (Kn524282 : QQ) : QQ := fun s' => runC C (O N) N (c 4194259) 4194259 s' (K4194259 N Kn524282)
noncomputable def K268432543 (Kn524282 : QQ) : Ex → QQ := (blockK 3 ((fun up => (onN (fun s => C.tidy 4194258 s (B2097129 N Kn524282)) up)) ((fun up => (onN (fun s => C.tidy 524282 s ((onN Kn524282 up) .normal)) (onN Kn524282 up))) (blockK 2 (onN (tk C (O N) N c 131070 131071 K0) K0)))))
noncomputable def o11 (N : Nat) (v0 : ByteArray) (v1 : List ByteArray) (v2 : List Int) (v3 v4 v5 v6 v7 v8 v9 v10 v11 v12 v13 v14 v15 v16 v17 v18 v19 v20 v21 v22 v23 v24 v25 v26 : Int) (c7 : t7) : Option R :=
 c7 v0 v1 v2 (⟨#[]⟩ : ByteArray) v3 v4 v5 v6 v7 v8 v9 v10 v11 v12 v20 v21 v22 v23 v24 v25 v26
theorem o11.run (Kb2097129 : QQ) (Kn524282 : QQ) (v0 : ByteArray) (v1 : List ByteArray) (v2 : List Int) (v3 v4 v5 v6 v7 v8 v9 v10 v11 v12 v13 v14 v15 v16 v17 v18 v19 v20 v21 v22 v23 v24 v25 v26 : Int) : runC C (O N) N (c 268432543) 268432543 (s11 v0 v1 v2 v3 v4 v5 v6 v7 v8 v9 v10 v11 v12 v13 v14 v15 v16 v17 v18 v19 v20 v21 v22 v23 v24 v25 v26) (blockK 3 ((fun up => (onN (fun s => C.tidy 4194258 s Kb2097129) up)) ((fun up => (onN (fun s => C.tidy 524282 s ((onN Kn524282 up) .normal)) (onN Kn524282 up))) (blockK 2 (onN (tk C (O N) N c 131070 131071 K0) K0))))) = o11 N v0 v1 v2 v3 v4 v5 v6 v7 v8 v9 v10 v11 v12 v13 v14 v15 v16 v17 v18 v19 v20 v21 v22 v23 v24 v25 v26 (Kb2097129 <| s7 · · · · · · · · · · · · · · · · · · · · ·) := by kernel_rfl
noncomputable def d11 (v0 : ByteArray) (v1 : List ByteArray) (v2 : List Int) (v3 v4 v5 v6 v7 v8 v9 v10 v11 v12 v13 v14 v15 v16 v17 v18 v19 v20 v21 v22 v23 v24 v25 v26 : Int) (c6 : t6) : Option R := o11 N v0 v1 v2 v3 v4 v5 v6 v7 v8 v9 v10 v11 v12 v13 v14 v15 v16 v17 v18 v19 v20 v21 v22 v23 v24 v25 v26 (d7 N · · · · · · · · · · · · · · · · · · · · · c6)
theorem d11.run (Kn524282 : QQ) (v0 : ByteArray) (v1 : List ByteArray) (v2 : List Int) (v3 v4 v5 v6 v7 v8 v9 v10 v11 v12 v13 v14 v15 v16 v17 v18 v19 v20 v21 v22 v23 v24 v25 v26 : Int) : runC C (O N) N (c 268432543) 268432543 (s11 v0 v1 v2 v3 v4 v5 v6 v7 v8 v9 v10 v11 v12 v13 v14 v15 v16 v17 v18 v19 v20 v21 v22 v23 v24 v25 v26) (K268432543 N Kn524282) = d11 N v0 v1 v2 v3 v4 v5 v6 v7 v8 v9 v10 v11 v12 v13 v14 v15 v16 v17 v18 v19 v20 v21 v22 v23 v24 v25 v26 (Kn524282 <| s6 · · · · · · · · · · · · · · · · · · · · ·) := by
  unfold d11; exact (o11.run N (B2097129 N Kn524282) Kn524282 v0 v1 v2 v3 v4 v5 v6 v7 v8 v9 v10 v11 v12 v13 v14 v15 v16 v17 v18 v19 v20 v21 v22 v23 v24 v25 v26).trans (congr rfl (fx21 (d7.run N Kn524282)))
noncomputable def B134216271 (Kn524282 : QQ) : QQ := fun s' => runC C (O N) N (c 268432543) 268432543 s' (K268432543 N Kn524282)
noncomputable def K4294920681 (Kn524282 : QQ) : Ex → QQ := ((fun up => (onN (tk C (O N) N c 2147460340 2147460341 up) up)) ((fun up => (onN (fun s => C.tidy 268432542 s (B134216271 N Kn524282)) up)) (blockK 3 ((fun up => (onN (fun s => C.tidy 4194258 s (B2097129 N Kn524282)) up)) ((fun up => (onN (fun s => C.tidy 524282 s ((onN Kn524282 up) .normal)) (onN Kn524282 up))) (blockK 2 (onN (tk C (O N) N c 131070 131071 K0) K0)))))))
noncomputable def o10 (N : Nat) (v0 : ByteArray) (v1 : List ByteArray) (v2 : List Int) (v3 v4 v5 : Int) (v6 : Bool) (v7 v8 v9 v10 v11 v12 v13 v14 v15 v16 v17 v18 v19 v20 v21 v22 v23 v24 v25 v26 v27 : Int) (c11 : t11) : Option R :=
 bif v6 then
  some (false)
 else
 c11 v0 v1 v2 v3 (w64 (v4 + 1)) v5 v7 v8 v9 v10 v11 v12 v13 v14 v15 v16 v17 v18 v19 v20 v21 v22 v23 v24 v25 v26 v27
theorem o10.run (Kb2097129 : QQ) (Kb134216271 : QQ) (Kn524282 : QQ) (v0 : ByteArray) (v1 : List ByteArray) (v2 : List Int) (v3 v4 v5 : Int) (v6 : Bool) (v7 v8 v9 v10 v11 v12 v13 v14 v15 v16 v17 v18 v19 v20 v21 v22 v23 v24 v25 v26 v27 : Int) : runC C (O N) N (c 4294920681) 4294920681 (s10 v0 v1 v2 v3 v4 v5 v6 v7 v8 v9 v10 v11 v12 v13 v14 v15 v16 v17 v18 v19 v20 v21 v22 v23 v24 v25 v26 v27) ((fun up => (onN (tk C (O N) N c 2147460340 2147460341 up) up)) ((fun up => (onN (fun s => C.tidy 268432542 s Kb134216271) up)) (blockK 3 ((fun up => (onN (fun s => C.tidy 4194258 s Kb2097129) up)) ((fun up => (onN (fun s => C.tidy 524282 s ((onN Kn524282 up) .normal)) (onN Kn524282 up))) (blockK 2 (onN (tk C (O N) N c 131070 131071 K0) K0))))))) = o10 N v0 v1 v2 v3 v4 v5 v6 v7 v8 v9 v10 v11 v12 v13 v14 v15 v16 v17 v18 v19 v20 v21 v22 v23 v24 v25 v26 v27 (Kb134216271 <| s11 · · · · · · · · · · · · · · · · · · · · · · · · · · ·) := by kernel_rfl
noncomputable def d10 (v0 : ByteArray) (v1 : List ByteArray) (v2 : List Int) (v3 v4 v5 : Int) (v6 : Bool) (v7 v8 v9 v10 v11 v12 v13 v14 v15 v16 v17 v18 v19 v20 v21 v22 v23 v24 v25 v26 v27 : Int) (c6 : t6) : Option R := o10 N v0 v1 v2 v3 v4 v5 v6 v7 v8 v9 v10 v11 v12 v13 v14 v15 v16 v17 v18 v19 v20 v21 v22 v23 v24 v25 v26 v27 (d11 N · · · · · · · · · · · · · · · · · · · · · · · · · · · c6)
theorem d10.run (Kn524282 : QQ) (v0 : ByteArray) (v1 : List ByteArray) (v2 : List Int) (v3 v4 v5 : Int) (v6 : Bool) (v7 v8 v9 v10 v11 v12 v13 v14 v15 v16 v17 v18 v19 v20 v21 v22 v23 v24 v25 v26 v27 : Int) : runC C (O N) N (c 4294920681) 4294920681 (s10 v0 v1 v2 v3 v4 v5 v6 v7 v8 v9 v10 v11 v12 v13 v14 v15 v16 v17 v18 v19 v20 v21 v22 v23 v24 v25 v26 v27) (K4294920681 N Kn524282) = d10 N v0 v1 v2 v3 v4 v5 v6 v7 v8 v9 v10 v11 v12 v13 v14 v15 v16 v17 v18 v19 v20 v21 v22 v23 v24 v25 v26 v27 (Kn524282 <| s6 · · · · · · · · · · · · · · · · · · · · ·) := by
  unfold d10; exact (o10.run N (B2097129 N Kn524282) (B134216271 N Kn524282) Kn524282 v0 v1 v2 v3 v4 v5 v6 v7 v8 v9 v10 v11 v12 v13 v14 v15 v16 v17 v18 v19 v20 v21 v22 v23 v24 v25 v26 v27).trans (congr rfl (fx27 (d11.run N Kn524282)))
noncomputable def K536865085 (Kn524282 : QQ) : Ex → QQ := ((fun up => (onN (fun s => C.tidy 268432542 s (B134216271 N Kn524282)) up)) (blockK 3 ((fun up => (onN (fun s => C.tidy 4194258 s (B2097129 N Kn524282)) up)) ((fun up => (onN (fun s => C.tidy 524282 s ((onN Kn524282 up) .normal)) (onN Kn524282 up))) (blockK 2 (onN (tk C (O N) N c 131070 131071 K0) K0))))))
noncomputable def o9 (N : Nat) (v0 : ByteArray) (v1 : List ByteArray) (v2 : List Int) (v3 v4 v5 : Int) (v6 : Bool) (v7 v8 v9 v10 v11 v12 v13 v14 v15 v16 v17 v18 v19 v20 v21 v22 v23 v24 v25 v26 v27 : Int) (c10 : t10) (c11 : t11) : Option R :=
 bif v6 then
  bif (decide (v4 ≥ (v2.length : Int))) then
   c10 v0 v1 v2 v3 v4 v5 true v7 v8 v9 v10 v11 v12 v13 v14 v15 v16 v17 v18 v19 v20 v21 v22 v23 v24 v25 v26 v27
  else
  bif (decide (0 ≤ v4)) then
   bif (decide (v4 < (v2.length : Int))) then
    (v2[(v4 : Int).toNat]?).bind fun x1 =>
    c10 v0 v1 v2 v3 v4 v5 (x1 != v3) v7 v8 v9 v10 v11 v12 v13 v14 v15 v16 v17 v18 v19 v20 v21 v22 v23 v24 v25 v26 v27
   else
   none
  else
  none
 else
 c11 v0 v1 v2 v3 v4 v5 v7 v8 v9 v10 v11 v12 v13 v14 v15 v16 v17 v18 v19 v20 v21 v22 v23 v24 v25 v26 v27
theorem o9.run (Kb2097129 : QQ) (Kb134216271 : QQ) (Kn524282 : QQ) (H4294920681 : Code) (v0 : ByteArray) (v1 : List ByteArray) (v2 : List Int) (v3 v4 v5 : Int) (v6 : Bool) (v7 v8 v9 v10 v11 v12 v13 v14 v15 v16 v17 v18 v19 v20 v21 v22 v23 v24 v25 v26 v27 : Int) : runC C (O N) N (.cond (.tmp 196) (.seq (.seq (c 4294920680) H4294920681) (c 2147460341)) (c 1073730171)) 536865085 (s9 v0 v1 v2 v3 v4 v5 v6 v7 v8 v9 v10 v11 v12 v13 v14 v15 v16 v17 v18 v19 v20 v21 v22 v23 v24 v25 v26 v27) ((fun up => (onN (fun s => C.tidy 268432542 s Kb134216271) up)) (blockK 3 ((fun up => (onN (fun s => C.tidy 4194258 s Kb2097129) up)) ((fun up => (onN (fun s => C.tidy 524282 s ((onN Kn524282 up) .normal)) (onN Kn524282 up))) (blockK 2 (onN (tk C (O N) N c 131070 131071 K0) K0)))))) = o9 N v0 v1 v2 v3 v4 v5 v6 v7 v8 v9 v10 v11 v12 v13 v14 v15 v16 v17 v18 v19 v20 v21 v22 v23 v24 v25 v26 v27 ((fun w0 w1 w2 w3 w4 w5 w6 w7 w8 w9 w10 w11 w12 w13 w14 w15 w16 w17 w18 w19 w20 w21 w22 w23 w24 w25 w26 w27 => runC C (O N) N H4294920681 4294920681 (s10 w0 w1 w2 w3 w4 w5 w6 w7 w8 w9 w10 w11 w12 w13 w14 w15 w16 w17 w18 w19 w20 w21 w22 w23 w24 w25 w26 w27) ((fun up => (onN (tk C (O N) N c 2147460340 2147460341 up) up)) ((fun up => (onN (fun s => C.tidy 268432542 s Kb134216271) up)) (blockK 3 ((fun up => (onN (fun s => C.tidy 4194258 s Kb2097129) up)) ((fun up => (onN (fun s => C.tidy 524282 s ((onN Kn524282 up) .normal)) (onN Kn524282 up))) (blockK 2 (onN (tk C (O N) N c 131070 131071 K0) K0))))))))) (Kb134216271 <| s11 · · · · · · · · · · · · · · · · · · · · · · · · · · ·) := by kernel_rfl
noncomputable def d9 (v0 : ByteArray) (v1 : List ByteArray) (v2 : List Int) (v3 v4 v5 : Int) (v6 : Bool) (v7 v8 v9 v10 v11 v12 v13 v14 v15 v16 v17 v18 v19 v20 v21 v22 v23 v24 v25 v26 v27 : Int) (c6 : t6) : Option R := o9 N v0 v1 v2 v3 v4 v5 v6 v7 v8 v9 v10 v11 v12 v13 v14 v15 v16 v17 v18 v19 v20 v21 v22 v23 v24 v25 v26 v27 (d10 N · · · · · · · · · · · · · · · · · · · · · · · · · · · · c6) (d11 N · · · · · · · · · · · · · · · · · · · · · · · · · · · c6)
theorem c536865085_9 : (c 536865085) = (.cond (.tmp 196) (.seq (.seq (c 4294920680) (c 4294920681)) (c 2147460341)) (c 1073730171)) := by kernel_rfl
theorem d9.run (Kn524282 : QQ) (v0 : ByteArray) (v1 : List ByteArray) (v2 : List Int) (v3 v4 v5 : Int) (v6 : Bool) (v7 v8 v9 v10 v11 v12 v13 v14 v15 v16 v17 v18 v19 v20 v21 v22 v23 v24 v25 v26 v27 : Int) : runC C (O N) N (c 536865085) 536865085 (s9 v0 v1 v2 v3 v4 v5 v6 v7 v8 v9 v10 v11 v12 v13 v14 v15 v16 v17 v18 v19 v20 v21 v22 v23 v24 v25 v26 v27) (K536865085 N Kn524282) = d9 N v0 v1 v2 v3 v4 v5 v6 v7 v8 v9 v10 v11 v12 v13 v14 v15 v16 v17 v18 v19 v20 v21 v22 v23 v24 v25 v26 v27 (Kn524282 <| s6 · · · · · · · · · · · · · · · · · · · · ·) := by
  rw [c536865085_9]; unfold d9; exact (o9.run N (B2097129 N Kn524282) (B134216271 N Kn524282) Kn524282 (c 4294920681) v0 v1 v2 v3 v4 v5 v6 v7 v8 v9 v10 v11 v12 v13 v14 v15 v16 v17 v18 v19 v20 v21 v22 v23 v24 v25 v26 v27).trans (congr (congr rfl (fx28 (d10.run N Kn524282))) (fx27 (d11.run N Kn524282)))
noncomputable def K134216269 (Kn524282 : QQ) : Ex → QQ := ((fun up => (onN (tk C (O N) N c 67108134 67108135 up) up)) (blockK 3 ((fun up => (onN (fun s => C.tidy 4194258 s (B2097129 N Kn524282)) up)) ((fun up => (onN (fun s => C.tidy 524282 s ((onN Kn524282 up) .normal)) (onN Kn524282 up))) (blockK 2 (onN (tk C (O N) N c 131070 131071 K0) K0))))))
noncomputable def o8 (N : Nat) (v0 : ByteArray) (v1 : List ByteArray) (v2 : List Int) (v3 v4 v5 : Int) (v6 : ByteArray) (v7 : Bool) (v8 v9 v10 v11 v12 v13 v14 v15 v16 v17 v18 v19 v20 v21 v22 v23 v24 v25 v26 v27 v28 : Int) (c9 : t9) : Option R :=
 bif v7 then
  some (false)
 else
 bif (v6.toList == (⟨#[110, 111]⟩ : ByteArray).toList) then
  c9 v0 v1 v2 (w64 (v3 + 1)) v4 v5 true v8 v9 v10 v11 v12 v13 v14 v15 v16 v17 v18 v19 v20 v21 v22 v23 v24 v25 v26 v27 v28
 else
 c9 v0 v1 v2 (w64 (v3 + 1)) v4 v5 (v6.toList == (⟨#[119, 104, 97, 116]⟩ : ByteArray).toList) v8 v9 v10 v11 v12 v13 v14 v15 v16 v17 v18 v19 v20 v21 v22 v23 v24 v25 v26 v27 v28
theorem o8.run (Kb2097129 : QQ) (Kn524282 : QQ) (H536865085 : Code) (v0 : ByteArray) (v1 : List ByteArray) (v2 : List Int) (v3 v4 v5 : Int) (v6 : ByteArray) (v7 : Bool) (v8 v9 v10 v11 v12 v13 v14 v15 v16 v17 v18 v19 v20 v21 v22 v23 v24 v25 v26 v27 v28 : Int) : runC C (O N) N (c 134216269) 134216269 (s8 v0 v1 v2 v3 v4 v5 v6 v7 v8 v9 v10 v11 v12 v13 v14 v15 v16 v17 v18 v19 v20 v21 v22 v23 v24 v25 v26 v27 v28) ((fun up => (onN (fun s => C.tidy 67108134 s (fun s' => runC C (O N) N (.seq (c 134216270) (.seq (.seq (c 536865084) H536865085) (c 268432543))) 67108135 s' up)) up)) (blockK 3 ((fun up => (onN (fun s => C.tidy 4194258 s Kb2097129) up)) ((fun up => (onN (fun s => C.tidy 524282 s ((onN Kn524282 up) .normal)) (onN Kn524282 up))) (blockK 2 (onN (tk C (O N) N c 131070 131071 K0) K0)))))) = o8 N v0 v1 v2 v3 v4 v5 v6 v7 v8 v9 v10 v11 v12 v13 v14 v15 v16 v17 v18 v19 v20 v21 v22 v23 v24 v25 v26 v27 v28 ((fun w0 w1 w2 w3 w4 w5 w6 w7 w8 w9 w10 w11 w12 w13 w14 w15 w16 w17 w18 w19 w20 w21 w22 w23 w24 w25 w26 w27 => runC C (O N) N H536865085 536865085 (s9 w0 w1 w2 w3 w4 w5 w6 w7 w8 w9 w10 w11 w12 w13 w14 w15 w16 w17 w18 w19 w20 w21 w22 w23 w24 w25 w26 w27) ((fun up => (onN (tk C (O N) N c 268432542 268432543 up) up)) (blockK 3 ((fun up => (onN (fun s => C.tidy 4194258 s Kb2097129) up)) ((fun up => (onN (fun s => C.tidy 524282 s ((onN Kn524282 up) .normal)) (onN Kn524282 up))) (blockK 2 (onN (tk C (O N) N c 131070 131071 K0) K0)))))))) := by kernel_rfl
noncomputable def d8 (v0 : ByteArray) (v1 : List ByteArray) (v2 : List Int) (v3 v4 v5 : Int) (v6 : ByteArray) (v7 : Bool) (v8 v9 v10 v11 v12 v13 v14 v15 v16 v17 v18 v19 v20 v21 v22 v23 v24 v25 v26 v27 v28 : Int) (c6 : t6) : Option R := o8 N v0 v1 v2 v3 v4 v5 v6 v7 v8 v9 v10 v11 v12 v13 v14 v15 v16 v17 v18 v19 v20 v21 v22 v23 v24 v25 v26 v27 v28 (d9 N · · · · · · · · · · · · · · · · · · · · · · · · · · · · c6)
theorem d8.run (Kn524282 : QQ) (v0 : ByteArray) (v1 : List ByteArray) (v2 : List Int) (v3 v4 v5 : Int) (v6 : ByteArray) (v7 : Bool) (v8 v9 v10 v11 v12 v13 v14 v15 v16 v17 v18 v19 v20 v21 v22 v23 v24 v25 v26 v27 v28 : Int) : runC C (O N) N (c 134216269) 134216269 (s8 v0 v1 v2 v3 v4 v5 v6 v7 v8 v9 v10 v11 v12 v13 v14 v15 v16 v17 v18 v19 v20 v21 v22 v23 v24 v25 v26 v27 v28) (K134216269 N Kn524282) = d8 N v0 v1 v2 v3 v4 v5 v6 v7 v8 v9 v10 v11 v12 v13 v14 v15 v16 v17 v18 v19 v20 v21 v22 v23 v24 v25 v26 v27 v28 (Kn524282 <| s6 · · · · · · · · · · · · · · · · · · · · ·) := by
  unfold d8; exact (o8.run N (B2097129 N Kn524282) Kn524282 (c 536865085) v0 v1 v2 v3 v4 v5 v6 v7 v8 v9 v10 v11 v12 v13 v14 v15 v16 v17 v18 v19 v20 v21 v22 v23 v24 v25 v26 v27 v28).trans (congr rfl (fx28 (d9.run N Kn524282)))
noncomputable def K1048564 (Kn524282 : QQ) : Ex → QQ := ((fun up => (onN (fun s => C.tidy 524282 s ((onN Kn524282 up) .normal)) (onN Kn524282 up))) (blockK 2 (onN (tk C (O N) N c 131070 131071 K0) K0)))
noncomputable def o6 (v0 : ByteArray) (v1 : List ByteArray) (v2 : List Int) (v3 : ByteArray) (v4 v5 v6 v7 v8 v9 v10 v11 v12 v13 v14 v15 v16 v17 v18 v19 v20 : Int) (c7 : t7) (c8 : t8) : Option R :=
 bif (decide (v6 < (v0.size : Int))) then
  bif (decide (0 ≤ v6)) then
   bif (decide (v6 < (v0.size : Int))) then
    bif ((bt v0 v6) != 10) then
     bif (decide (0 ≤ (w64 (v6 + 1)))) then
      bif (decide ((w64 (v6 + 1)) ≤ (v0.size : Int))) then
       bif (decide (0 ≤ v6)) then
        bif (decide (v6 ≤ (w64 (v6 + 1)))) then
         bif (Nat.ble (v3.size + (v0.extract (v6 : Int).toNat ((w64 (v6 + 1)) : Int).toNat).size) 9223372036854775807) then
          c7 v0 v1 v2 (v3 ++ (v0.extract (v6 : Int).toNat ((w64 (v6 + 1)) : Int).toNat)) v4 v5 v6 v7 v8 v9 v10 v11 v12 v13 v14 v15 v16 v17 v18 v19 v20
         else
         none
        else
        none
       else
       none
      else
      none
     else
     none
    else
    (zq9.g N v14 v15 v16 v17 v18 v19 v20 v3).bind fun r1 =>
    bif (!r1.2.2.2.2.2.2.2.2) then
     c8 v0 v1 v2 v4 v5 v6 r1.2.2.2.2.2.2.2.1 true v7 v8 v9 v10 v11 v12 v13 v14 v15 v16 v17 v18 v19 v20 r1.1 r1.2.1 r1.2.2.1 r1.2.2.2.1 r1.2.2.2.2.1 r1.2.2.2.2.2.1 r1.2.2.2.2.2.2.1
    else
    bif (decide (v4 ≥ (v1.length : Int))) then
     c8 v0 v1 v2 v4 v5 v6 r1.2.2.2.2.2.2.2.1 true v7 v8 v9 v10 v11 v12 v13 v14 v15 v16 v17 v18 v19 v20 r1.1 r1.2.1 r1.2.2.1 r1.2.2.2.1 r1.2.2.2.2.1 r1.2.2.2.2.2.1 r1.2.2.2.2.2.2.1
    else
    bif (decide (0 ≤ v4)) then
     bif (decide (v4 < (v1.length : Int))) then
      (v1[(v4 : Int).toNat]?).bind fun x2 =>
      c8 v0 v1 v2 v4 v5 v6 r1.2.2.2.2.2.2.2.1 (!(x2.toList == r1.2.2.2.2.2.2.2.1.toList)) v7 v8 v9 v10 v11 v12 v13 v14 v15 v16 v17 v18 v19 v20 r1.1 r1.2.1 r1.2.2.1 r1.2.2.2.1 r1.2.2.2.2.1 r1.2.2.2.2.2.1 r1.2.2.2.2.2.2.1
     else
     none
    else
    none
   else
   none
  else
  none
 else
 bif (v4 == (v1.length : Int)) then
  bif (v5 == (v2.length : Int)) then
   some (((v14 == v7) && (((v15 == v8) && ((v16 == v9) && true)) && ((((v17 == v10) && ((v18 == v11) && true)) && ((v19 == v12) && ((v20 == v13) && true))) && true))))
  else
  some (false)
 else
 some (false)
theorem o6.run (Kn524282 : QQ) (H4194259 : Code) (H134216269 : Code) (v0 : ByteArray) (v1 : List ByteArray) (v2 : List Int) (v3 : ByteArray) (v4 v5 v6 v7 v8 v9 v10 v11 v12 v13 v14 v15 v16 v17 v18 v19 v20 : Int) : runC C (O N) N (.seq (c 2097128) (.seq (.block 3 (.seq (c 16777032) (.seq (c 33554066) (.seq (.seq (c 134216268) H134216269) (c 67108135))))) H4194259)) 1048564 (s6 v0 v1 v2 v3 v4 v5 v6 v7 v8 v9 v10 v11 v12 v13 v14 v15 v16 v17 v18 v19 v20) ((fun up => (onN (fun s => C.tidy 524282 s ((onN Kn524282 up) .normal)) (onN Kn524282 up))) (blockK 2 (onN (tk C (O N) N c 131070 131071 K0) K0))) = o6 N v0 v1 v2 v3 v4 v5 v6 v7 v8 v9 v10 v11 v12 v13 v14 v15 v16 v17 v18 v19 v20 ((fun w0 w1 w2 w3 w4 w5 w6 w7 w8 w9 w10 w11 w12 w13 w14 w15 w16 w17 w18 w19 w20 => runC C (O N) N H4194259 4194259 (s7 w0 w1 w2 w3 w4 w5 w6 w7 w8 w9 w10 w11 w12 w13 w14 w15 w16 w17 w18 w19 w20) ((fun up => (onN (fun s => C.tidy 524282 s ((onN Kn524282 up) .normal)) (onN Kn524282 up))) (blockK 2 (onN (tk C (O N) N c 131070 131071 K0) K0))))) ((fun w0 w1 w2 w3 w4 w5 w6 w7 w8 w9 w10 w11 w12 w13 w14 w15 w16 w17 w18 w19 w20 w21 w22 w23 w24 w25 w26 w27 w28 => runC C (O N) N H134216269 134216269 (s8 w0 w1 w2 w3 w4 w5 w6 w7 w8 w9 w10 w11 w12 w13 w14 w15 w16 w17 w18 w19 w20 w21 w22 w23 w24 w25 w26 w27 w28) ((fun up => (onN (tk C (O N) N c 67108134 67108135 up) up)) (blockK 3 ((fun up => (onN (fun s => C.tidy 4194258 s (fun s' => runC C (O N) N H4194259 4194259 s' up)) up)) ((fun up => (onN (fun s => C.tidy 524282 s ((onN Kn524282 up) .normal)) (onN Kn524282 up))) (blockK 2 (onN (tk C (O N) N c 131070 131071 K0) K0)))))))) := by kernel_rfl
noncomputable def d6 (v0 : ByteArray) (v1 : List ByteArray) (v2 : List Int) (v3 : ByteArray) (v4 v5 v6 v7 v8 v9 v10 v11 v12 v13 v14 v15 v16 v17 v18 v19 v20 : Int) (c6 : t6) : Option R := o6 N v0 v1 v2 v3 v4 v5 v6 v7 v8 v9 v10 v11 v12 v13 v14 v15 v16 v17 v18 v19 v20 (d7 N · · · · · · · · · · · · · · · · · · · · · c6) (d8 N · · · · · · · · · · · · · · · · · · · · · · · · · · · · · c6)
theorem c1048564_6 : (c 1048564) = (.seq (c 2097128) (.seq (.block 3 (.seq (c 16777032) (.seq (c 33554066) (.seq (.seq (c 134216268) (c 134216269)) (c 67108135))))) (c 4194259))) := by kernel_rfl
theorem d6.run (Kn524282 : QQ) (v0 : ByteArray) (v1 : List ByteArray) (v2 : List Int) (v3 : ByteArray) (v4 v5 v6 v7 v8 v9 v10 v11 v12 v13 v14 v15 v16 v17 v18 v19 v20 : Int) : runC C (O N) N (c 1048564) 1048564 (s6 v0 v1 v2 v3 v4 v5 v6 v7 v8 v9 v10 v11 v12 v13 v14 v15 v16 v17 v18 v19 v20) (K1048564 N Kn524282) = d6 N v0 v1 v2 v3 v4 v5 v6 v7 v8 v9 v10 v11 v12 v13 v14 v15 v16 v17 v18 v19 v20 (Kn524282 <| s6 · · · · · · · · · · · · · · · · · · · · ·) := by
  rw [c1048564_6]; unfold d6; exact (o6.run N Kn524282 (c 4194259) (c 134216269) v0 v1 v2 v3 v4 v5 v6 v7 v8 v9 v10 v11 v12 v13 v14 v15 v16 v17 v18 v19 v20).trans (congr (congr rfl (fx21 (d7.run N Kn524282))) (fx29 (d8.run N Kn524282)))
noncomputable def K524282 : Ex → QQ := (blockK 2 (onN (tk C (O N) N c 131070 131071 K0) K0))
noncomputable def l6 (N : Nat) : Nat → ByteArray → (List ByteArray) → (List Int) → ByteArray → Int → Int → Int → Int → Int → Int → Int → Int → Int → Int → Int → Int → Int → Int → Int → Int → Int → Option R
  | 0, _, _, _, _, _, _, _, _, _, _, _, _, _, _, _, _, _, _, _, _, _ => none
  | n + 1, v0, v1, v2, v3, v4, v5, v6, v7, v8, v9, v10, v11, v12, v13, v14, v15, v16, v17, v18, v19, v20 => d6 N v0 v1 v2 v3 v4 v5 v6 v7 v8 v9 v10 v11 v12 v13 v14 v15 v16 v17 v18 v19 v20 (l6 N n · · · · · · · · · · · · · · · · · · · · ·)
theorem loop524282 (N : Nat) : ∀ n, (∀ (v0 : ByteArray) (v1 : List ByteArray) (v2 : List Int) (v3 : ByteArray) (v4 v5 v6 v7 v8 v9 v10 v11 v12 v13 v14 v15 v16 v17 v18 v19 v20 : Int), iter (loopF C (O N) N (c 1048564) 524282) n (s6 v0 v1 v2 v3 v4 v5 v6 v7 v8 v9 v10 v11 v12 v13 v14 v15 v16 v17 v18 v19 v20) (K524282 N) = l6 N n v0 v1 v2 v3 v4 v5 v6 v7 v8 v9 v10 v11 v12 v13 v14 v15 v16 v17 v18 v19 v20)
  | 0 => (fun v0 v1 v2 v3 v4 v5 v6 v7 v8 v9 v10 v11 v12 v13 v14 v15 v16 v17 v18 v19 v20 => rfl)
  | n + 1 => (fun v0 v1 v2 v3 v4 v5 v6 v7 v8 v9 v10 v11 v12 v13 v14 v15 v16 v17 v18 v19 v20 => (d6.run N (fun s => iter (loopF C (O N) N (c 1048564) 524282) n s (K524282 N)) v0 v1 v2 v3 v4 v5 v6 v7 v8 v9 v10 v11 v12 v13 v14 v15 v16 v17 v18 v19 v20).trans (show _ = d6 N v0 v1 v2 v3 v4 v5 v6 v7 v8 v9 v10 v11 v12 v13 v14 v15 v16 v17 v18 v19 v20 (l6 N n · · · · · · · · · · · · · · · · · · · · ·) from (congr rfl (fx21 ((loop524282 N n))))))
noncomputable def K8191 (N : Nat) : Ex → QQ := K0
noncomputable def o4 (v0 : ByteArray) (v1 : List ByteArray) (v2 : List Int) (v3 v4 v5 v6 v7 v8 v9 : Int) (c6 : t6) : Option R :=
 (zq12.g N).bind fun r1 =>
 c6 v0 v1 v2 (⟨#[]⟩ : ByteArray) 0 0 0 v3 v4 v5 v6 v7 v8 v9 r1.1 r1.2.1 r1.2.2.1 r1.2.2.2.1 r1.2.2.2.2.1 r1.2.2.2.2.2.1 r1.2.2.2.2.2.2
theorem o4.run (H1048564 : Code) (v0 : ByteArray) (v1 : List ByteArray) (v2 : List Int) (v3 v4 v5 v6 v7 v8 v9 : Int) : runC C (O N) N (.seq (c 16382) (.seq (c 32766) (.seq (c 65534) (.seq (.seq (c 262140) (.block 2 (.loop H1048564))) (c 131071))))) 8191 (s4 v0 v1 v2 v3 v4 v5 v6 v7 v8 v9) K0 = o4 N v0 v1 v2 v3 v4 v5 v6 v7 v8 v9 ((fun w0 w1 w2 w3 w4 w5 w6 w7 w8 w9 w10 w11 w12 w13 w14 w15 w16 w17 w18 w19 w20 => iter (loopF C (O N) N H1048564 524282) N (s6 w0 w1 w2 w3 w4 w5 w6 w7 w8 w9 w10 w11 w12 w13 w14 w15 w16 w17 w18 w19 w20) (blockK 2 (onN (tk C (O N) N c 131070 131071 K0) K0)))) := by kernel_rfl
noncomputable def d4 (v0 : ByteArray) (v1 : List ByteArray) (v2 : List Int) (v3 v4 v5 v6 v7 v8 v9 : Int) : Option R := o4 N v0 v1 v2 v3 v4 v5 v6 v7 v8 v9 (l6 N N · · · · · · · · · · · · · · · · · · · · ·)
theorem c8191_4 : (c 8191) = (.seq (c 16382) (.seq (c 32766) (.seq (c 65534) (.seq (.seq (c 262140) (.block 2 (.loop (c 1048564)))) (c 131071))))) := by kernel_rfl
theorem d4.run (v0 : ByteArray) (v1 : List ByteArray) (v2 : List Int) (v3 v4 v5 v6 v7 v8 v9 : Int) : runC C (O N) N (c 8191) 8191 (s4 v0 v1 v2 v3 v4 v5 v6 v7 v8 v9) (K8191 N) = d4 N v0 v1 v2 v3 v4 v5 v6 v7 v8 v9 := by
  rw [c8191_4]; unfold d4; exact (o4.run N (c 1048564) v0 v1 v2 v3 v4 v5 v6 v7 v8 v9).trans (congr rfl (fx21 ((loop524282 N N))))
noncomputable def B4095 : QQ := fun s' => runC C (O N) N (c 8191) 8191 s' (K8191 N)
noncomputable def K1048412 (Kn524206 : QQ) : Ex → QQ := ((fun up => (onN (fun s => C.tidy 524206 s ((onN Kn524206 up) .normal)) (onN Kn524206 up))) (blockK 0 (onN (fun s => C.tidy 8190 s (B4095 N)) K0)))
noncomputable def o5 (N : Nat) (v0 : ByteArray) (v1 : List ByteArray) (v2 : List Int) (v3 : List ByteArray) (v4 v5 v6 v7 v8 v9 v10 v11 : Int) (c5 : t5) (c4 : t4) : Option R :=
 bif (decide (v4 < (v3.length : Int))) then
  bif (decide (0 ≤ v4)) then
   bif (decide (v4 < (v3.length : Int))) then
    (v3[(v4 : Int).toNat]?).bind fun x1 =>
    bif (decide (0 ≤ v4)) then
     bif (decide (v4 < (v1.length : Int))) then
      (v1[(v4 : Int).toNat]?).bind fun x2 =>
      bif (!(x1.toList == x2.toList)) then
       some (false)
      else
      c5 v0 v1 v2 v3 (w64 (v4 + 1)) v5 v6 v7 v8 v9 v10 v11
     else
     none
    else
    none
   else
   none
  else
  none
 else
 c4 v0 v1 v2 v5 v6 v7 v8 v9 v10 v11
theorem o5.run (Kb4095 : QQ) (Kn524206 : QQ) (v0 : ByteArray) (v1 : List ByteArray) (v2 : List Int) (v3 : List ByteArray) (v4 v5 v6 v7 v8 v9 v10 v11 : Int) : runC C (O N) N (c 1048412) 1048412 (s5 v0 v1 v2 v3 v4 v5 v6 v7 v8 v9 v10 v11) ((fun up => (onN (fun s => C.tidy 524206 s ((onN Kn524206 up) .normal)) (onN Kn524206 up))) (blockK 0 (onN (fun s => C.tidy 8190 s Kb4095) K0))) = o5 N v0 v1 v2 v3 v4 v5 v6 v7 v8 v9 v10 v11 (Kn524206 <| s5 · · · · · · · · · · · ·) (Kb4095 <| s4 · · · · · · · · · ·) := by kernel_rfl
noncomputable def d5 (v0 : ByteArray) (v1 : List ByteArray) (v2 : List Int) (v3 : List ByteArray) (v4 v5 v6 v7 v8 v9 v10 v11 : Int) (c5 : t5) : Option R := o5 N v0 v1 v2 v3 v4 v5 v6 v7 v8 v9 v10 v11 c5 (d4 N · · · · · · · · · ·)
theorem d5.run (Kn524206 : QQ) (v0 : ByteArray) (v1 : List ByteArray) (v2 : List Int) (v3 : List ByteArray) (v4 v5 v6 v7 v8 v9 v10 v11 : Int) : runC C (O N) N (c 1048412) 1048412 (s5 v0 v1 v2 v3 v4 v5 v6 v7 v8 v9 v10 v11) (K1048412 N Kn524206) = d5 N v0 v1 v2 v3 v4 v5 v6 v7 v8 v9 v10 v11 (Kn524206 <| s5 · · · · · · · · · · · ·) := by
  unfold d5; exact (o5.run N (B4095 N) Kn524206 v0 v1 v2 v3 v4 v5 v6 v7 v8 v9 v10 v11).trans (congr (congr rfl rfl) (fx10 (d4.run N)))
noncomputable def K524206 : Ex → QQ := (blockK 0 (onN (fun s => C.tidy 8190 s (B4095 N)) K0))
noncomputable def l5 (N : Nat) : Nat → ByteArray → (List ByteArray) → (List Int) → (List ByteArray) → Int → Int → Int → Int → Int → Int → Int → Int → Option R
  | 0, _, _, _, _, _, _, _, _, _, _, _, _ => none
  | n + 1, v0, v1, v2, v3, v4, v5, v6, v7, v8, v9, v10, v11 => d5 N v0 v1 v2 v3 v4 v5 v6 v7 v8 v9 v10 v11 (l5 N n · · · · · · · · · · · ·)
theorem loop524206 (N : Nat) : ∀ n, (∀ (v0 : ByteArray) (v1 : List ByteArray) (v2 : List Int) (v3 : List ByteArray) (v4 v5 v6 v7 v8 v9 v10 v11 : Int), iter (loopF C (O N) N (c 1048412) 524206) n (s5 v0 v1 v2 v3 v4 v5 v6 v7 v8 v9 v10 v11) (K524206 N) = l5 N n v0 v1 v2 v3 v4 v5 v6 v7 v8 v9 v10 v11)
  | 0 => (fun v0 v1 v2 v3 v4 v5 v6 v7 v8 v9 v10 v11 => rfl)
  | n + 1 => (fun v0 v1 v2 v3 v4 v5 v6 v7 v8 v9 v10 v11 => (d5.run N (fun s => iter (loopF C (O N) N (c 1048412) 524206) n s (K524206 N)) v0 v1 v2 v3 v4 v5 v6 v7 v8 v9 v10 v11).trans (show _ = d5 N v0 v1 v2 v3 v4 v5 v6 v7 v8 v9 v10 v11 (l5 N n · · · · · · · · · · · ·) from (congr rfl (fx12 ((loop524206 N n))))))
noncomputable def K262101 : Ex → QQ := ((fun up => (onN (tk C (O N) N c 131050 131051 up) up)) (onN (fun s => C.tidy 8190 s (B4095 N)) K0))
noncomputable def o3 (N : Nat) (v0 : ByteArray) (v1 : List ByteArray) (v2 : List Int) (v3 : List ByteArray) (v4 : Bool) (v5 v6 v7 v8 v9 v10 v11 : Int) (c5 : t5) : Option R :=
 bif v4 then
  some (false)
 else
 c5 v0 v1 v2 v3 0 v5 v6 v7 v8 v9 v10 v11
theorem o3.run (Kb4095 : QQ) (H1048412 : Code) (v0 : ByteArray) (v1 : List ByteArray) (v2 : List Int) (v3 : List ByteArray) (v4 : Bool) (v5 v6 v7 v8 v9 v10 v11 : Int) : runC C (O N) N (c 262101) 262101 (s3 v0 v1 v2 v3 v4 v5 v6 v7 v8 v9 v10 v11) (onN (fun s => C.tidy 131050 s (fun s' => runC C (O N) N (.seq (c 262102) (.block 0 (.loop H1048412))) 131051 s' (onN (fun s => C.tidy 8190 s Kb4095) K0))) (onN (fun s => C.tidy 8190 s Kb4095) K0)) = o3 N v0 v1 v2 v3 v4 v5 v6 v7 v8 v9 v10 v11 ((fun w0 w1 w2 w3 w4 w5 w6 w7 w8 w9 w10 w11 => iter (loopF C (O N) N H1048412 524206) N (s5 w0 w1 w2 w3 w4 w5 w6 w7 w8 w9 w10 w11) (blockK 0 (onN (fun s => C.tidy 8190 s Kb4095) K0)))) := by kernel_rfl
noncomputable def d3 (v0 : ByteArray) (v1 : List ByteArray) (v2 : List Int) (v3 : List ByteArray) (v4 : Bool) (v5 v6 v7 v8 v9 v10 v11 : Int) : Option R := o3 N v0 v1 v2 v3 v4 v5 v6 v7 v8 v9 v10 v11 (l5 N N · · · · · · · · · · · ·)
theorem d3.run (v0 : ByteArray) (v1 : List ByteArray) (v2 : List Int) (v3 : List ByteArray) (v4 : Bool) (v5 v6 v7 v8 v9 v10 v11 : Int) : runC C (O N) N (c 262101) 262101 (s3 v0 v1 v2 v3 v4 v5 v6 v7 v8 v9 v10 v11) (K262101 N) = d3 N v0 v1 v2 v3 v4 v5 v6 v7 v8 v9 v10 v11 := by
  unfold d3; exact (o3.run N (B4095 N) (c 1048412) v0 v1 v2 v3 v4 v5 v6 v7 v8 v9 v10 v11).trans (congr rfl (fx12 ((loop524206 N N))))
noncomputable def K16381 : Ex → QQ := (onN (fun s => C.tidy 8190 s (B4095 N)) K0)
noncomputable def o2 (v0 : ByteArray) (v1 : Int) (v2 : List ByteArray) (v3 : List Int) (v4 : Bool) (v5 v6 v7 v8 v9 v10 v11 : Int) (c3 : t3) (c4 : t4) : Option R :=
 bif v4 then
  bif (decide (0 ≤ v1)) then
   bif (decide (v1 ≤ (v0.size : Int))) then
    bif (decide (0 ≤ v1)) then
     (zq30.g N (v0.extract (0 : Int).toNat (v1 : Int).toNat)).bind fun r1 =>
     bif (!r1.2) then
      c3 v0 v2 v3 r1.1 true v5 v6 v7 v8 v9 v10 v11
     else
     c3 v0 v2 v3 r1.1 (decide ((r1.1.length : Int) > (v2.length : Int))) v5 v6 v7 v8 v9 v10 v11
    else
    none
   else
   none
  else
  none
 else
 c4 v0 v2 v3 v5 v6 v7 v8 v9 v10 v11
theorem o2.run (Kb4095 : QQ) (H262101 : Code) (v0 : ByteArray) (v1 : Int) (v2 : List ByteArray) (v3 : List Int) (v4 : Bool) (v5 v6 v7 v8 v9 v10 v11 : Int) : runC C (O N) N (.cond (.tmp 116) (.seq (c 65524) (.seq (.seq (c 262100) H262101) (c 131051))) (c 32763)) 16381 (s2 v0 v1 v2 v3 v4 v5 v6 v7 v8 v9 v10 v11) (onN (fun s => C.tidy 8190 s Kb4095) K0) = o2 N v0 v1 v2 v3 v4 v5 v6 v7 v8 v9 v10 v11 ((fun w0 w1 w2 w3 w4 w5 w6 w7 w8 w9 w10 w11 => runC C (O N) N H262101 262101 (s3 w0 w1 w2 w3 w4 w5 w6 w7 w8 w9 w10 w11) (onN (fun s => C.tidy 131050 s (fun s' => runC C (O N) N (c 131051) 131051 s' (onN (fun s => C.tidy 8190 s Kb4095) K0))) (onN (fun s => C.tidy 8190 s Kb4095) K0)))) (Kb4095 <| s4 · · · · · · · · · ·) := by kernel_rfl
noncomputable def d2 (v0 : ByteArray) (v1 : Int) (v2 : List ByteArray) (v3 : List Int) (v4 : Bool) (v5 v6 v7 v8 v9 v10 v11 : Int) : Option R := o2 N v0 v1 v2 v3 v4 v5 v6 v7 v8 v9 v10 v11 (d3 N · · · · · · · · · · · ·) (d4 N · · · · · · · · · ·)
theorem c16381_2 : (c 16381) = (.cond (.tmp 116) (.seq (c 65524) (.seq (.seq (c 262100) (c 262101)) (c 131051))) (c 32763)) := by kernel_rfl
theorem d2.run (v0 : ByteArray) (v1 : Int) (v2 : List ByteArray) (v3 : List Int) (v4 : Bool) (v5 v6 v7 v8 v9 v10 v11 : Int) : runC C (O N) N (c 16381) 16381 (s2 v0 v1 v2 v3 v4 v5 v6 v7 v8 v9 v10 v11) (K16381 N) = d2 N v0 v1 v2 v3 v4 v5 v6 v7 v8 v9 v10 v11 := by
  rw [c16381_2]; unfold d2; exact (o2.run N (B4095 N) (c 262101) v0 v1 v2 v3 v4 v5 v6 v7 v8 v9 v10 v11).trans (congr (congr rfl (fx12 (d3.run N))) (fx10 (d4.run N)))
noncomputable def K4093 : Ex → QQ := (onN (tk C (O N) N c 2046 2047 K0) K0)
noncomputable def o1 (N : Nat) (v0 : ByteArray) (v1 : Int) (v2 : List ByteArray) (v3 : Bool) (v4 : List Int) (v5 : Bool) (v6 v7 v8 v9 v10 v11 v12 : Int) (c2 : t2) : Option R :=
 bif v5 then
  some (false)
 else
 bif (!v3) then
  some (true)
 else
 bif (decide (v1 ≥ 0)) then
  bif (decide (v1 ≤ (v0.size : Int))) then
   bif (v1 == 0) then
    c2 v0 v1 v2 v4 true v6 v7 v8 v9 v10 v11 v12
   else
   bif (decide (0 ≤ (w64 (v1 - 1)))) then
    bif (decide ((w64 (v1 - 1)) < (v0.size : Int))) then
     c2 v0 v1 v2 v4 ((bt v0 (w64 (v1 - 1))) == 10) v6 v7 v8 v9 v10 v11 v12
    else
    none
   else
   none
  else
  c2 v0 v1 v2 v4 false v6 v7 v8 v9 v10 v11 v12
 else
 c2 v0 v1 v2 v4 false v6 v7 v8 v9 v10 v11 v12
theorem o1.run (H16381 : Code) (v0 : ByteArray) (v1 : Int) (v2 : List ByteArray) (v3 : Bool) (v4 : List Int) (v5 : Bool) (v6 v7 v8 v9 v10 v11 v12 : Int) : runC C (O N) N (c 4093) 4093 (s1 v0 v1 v2 v3 v4 v5 v6 v7 v8 v9 v10 v11 v12) (onN (fun s => C.tidy 2046 s (fun s' => runC C (O N) N (.seq (c 4094) (.seq (.seq (c 16380) H16381) (c 8191))) 2047 s' K0)) K0) = o1 N v0 v1 v2 v3 v4 v5 v6 v7 v8 v9 v10 v11 v12 ((fun w0 w1 w2 w3 w4 w5 w6 w7 w8 w9 w10 w11 => runC C (O N) N H16381 16381 (s2 w0 w1 w2 w3 w4 w5 w6 w7 w8 w9 w10 w11) (onN (tk C (O N) N c 8190 8191 K0) K0))) := by kernel_rfl
noncomputable def d1 (v0 : ByteArray) (v1 : Int) (v2 : List ByteArray) (v3 : Bool) (v4 : List Int) (v5 : Bool) (v6 v7 v8 v9 v10 v11 v12 : Int) : Option R := o1 N v0 v1 v2 v3 v4 v5 v6 v7 v8 v9 v10 v11 v12 (d2 N · · · · · · · · · · · ·)
theorem d1.run (v0 : ByteArray) (v1 : Int) (v2 : List ByteArray) (v3 : Bool) (v4 : List Int) (v5 : Bool) (v6 v7 v8 v9 v10 v11 v12 : Int) : runC C (O N) N (c 4093) 4093 (s1 v0 v1 v2 v3 v4 v5 v6 v7 v8 v9 v10 v11 v12) (K4093 N) = d1 N v0 v1 v2 v3 v4 v5 v6 v7 v8 v9 v10 v11 v12 := by
  unfold d1; exact (o1.run N (c 16381) v0 v1 v2 v3 v4 v5 v6 v7 v8 v9 v10 v11 v12).trans (congr rfl (fx12 (d2.run N)))
noncomputable def o0 (a0 : ByteArray) (a1 : Int) (c1 : t1) : Option R :=
 (zq89.g N).bind fun r1 =>
 bif (!r1) then
  some (false)
 else
 bif (decide ((a0.size : Int) > 1048576)) then
  some (true)
 else
 (zq30.g N a0).bind fun r2 =>
 (zq111.g N a0).bind fun r3 =>
 (zq8.g N a0).bind fun r4 =>
 (zq11.g N a0).bind fun r5 =>
 (zq99.g N a0).bind fun r6 =>
 (zq102.g N a0).bind fun r7 =>
 bif (!(r2.2 == r3.2)) then
  c1 a0 a1 r2.1 r2.2 r5.1 true r4.1 r4.2.1 r4.2.2.1 r4.2.2.2.1 r4.2.2.2.2.1 r4.2.2.2.2.2.1 r4.2.2.2.2.2.2.1
 else
 (zq91.g N r2.1 r3.1).bind fun r8 =>
 bif (!r8) then
  c1 a0 a1 r2.1 r2.2 r5.1 true r4.1 r4.2.1 r4.2.2.1 r4.2.2.2.1 r4.2.2.2.2.1 r4.2.2.2.2.2.1 r4.2.2.2.2.2.2.1
 else
 bif (!(r4.2.2.2.2.2.2.2 == r2.2)) then
  c1 a0 a1 r2.1 r2.2 r5.1 true r4.1 r4.2.1 r4.2.2.1 r4.2.2.2.1 r4.2.2.2.2.1 r4.2.2.2.2.2.1 r4.2.2.2.2.2.2.1
 else
 bif (!(r5.2 == r2.2)) then
  c1 a0 a1 r2.1 r2.2 r5.1 true r4.1 r4.2.1 r4.2.2.1 r4.2.2.2.1 r4.2.2.2.2.1 r4.2.2.2.2.2.1 r4.2.2.2.2.2.2.1
 else
 bif r2.2 then
  bif (!((r4.1 == r6.1) && (((r4.2.1 == r6.2.1) && ((r4.2.2.1 == r6.2.2.1) && true)) && ((((r4.2.2.2.1 == r6.2.2.2.1) && ((r4.2.2.2.2.1 == r6.2.2.2.2.1) && true)) && ((r4.2.2.2.2.2.1 == r6.2.2.2.2.2.1) && ((r4.2.2.2.2.2.2.1 == r6.2.2.2.2.2.2.1) && true))) && true)))) then
   c1 a0 a1 r2.1 r2.2 r5.1 true r4.1 r4.2.1 r4.2.2.1 r4.2.2.2.1 r4.2.2.2.2.1 r4.2.2.2.2.2.1 r4.2.2.2.2.2.2.1
  else
  (zq90.g N r5.1 r7.1).bind fun r9 =>
  c1 a0 a1 r2.1 r2.2 r5.1 (!r9) r4.1 r4.2.1 r4.2.2.1 r4.2.2.2.1 r4.2.2.2.2.1 r4.2.2.2.2.2.1 r4.2.2.2.2.2.2.1
 else
 c1 a0 a1 r2.1 r2.2 r5.1 false r4.1 r4.2.1 r4.2.2.1 r4.2.2.2.1 r4.2.2.2.2.1 r4.2.2.2.2.2.1 r4.2.2.2.2.2.2.1
theorem o0.run (H4093 : Code) (a0 : ByteArray) (a1 : Int) : runC C (O N) N (.seq (c 2) (.seq (c 6) (.seq (c 14) (.seq (c 30) (.seq (c 62) (.seq (c 126) (.seq (c 254) (.seq (c 510) (.seq (c 1022) (.seq (.seq (c 4092) H4093) (c 2047))))))))))) 1 (st0 [.one (.str a0), .one (.int .i64 a1)] [] : St D0) K0 = o0 N a0 a1 ((fun w0 w1 w2 w3 w4 w5 w6 w7 w8 w9 w10 w11 w12 => runC C (O N) N H4093 4093 (s1 w0 w1 w2 w3 w4 w5 w6 w7 w8 w9 w10 w11 w12) (onN (tk C (O N) N c 2046 2047 K0) K0))) := by kernel_rfl
noncomputable def g (a0 : ByteArray) (a1 : Int) : Option R := o0 N a0 a1 (d1 N · · · · · · · · · · · · ·)
theorem c1_0 : (c 1) = (.seq (c 2) (.seq (c 6) (.seq (c 14) (.seq (c 30) (.seq (c 62) (.seq (c 126) (.seq (c 254) (.seq (c 510) (.seq (c 1022) (.seq (.seq (c 4092) (c 4093)) (c 2047))))))))))) := by kernel_rfl
theorem g.run (a0 : ByteArray) (a1 : Int) : runC C (O N) N (c 1) 1 (st0 [.one (.str a0), .one (.int .i64 a1)] [] : St D0) K0 = g N a0 a1 := by
  rw [c1_0]; unfold g; exact (o0.run N (c 4093) a0 a1).trans (congr rfl (fx13 (d1.run N)))
theorem good (a0 : ByteArray) (a1 : Int) (r : R) (h : g N a0 a1 = some r) : Go.PM.Good Tryz.prog T0 4 [.one (.str a0), .one (.int .i64 a1)] [] (sig.ret r) (sig.bs r) :=
  good_fnC C tabOk0 mixed0 sig (E N) Tryz.func4 (by kernel_rfl) (by kernel_rfl) [(false, [.any])] (by kernel_rfl) rfl rfl ((g.run N a0 a1).trans h)
noncomputable def ent : Ent Tryz.prog T0 := mkEnt 4 [(false, [.any]), (false, [.any])] sig (fun t => g N t.1 t.2) (fun t r h => good N t.1 t.2 r h)
end zq82
def FnTopOfAll.Pure : Prop := ∀ (y0 : ByteArray) (y1 : Int), (y0.size ≤ 140737488351232) → ((Lit.int .i64 y1).wf = true) → ∃ N, zq82.g N y0 y1 = some true
end Go.Proofs.YtdidghlibfopgaaGreatDoor.M
