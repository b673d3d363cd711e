/- What the program's functions compute, walked by the machine (part 4). No conditions but those stated. -/
import Derived.Test.YtdidghlibfopgaaGreatDoorFnFnExactDeskAfter3
namespace Go.Proofs.YtdidghlibfopgaaGreatDoor.M
open Go Go.PM Go.Proofs.YtdidghlibfopgaaGreatDoor.P
set_option linter.unusedVariables false
set_option maxRecDepth 100000
namespace zq70
variable (N : Nat)
abbrev R : Type := List ByteArray × Int × Int × Int × Int × Int × Int × Int × Bool
abbrev QQ : Type := St D0 → Option R
abbrev sig : Sig := ⟨[(false, 1)], [], [.str], [(false, 1), (true, 7), (false, 1)], [], [.sl true 9, .int .i64, .int .i64, .int .i64, .int .i64, .int .i64, .int .i64, .int .i64, .bool]⟩
noncomputable def C : Cfg D0 := ⟨Tryz.prog, T0, 2063731793405, 0, 57, 0, [(60, [3, 5, 6, 31], [3]), (1018, [3, 7, 8, 37, 38, 39], [3, 7])], 35288001060864, false, []⟩
noncomputable def E : List (Ent Tryz.prog T0) := [zq161.ent N, zq11.ent N, zq46.ent N]
noncomputable def O : Orc D0 R := orcOf (E N)
noncomputable def K0 : Ex → QQ := exitK C Tryz.f49.results.toList [(false, [.own 9]), (true, [.any, .any, .any, .any, .any, .any, .any]), (false, [.any])] (decOut sig)
noncomputable def c (p : Nat) : Code := codeAt (Tryz.f49.body.getD .skip) (pathN p)
abbrev t1 : Type := (List ByteArray) → Int → Bool → Int → Int → Int → Int → Int → Int → Int → Option R
abbrev t2 : Type := (List ByteArray) → (List ByteArray) → Int → Int → Int → Int → Int → Int → Int → Int → Int → Int → Int → Int → Int → Int → Int → Int → Option R
noncomputable def s1 (v0 : List ByteArray) (v1 : Int) (v2 : Bool) (v3 v4 v5 v6 v7 v8 v9 : Int) : St D0 := mkSt [(3, .one (.ptr 3 0)), (5, .one (.sl true 9 v0)), (6, .one (.int .i64 v1)), (31, .one (.bool v2))] [(3, some (29, [.int .i64 v3, .int .i64 v4, .int .i64 v5, .int .i64 v6, .int .i64 v7, .int .i64 v8, .int .i64 v9]))]
noncomputable def s2 (v0 v1 : List ByteArray) (v2 v3 v4 v5 v6 v7 v8 v9 v10 v11 v12 v13 v14 v15 v16 v17 : Int) : St D0 := mkSt [(3, .one (.ptr 3 0)), (7, .one (.ptr 7 0)), (8, .one (.sl true 9 v0)), (37, .one (.sl false 9 v1)), (38, .one (.int .i64 v2)), (39, .one (.int .i64 v3))] [(3, some (29, [.int .i64 v4, .int .i64 v5, .int .i64 v6, .int .i64 v7, .int .i64 v8, .int .i64 v9, .int .i64 v10])), (7, some (29, [.int .i64 v11, .int .i64 v12, .int .i64 v13, .int .i64 v14, .int .i64 v15, .int .i64 v16, .int .i64 v17]))]
noncomputable def K2036 (Kn1018 : QQ) : Ex → QQ := ((fun up => (onN (fun s => C.tidy 1018 s ((onN Kn1018 up) .normal)) (onN Kn1018 up))) (blockK 0 (onN (fun s => C.tidy 254 s (fun s' => runC C (O N) N (c 255) 255 s' K0)) K0)))
noncomputable def o2 (v0 v1 : List ByteArray) (v2 v3 v4 v5 v6 v7 v8 v9 v10 v11 v12 v13 v14 v15 v16 v17 : Int) (c2 : t2) : Option R :=
 bif (decide (v3 < v2)) then
  bif (decide (0 ≤ v3)) then
   bif (decide (v3 < (v1.length : Int))) then
    (v1[(v3 : Int).toNat]?).bind fun x1 =>
    (zq46.g N v11 v12 v13 v14 v15 v16 v17 x1).bind fun r2 =>
    bif (Nat.blt (v0.length + ([r2.2.2.2.2.2.2.2] : List ByteArray).length) 8796093022208) then
     c2 (v0 ++ ([r2.2.2.2.2.2.2.2] : List ByteArray)) v1 v2 (w64 (v3 + 1)) v4 v5 v6 v7 v8 v9 v10 r2.1 r2.2.1 r2.2.2.1 r2.2.2.2.1 r2.2.2.2.2.1 r2.2.2.2.2.2.1 r2.2.2.2.2.2.2.1
    else
    none
   else
   none
  else
  none
 else
 some (v0, v11, v12, v13, v14, v15, v16, v17, true)
noncomputable def d2 (v0 v1 : List ByteArray) (v2 v3 v4 v5 v6 v7 v8 v9 v10 v11 v12 v13 v14 v15 v16 v17 : Int) (c2 : t2) : Option R := o2 N v0 v1 v2 v3 v4 v5 v6 v7 v8 v9 v10 v11 v12 v13 v14 v15 v16 v17 c2
theorem d2.run (Kn1018 : QQ) (v0 v1 : List ByteArray) (v2 v3 v4 v5 v6 v7 v8 v9 v10 v11 v12 v13 v14 v15 v16 v17 : Int) : runC C (O N) N (c 2036) 2036 (s2 v0 v1 v2 v3 v4 v5 v6 v7 v8 v9 v10 v11 v12 v13 v14 v15 v16 v17) (K2036 N Kn1018) = d2 N v0 v1 v2 v3 v4 v5 v6 v7 v8 v9 v10 v11 v12 v13 v14 v15 v16 v17 ((fun w0 w1 w2 w3 w4 w5 w6 w7 w8 w9 w10 w11 w12 w13 w14 w15 w16 w17 => Kn1018 (s2 w0 w1 w2 w3 w4 w5 w6 w7 w8 w9 w10 w11 w12 w13 w14 w15 w16 w17))) := by kernel_rfl
noncomputable def K1018 : Ex → QQ := (blockK 0 (onN (fun s => C.tidy 254 s (fun s' => runC C (O N) N (c 255) 255 s' K0)) K0))
noncomputable def l2 (N : Nat) : Nat → (List ByteArray) → (List ByteArray) → Int → Int → Int → Int → Int → Int → Int → Int → Int → Int → Int → Int → Int → Int → Int → Int → Option R
  | 0, _, _, _, _, _, _, _, _, _, _, _, _, _, _, _, _, _, _ => none
  | n + 1, v0, v1, v2, v3, v4, v5, v6, v7, v8, v9, v10, v11, v12, v13, v14, v15, v16, v17 => d2 N v0 v1 v2 v3 v4 v5 v6 v7 v8 v9 v10 v11 v12 v13 v14 v15 v16 v17 ((fun w0 w1 w2 w3 w4 w5 w6 w7 w8 w9 w10 w11 w12 w13 w14 w15 w16 w17 => l2 N n w0 w1 w2 w3 w4 w5 w6 w7 w8 w9 w10 w11 w12 w13 w14 w15 w16 w17))
theorem loop1018 (N : Nat) : ∀ n, (∀ (v0 v1 : List ByteArray) (v2 v3 v4 v5 v6 v7 v8 v9 v10 v11 v12 v13 v14 v15 v16 v17 : Int), iter (loopF C (O N) N (c 2036) 1018) n (s2 v0 v1 v2 v3 v4 v5 v6 v7 v8 v9 v10 v11 v12 v13 v14 v15 v16 v17) (K1018 N) = l2 N n v0 v1 v2 v3 v4 v5 v6 v7 v8 v9 v10 v11 v12 v13 v14 v15 v16 v17)
  | 0 => (fun v0 v1 v2 v3 v4 v5 v6 v7 v8 v9 v10 v11 v12 v13 v14 v15 v16 v17 => rfl)
  | n + 1 => (fun v0 v1 v2 v3 v4 v5 v6 v7 v8 v9 v10 v11 v12 v13 v14 v15 v16 v17 => (d2.run N (fun s => iter (loopF C (O N) N (c 2036) 1018) n s (K1018 N)) v0 v1 v2 v3 v4 v5 v6 v7 v8 v9 v10 v11 v12 v13 v14 v15 v16 v17).trans (show _ = d2 N v0 v1 v2 v3 v4 v5 v6 v7 v8 v9 v10 v11 v12 v13 v14 v15 v16 v17 ((fun w0 w1 w2 w3 w4 w5 w6 w7 w8 w9 w10 w11 w12 w13 w14 w15 w16 w17 => l2 N n w0 w1 w2 w3 w4 w5 w6 w7 w8 w9 w10 w11 w12 w13 w14 w15 w16 w17)) from (congr rfl (funext fun w0 => funext fun w1 => funext fun w2 => funext fun w3 => funext fun w4 => funext fun w5 => funext fun w6 => funext fun w7 => funext fun w8 => funext fun w9 => funext fun w10 => funext fun w11 => funext fun w12 => funext fun w13 => funext fun w14 => funext fun w15 => funext fun w16 => funext fun w17 => (loop1018 N n) w0 w1 w2 w3 w4 w5 w6 w7 w8 w9 w10 w11 w12 w13 w14 w15 w16 w17))))
noncomputable def K61 : Ex → QQ := (onN (fun s => C.tidy 30 s (fun s' => runC C (O N) N (c 31) 31 s' K0)) K0)
noncomputable def o1 (v0 : List ByteArray) (v1 : Int) (v2 : Bool) (v3 v4 v5 v6 v7 v8 v9 : Int) (c2 : t2) : Option R :=
 bif v2 then
  some (([] : List ByteArray), 0, 0, 0, 0, 0, 0, 0, false)
 else
 (zq11.g N).bind fun r1 =>
 bif (decide (0 ≤ v1)) then
  bif (decide (v1 ≤ (v0.length : Int))) then
   bif (decide (0 ≤ v1)) then
    c2 ([] : List ByteArray) ((v0.take (v1 : Int).toNat).drop (0 : Int).toNat) (((v0.take (v1 : Int).toNat).drop (0 : Int).toNat).length : Int) 0 v3 v4 v5 v6 v7 v8 v9 r1.1 r1.2.1 r1.2.2.1 r1.2.2.2.1 r1.2.2.2.2.1 r1.2.2.2.2.2.1 r1.2.2.2.2.2.2
   else
   none
  else
  none
 else
 none
theorem o1.run (H2036 : Code) (v0 : List ByteArray) (v1 : Int) (v2 : Bool) (v3 v4 v5 v6 v7 v8 v9 : Int) : runC C (O N) N (c 61) 61 (s1 v0 v1 v2 v3 v4 v5 v6 v7 v8 v9) (onN (fun s => C.tidy 30 s (fun s' => runC C (O N) N (.seq (c 62) (.seq (c 126) (.seq (.seq (c 508) (.block 0 (.loop H2036))) (c 255)))) 31 s' K0)) K0) = o1 N v0 v1 v2 v3 v4 v5 v6 v7 v8 v9 ((fun w0 w1 w2 w3 w4 w5 w6 w7 w8 w9 w10 w11 w12 w13 w14 w15 w16 w17 => iter (loopF C (O N) N H2036 1018) N (s2 w0 w1 w2 w3 w4 w5 w6 w7 w8 w9 w10 w11 w12 w13 w14 w15 w16 w17) (blockK 0 (onN (fun s => C.tidy 254 s (fun s' => runC C (O N) N (c 255) 255 s' K0)) K0)))) := by kernel_rfl
noncomputable def d1 (v0 : List ByteArray) (v1 : Int) (v2 : Bool) (v3 v4 v5 v6 v7 v8 v9 : Int) : Option R := o1 N v0 v1 v2 v3 v4 v5 v6 v7 v8 v9 ((fun w0 w1 w2 w3 w4 w5 w6 w7 w8 w9 w10 w11 w12 w13 w14 w15 w16 w17 => l2 N N w0 w1 w2 w3 w4 w5 w6 w7 w8 w9 w10 w11 w12 w13 w14 w15 w16 w17))
theorem d1.run (v0 : List ByteArray) (v1 : Int) (v2 : Bool) (v3 v4 v5 v6 v7 v8 v9 : Int) : runC C (O N) N (c 61) 61 (s1 v0 v1 v2 v3 v4 v5 v6 v7 v8 v9) (K61 N) = d1 N v0 v1 v2 v3 v4 v5 v6 v7 v8 v9 := by
  unfold d1; exact (o1.run N (c 2036) v0 v1 v2 v3 v4 v5 v6 v7 v8 v9).trans (congr rfl (funext fun w0 => funext fun w1 => funext fun w2 => funext fun w3 => funext fun w4 => funext fun w5 => funext fun w6 => funext fun w7 => funext fun w8 => funext fun w9 => funext fun w10 => funext fun w11 => funext fun w12 => funext fun w13 => funext fun w14 => funext fun w15 => funext fun w16 => funext fun w17 => (loop1018 N N) w0 w1 w2 w3 w4 w5 w6 w7 w8 w9 w10 w11 w12 w13 w14 w15 w16 w17))
noncomputable def o0 (a0 : ByteArray) (c1 : t1) : Option R :=
 (zq161.g N a0 (⟨#[10]⟩ : ByteArray)).bind fun r1 =>
 bif (decide ((a0.size : Int) > 3000)) then
  c1 r1 (w64 ((r1.length : Int) - 1)) true 0 0 0 0 0 0 0
 else
 bif (decide (0 ≤ (w64 ((r1.length : Int) - 1)))) then
  bif (decide ((w64 ((r1.length : Int) - 1)) < (r1.length : Int))) then
   (r1[((w64 ((r1.length : Int) - 1)) : Int).toNat]?).bind fun x2 =>
   bif (!(x2.toList == (⟨#[]⟩ : ByteArray).toList)) then
    c1 r1 (w64 ((r1.length : Int) - 1)) true 0 0 0 0 0 0 0
   else
   c1 r1 (w64 ((r1.length : Int) - 1)) (decide ((w64 ((r1.length : Int) - 1)) > 50)) 0 0 0 0 0 0 0
  else
  none
 else
 none
theorem o0.run (H61 : Code) (a0 : ByteArray) : runC C (O N) N (.seq (c 2) (.seq (c 6) (.seq (c 14) (.seq (.seq (c 60) H61) (c 31))))) 1 (st0 [.one (.str a0)] [] : St D0) K0 = o0 N a0 ((fun w0 w1 w2 w3 w4 w5 w6 w7 w8 w9 => runC C (O N) N H61 61 (s1 w0 w1 w2 w3 w4 w5 w6 w7 w8 w9) (onN (fun s => C.tidy 30 s (fun s' => runC C (O N) N (c 31) 31 s' K0)) K0))) := by kernel_rfl
noncomputable def g (a0 : ByteArray) : Option R := o0 N a0 ((fun w0 w1 w2 w3 w4 w5 w6 w7 w8 w9 => d1 N w0 w1 w2 w3 w4 w5 w6 w7 w8 w9))
theorem c1_0 : (c 1) = (.seq (c 2) (.seq (c 6) (.seq (c 14) (.seq (.seq (c 60) (c 61)) (c 31))))) := by kernel_rfl
theorem g.run (a0 : ByteArray) : runC C (O N) N (c 1) 1 (st0 [.one (.str a0)] [] : St D0) K0 = g N a0 := by
  rw [c1_0]; unfold g; exact (o0.run N (c 61) a0).trans (congr rfl (funext fun w0 => funext fun w1 => funext fun w2 => funext fun w3 => funext fun w4 => funext fun w5 => funext fun w6 => funext fun w7 => funext fun w8 => funext fun w9 => d1.run N w0 w1 w2 w3 w4 w5 w6 w7 w8 w9))
noncomputable def ent : Ent Tryz.prog T0 := mkEntC C tabOk0 mixed0 49 [(false, [.any])] sig (E N) Tryz.func49 (by kernel_rfl) [(false, [.own 9]), (true, [.any, .any, .any, .any, .any, .any, .any]), (false, [.any])] N (fun t => g N t) (fun _ => by kernel_rfl) (fun t => g.run N t)
end zq70
namespace zq97
variable (N : Nat)
abbrev R : Type := Int × Int × Int × Int × Int × Int × Int
abbrev sig : Sig := ⟨[], [], [], [(true, 7)], [], [.int .i64, .int .i64, .int .i64, .int .i64, .int .i64, .int .i64, .int .i64]⟩
noncomputable def C : Cfg D0 := ⟨Tryz.prog, T0, 1, 0, 5, 0, [], 0, false, []⟩
noncomputable def E (N : Nat) : List (Ent Tryz.prog T0) := []
noncomputable def O : Orc D0 R := orcOf (E N)
noncomputable def K0 : Ex → St D0 → Option R := exitK C Tryz.f83.results.toList [(true, [.any, .any, .any, .any, .any, .any, .any])] (decOut sig)
noncomputable def c (p : Nat) : Code := codeAt (Tryz.f83.body.getD .skip) (pathN p)
noncomputable def o0 (N : Nat) : Option R :=
 some (12, 0, 1, 0, 1, 73, 72)
noncomputable def g : Option R := o0 N
theorem g.run : runC C (O N) N (c 1) 1 (st0 [] [] : St D0) K0 = g N := by kernel_rfl
noncomputable def ent : Ent Tryz.prog T0 := mkEntC C tabOk0 mixed0 83 [] sig (E N) Tryz.func83 (by kernel_rfl) [(true, [.any, .any, .any, .any, .any, .any, .any])] N (fun t => g N) (fun _ => by kernel_rfl) (fun t => g.run N)
end zq97
namespace zq116
variable (N : Nat)
abbrev R : Type := Int × Int × Int × Int × Int × Int × Int × List ByteArray × Bool
abbrev QQ : Type := St D0 → Option R
abbrev sig : Sig := ⟨[(false, 1)], [], [.str], [(true, 7), (false, 1), (false, 1)], [], [.int .i64, .int .i64, .int .i64, .int .i64, .int .i64, .int .i64, .int .i64, .sl true 9, .bool]⟩
noncomputable def C : Cfg D0 := ⟨Tryz.prog, T0, 516469857789, 0, 55, 0, [(124, [2, 5, 6, 30], [2]), (2042, [2, 7, 8, 35, 36, 37], [2, 7])], 8822144507904, false, []⟩
noncomputable def E : List (Ent Tryz.prog T0) := [zq151.ent N, zq97.ent N, zq119.ent N]
noncomputable def O : Orc D0 R := orcOf (E N)
noncomputable def K0 : Ex → QQ := exitK C Tryz.f50.results.toList [(true, [.any, .any, .any, .any, .any, .any, .any]), (false, [.own 9]), (false, [.any])] (decOut sig)
noncomputable def c (p : Nat) : Code := codeAt (Tryz.f50.body.getD .skip) (pathN p)
abbrev t1 : Type := (List ByteArray) → Int → Bool → Int → Int → Int → Int → Int → Int → Int → Option R
abbrev t2 : Type := (List ByteArray) → Int → Int → Int → Int → Int → Int → Int → Int → Int → Int → Int → Int → Int → Int → Int → Int → Option R
abbrev t3 : Type := (List ByteArray) → (List ByteArray) → Int → Int → Int → Int → Int → Int → Int → Int → Int → Int → Int → Int → Int → Int → Int → Int → Option R
noncomputable def s1 (v0 : List ByteArray) (v1 : Int) (v2 : Bool) (v3 v4 v5 v6 v7 v8 v9 : Int) : St D0 := mkSt [(2, .one (.ptr 2 0)), (5, .one (.sl true 9 v0)), (6, .one (.int .i64 v1)), (30, .one (.bool v2))] [(2, some (29, [.int .i64 v3, .int .i64 v4, .int .i64 v5, .int .i64 v6, .int .i64 v7, .int .i64 v8, .int .i64 v9]))]
noncomputable def s2 (v0 : List ByteArray) (v1 v2 v3 v4 v5 v6 v7 v8 v9 v10 v11 v12 v13 v14 v15 v16 : Int) : St D0 := mkSt [(2, .one (.ptr 2 0)), (7, .one (.ptr 7 0)), (8, .one (.nl)), (35, .one (.sl false 9 v0)), (36, .one (.int .i64 v1)), (37, .one (.int .i64 v2))] [(2, some (29, [.int .i64 v3, .int .i64 v4, .int .i64 v5, .int .i64 v6, .int .i64 v7, .int .i64 v8, .int .i64 v9])), (7, some (29, [.int .i64 v10, .int .i64 v11, .int .i64 v12, .int .i64 v13, .int .i64 v14, .int .i64 v15, .int .i64 v16]))]
noncomputable def s3 (v0 v1 : List ByteArray) (v2 v3 v4 v5 v6 v7 v8 v9 v10 v11 v12 v13 v14 v15 v16 v17 : Int) : St D0 := mkSt [(2, .one (.ptr 2 0)), (7, .one (.ptr 7 0)), (8, .one (.sl true 9 v0)), (35, .one (.sl false 9 v1)), (36, .one (.int .i64 v2)), (37, .one (.int .i64 v3))] [(2, some (29, [.int .i64 v4, .int .i64 v5, .int .i64 v6, .int .i64 v7, .int .i64 v8, .int .i64 v9, .int .i64 v10])), (7, some (29, [.int .i64 v11, .int .i64 v12, .int .i64 v13, .int .i64 v14, .int .i64 v15, .int .i64 v16, .int .i64 v17]))]
noncomputable def K4084 (Kn2042 : QQ) : Ex → QQ := ((fun up => (onN (fun s => C.tidy 2042 s ((onN Kn2042 up) .normal)) (onN Kn2042 up))) (blockK 0 (onN (fun s => C.tidy 510 s (fun s' => runC C (O N) N (c 511) 511 s' K0)) K0)))
noncomputable def o2 (v0 : List ByteArray) (v1 v2 v3 v4 v5 v6 v7 v8 v9 v10 v11 v12 v13 v14 v15 v16 : Int) (c3 : t3) : Option R :=
 bif (decide (v2 < v1)) then
  bif (decide (0 ≤ v2)) then
   bif (decide (v2 < (v0.length : Int))) then
    (v0[(v2 : Int).toNat]?).bind fun x1 =>
    (zq119.g N v10 v11 v12 v13 v14 v15 v16 x1).bind fun r2 =>
    bif (Nat.blt (([] : List ByteArray).length + ([r2.2.2.2.2.2.2.2] : List ByteArray).length) 8796093022208) then
     c3 (([] : List ByteArray) ++ ([r2.2.2.2.2.2.2.2] : List ByteArray)) v0 v1 (w64 (v2 + 1)) v3 v4 v5 v6 v7 v8 v9 r2.1 r2.2.1 r2.2.2.1 r2.2.2.2.1 r2.2.2.2.2.1 r2.2.2.2.2.2.1 r2.2.2.2.2.2.2.1
    else
    none
   else
   none
  else
  none
 else
 some (v10, v11, v12, v13, v14, v15, v16, ([] : List ByteArray), true)
noncomputable def d2 (v0 : List ByteArray) (v1 v2 v3 v4 v5 v6 v7 v8 v9 v10 v11 v12 v13 v14 v15 v16 : Int) (c3 : t3) : Option R := o2 N v0 v1 v2 v3 v4 v5 v6 v7 v8 v9 v10 v11 v12 v13 v14 v15 v16 c3
theorem d2.run (Kn2042 : QQ) (v0 : List ByteArray) (v1 v2 v3 v4 v5 v6 v7 v8 v9 v10 v11 v12 v13 v14 v15 v16 : Int) : runC C (O N) N (c 4084) 4084 (s2 v0 v1 v2 v3 v4 v5 v6 v7 v8 v9 v10 v11 v12 v13 v14 v15 v16) (K4084 N Kn2042) = d2 N v0 v1 v2 v3 v4 v5 v6 v7 v8 v9 v10 v11 v12 v13 v14 v15 v16 ((fun w0 w1 w2 w3 w4 w5 w6 w7 w8 w9 w10 w11 w12 w13 w14 w15 w16 w17 => Kn2042 (s3 w0 w1 w2 w3 w4 w5 w6 w7 w8 w9 w10 w11 w12 w13 w14 w15 w16 w17))) := by kernel_rfl
noncomputable def o3 (v0 v1 : List ByteArray) (v2 v3 v4 v5 v6 v7 v8 v9 v10 v11 v12 v13 v14 v15 v16 v17 : Int) (c3 : t3) : Option R :=
 bif (decide (v3 < v2)) then
  bif (decide (0 ≤ v3)) then
   bif (decide (v3 < (v1.length : Int))) then
    (v1[(v3 : Int).toNat]?).bind fun x1 =>
    (zq119.g N v11 v12 v13 v14 v15 v16 v17 x1).bind fun r2 =>
    bif (Nat.blt (v0.length + ([r2.2.2.2.2.2.2.2] : List ByteArray).length) 8796093022208) then
     c3 (v0 ++ ([r2.2.2.2.2.2.2.2] : List ByteArray)) v1 v2 (w64 (v3 + 1)) v4 v5 v6 v7 v8 v9 v10 r2.1 r2.2.1 r2.2.2.1 r2.2.2.2.1 r2.2.2.2.2.1 r2.2.2.2.2.2.1 r2.2.2.2.2.2.2.1
    else
    none
   else
   none
  else
  none
 else
 some (v11, v12, v13, v14, v15, v16, v17, v0, true)
noncomputable def d3 (v0 v1 : List ByteArray) (v2 v3 v4 v5 v6 v7 v8 v9 v10 v11 v12 v13 v14 v15 v16 v17 : Int) (c3 : t3) : Option R := o3 N v0 v1 v2 v3 v4 v5 v6 v7 v8 v9 v10 v11 v12 v13 v14 v15 v16 v17 c3
theorem d3.run (Kn2042 : QQ) (v0 v1 : List ByteArray) (v2 v3 v4 v5 v6 v7 v8 v9 v10 v11 v12 v13 v14 v15 v16 v17 : Int) : runC C (O N) N (c 4084) 4084 (s3 v0 v1 v2 v3 v4 v5 v6 v7 v8 v9 v10 v11 v12 v13 v14 v15 v16 v17) (K4084 N Kn2042) = d3 N v0 v1 v2 v3 v4 v5 v6 v7 v8 v9 v10 v11 v12 v13 v14 v15 v16 v17 ((fun w0 w1 w2 w3 w4 w5 w6 w7 w8 w9 w10 w11 w12 w13 w14 w15 w16 w17 => Kn2042 (s3 w0 w1 w2 w3 w4 w5 w6 w7 w8 w9 w10 w11 w12 w13 w14 w15 w16 w17))) := by kernel_rfl
noncomputable def K2042 : Ex → QQ := (blockK 0 (onN (fun s => C.tidy 510 s (fun s' => runC C (O N) N (c 511) 511 s' K0)) K0))
mutual
noncomputable def l2 (N : Nat) : Nat → (List ByteArray) → Int → Int → Int → Int → Int → Int → Int → Int → Int → Int → Int → Int → Int → Int → Int → Int → Option R
  | 0, _, _, _, _, _, _, _, _, _, _, _, _, _, _, _, _, _ => none
  | n + 1, v0, v1, v2, v3, v4, v5, v6, v7, v8, v9, v10, v11, v12, v13, v14, v15, v16 => d2 N v0 v1 v2 v3 v4 v5 v6 v7 v8 v9 v10 v11 v12 v13 v14 v15 v16 ((fun w0 w1 w2 w3 w4 w5 w6 w7 w8 w9 w10 w11 w12 w13 w14 w15 w16 w17 => l3 N n w0 w1 w2 w3 w4 w5 w6 w7 w8 w9 w10 w11 w12 w13 w14 w15 w16 w17))
noncomputable def l3 (N : Nat) : Nat → (List ByteArray) → (List ByteArray) → Int → Int → Int → Int → Int → Int → Int → Int → Int → Int → Int → Int → Int → Int → Int → Int → Option R
  | 0, _, _, _, _, _, _, _, _, _, _, _, _, _, _, _, _, _, _ => none
  | n + 1, v0, v1, v2, v3, v4, v5, v6, v7, v8, v9, v10, v11, v12, v13, v14, v15, v16, v17 => d3 N v0 v1 v2 v3 v4 v5 v6 v7 v8 v9 v10 v11 v12 v13 v14 v15 v16 v17 ((fun w0 w1 w2 w3 w4 w5 w6 w7 w8 w9 w10 w11 w12 w13 w14 w15 w16 w17 => l3 N n w0 w1 w2 w3 w4 w5 w6 w7 w8 w9 w10 w11 w12 w13 w14 w15 w16 w17))
end
theorem loop2042 (N : Nat) : ∀ n, (∀ (v0 : List ByteArray) (v1 v2 v3 v4 v5 v6 v7 v8 v9 v10 v11 v12 v13 v14 v15 v16 : Int), iter (loopF C (O N) N (c 4084) 2042) n (s2 v0 v1 v2 v3 v4 v5 v6 v7 v8 v9 v10 v11 v12 v13 v14 v15 v16) (K2042 N) = l2 N n v0 v1 v2 v3 v4 v5 v6 v7 v8 v9 v10 v11 v12 v13 v14 v15 v16) ∧ (∀ (v0 v1 : List ByteArray) (v2 v3 v4 v5 v6 v7 v8 v9 v10 v11 v12 v13 v14 v15 v16 v17 : Int), iter (loopF C (O N) N (c 4084) 2042) n (s3 v0 v1 v2 v3 v4 v5 v6 v7 v8 v9 v10 v11 v12 v13 v14 v15 v16 v17) (K2042 N) = l3 N n v0 v1 v2 v3 v4 v5 v6 v7 v8 v9 v10 v11 v12 v13 v14 v15 v16 v17)
  | 0 => ⟨(fun v0 v1 v2 v3 v4 v5 v6 v7 v8 v9 v10 v11 v12 v13 v14 v15 v16 => rfl), (fun v0 v1 v2 v3 v4 v5 v6 v7 v8 v9 v10 v11 v12 v13 v14 v15 v16 v17 => rfl)⟩
  | n + 1 => ⟨(fun v0 v1 v2 v3 v4 v5 v6 v7 v8 v9 v10 v11 v12 v13 v14 v15 v16 => (d2.run N (fun s => iter (loopF C (O N) N (c 4084) 2042) n s (K2042 N)) v0 v1 v2 v3 v4 v5 v6 v7 v8 v9 v10 v11 v12 v13 v14 v15 v16).trans (show _ = d2 N v0 v1 v2 v3 v4 v5 v6 v7 v8 v9 v10 v11 v12 v13 v14 v15 v16 ((fun w0 w1 w2 w3 w4 w5 w6 w7 w8 w9 w10 w11 w12 w13 w14 w15 w16 w17 => l3 N n w0 w1 w2 w3 w4 w5 w6 w7 w8 w9 w10 w11 w12 w13 w14 w15 w16 w17)) from (congr rfl (funext fun w0 => funext fun w1 => funext fun w2 => funext fun w3 => funext fun w4 => funext fun w5 => funext fun w6 => funext fun w7 => funext fun w8 => funext fun w9 => funext fun w10 => funext fun w11 => funext fun w12 => funext fun w13 => funext fun w14 => funext fun w15 => funext fun w16 => funext fun w17 => (loop2042 N n).2 w0 w1 w2 w3 w4 w5 w6 w7 w8 w9 w10 w11 w12 w13 w14 w15 w16 w17)))), (fun v0 v1 v2 v3 v4 v5 v6 v7 v8 v9 v10 v11 v12 v13 v14 v15 v16 v17 => (d3.run N (fun s => iter (loopF C (O N) N (c 4084) 2042) n s (K2042 N)) v0 v1 v2 v3 v4 v5 v6 v7 v8 v9 v10 v11 v12 v13 v14 v15 v16 v17).trans (show _ = d3 N v0 v1 v2 v3 v4 v5 v6 v7 v8 v9 v10 v11 v12 v13 v14 v15 v16 v17 ((fun w0 w1 w2 w3 w4 w5 w6 w7 w8 w9 w10 w11 w12 w13 w14 w15 w16 w17 => l3 N n w0 w1 w2 w3 w4 w5 w6 w7 w8 w9 w10 w11 w12 w13 w14 w15 w16 w17)) from (congr rfl (funext fun w0 => funext fun w1 => funext fun w2 => funext fun w3 => funext fun w4 => funext fun w5 => funext fun w6 => funext fun w7 => funext fun w8 => funext fun w9 => funext fun w10 => funext fun w11 => funext fun w12 => funext fun w13 => funext fun w14 => funext fun w15 => funext fun w16 => funext fun w17 => (loop2042 N n).2 w0 w1 w2 w3 w4 w5 w6 w7 w8 w9 w10 w11 w12 w13 w14 w15 w16 w17))))⟩
noncomputable def K125 : Ex → QQ := (onN (fun s => C.tidy 62 s (fun s' => runC C (O N) N (c 63) 63 s' K0)) K0)
noncomputable def o1 (v0 : List ByteArray) (v1 : Int) (v2 : Bool) (v3 v4 v5 v6 v7 v8 v9 : Int) (c2 : t2) : Option R :=
 bif v2 then
  some (0, 0, 0, 0, 0, 0, 0, ([] : List ByteArray), false)
 else
 (zq97.g N).bind fun r1 =>
 bif (decide (0 ≤ v1)) then
  bif (decide (v1 ≤ (v0.length : Int))) then
   bif (decide (0 ≤ v1)) then
    c2 ((v0.take (v1 : Int).toNat).drop (0 : Int).toNat) (((v0.take (v1 : Int).toNat).drop (0 : Int).toNat).length : Int) 0 v3 v4 v5 v6 v7 v8 v9 r1.1 r1.2.1 r1.2.2.1 r1.2.2.2.1 r1.2.2.2.2.1 r1.2.2.2.2.2.1 r1.2.2.2.2.2.2
   else
   none
  else
  none
 else
 none
theorem o1.run (H4084 : Code) (v0 : List ByteArray) (v1 : Int) (v2 : Bool) (v3 v4 v5 v6 v7 v8 v9 : Int) : runC C (O N) N (c 125) 125 (s1 v0 v1 v2 v3 v4 v5 v6 v7 v8 v9) (onN (fun s => C.tidy 62 s (fun s' => runC C (O N) N (.seq (c 126) (.seq (c 254) (.seq (.seq (c 1020) (.block 0 (.loop H4084))) (c 511)))) 63 s' K0)) K0) = o1 N v0 v1 v2 v3 v4 v5 v6 v7 v8 v9 ((fun w0 w1 w2 w3 w4 w5 w6 w7 w8 w9 w10 w11 w12 w13 w14 w15 w16 => iter (loopF C (O N) N H4084 2042) N (s2 w0 w1 w2 w3 w4 w5 w6 w7 w8 w9 w10 w11 w12 w13 w14 w15 w16) (blockK 0 (onN (fun s => C.tidy 510 s (fun s' => runC C (O N) N (c 511) 511 s' K0)) K0)))) := by kernel_rfl
noncomputable def d1 (v0 : List ByteArray) (v1 : Int) (v2 : Bool) (v3 v4 v5 v6 v7 v8 v9 : Int) : Option R := o1 N v0 v1 v2 v3 v4 v5 v6 v7 v8 v9 ((fun w0 w1 w2 w3 w4 w5 w6 w7 w8 w9 w10 w11 w12 w13 w14 w15 w16 => l2 N N w0 w1 w2 w3 w4 w5 w6 w7 w8 w9 w10 w11 w12 w13 w14 w15 w16))
theorem d1.run (v0 : List ByteArray) (v1 : Int) (v2 : Bool) (v3 v4 v5 v6 v7 v8 v9 : Int) : runC C (O N) N (c 125) 125 (s1 v0 v1 v2 v3 v4 v5 v6 v7 v8 v9) (K125 N) = d1 N v0 v1 v2 v3 v4 v5 v6 v7 v8 v9 := by
  unfold d1; exact (o1.run N (c 4084) v0 v1 v2 v3 v4 v5 v6 v7 v8 v9).trans (congr rfl (funext fun w0 => funext fun w1 => funext fun w2 => funext fun w3 => funext fun w4 => funext fun w5 => funext fun w6 => funext fun w7 => funext fun w8 => funext fun w9 => funext fun w10 => funext fun w11 => funext fun w12 => funext fun w13 => funext fun w14 => funext fun w15 => funext fun w16 => (loop2042 N N).1 w0 w1 w2 w3 w4 w5 w6 w7 w8 w9 w10 w11 w12 w13 w14 w15 w16))
noncomputable def o0 (a0 : ByteArray) (c1 : t1) : Option R :=
 bif (decide ((a0.size : Int) > 3000)) then
  some (0, 0, 0, 0, 0, 0, 0, ([] : List ByteArray), false)
 else
 (zq151.g N a0 10).bind fun r1 =>
 bif (decide (0 ≤ (w64 ((r1.length : Int) - 1)))) then
  bif (decide ((w64 ((r1.length : Int) - 1)) < (r1.length : Int))) then
   (r1[((w64 ((r1.length : Int) - 1)) : Int).toNat]?).bind fun x2 =>
   bif (!(x2.toList == (⟨#[]⟩ : ByteArray).toList)) then
    c1 r1 (w64 ((r1.length : Int) - 1)) true 0 0 0 0 0 0 0
   else
   c1 r1 (w64 ((r1.length : Int) - 1)) (decide ((w64 ((r1.length : Int) - 1)) > 50)) 0 0 0 0 0 0 0
  else
  none
 else
 none
theorem o0.run (H125 : Code) (a0 : ByteArray) : runC C (O N) N (.seq (c 2) (.seq (c 6) (.seq (c 14) (.seq (c 30) (.seq (.seq (c 124) H125) (c 63)))))) 1 (st0 [.one (.str a0)] [] : St D0) K0 = o0 N a0 ((fun w0 w1 w2 w3 w4 w5 w6 w7 w8 w9 => runC C (O N) N H125 125 (s1 w0 w1 w2 w3 w4 w5 w6 w7 w8 w9) (onN (fun s => C.tidy 62 s (fun s' => runC C (O N) N (c 63) 63 s' K0)) K0))) := by kernel_rfl
noncomputable def g (a0 : ByteArray) : Option R := o0 N a0 ((fun w0 w1 w2 w3 w4 w5 w6 w7 w8 w9 => d1 N w0 w1 w2 w3 w4 w5 w6 w7 w8 w9))
theorem c1_0 : (c 1) = (.seq (c 2) (.seq (c 6) (.seq (c 14) (.seq (c 30) (.seq (.seq (c 124) (c 125)) (c 63)))))) := by kernel_rfl
theorem g.run (a0 : ByteArray) : runC C (O N) N (c 1) 1 (st0 [.one (.str a0)] [] : St D0) K0 = g N a0 := by
  rw [c1_0]; unfold g; exact (o0.run N (c 125) a0).trans (congr rfl (funext fun w0 => funext fun w1 => funext fun w2 => funext fun w3 => funext fun w4 => funext fun w5 => funext fun w6 => funext fun w7 => funext fun w8 => funext fun w9 => d1.run N w0 w1 w2 w3 w4 w5 w6 w7 w8 w9))
noncomputable def ent : Ent Tryz.prog T0 := mkEntC C tabOk0 mixed0 50 [(false, [.any])] sig (E N) Tryz.func50 (by kernel_rfl) [(true, [.any, .any, .any, .any, .any, .any, .any]), (false, [.own 9]), (false, [.any])] N (fun t => g N t) (fun _ => by kernel_rfl) (fun t => g.run N t)
end zq116
namespace zq83
variable (N : Nat)
abbrev R : Type := Bool
abbrev sig : Sig := ⟨[(true, 2), (true, 2)], [], [.int .i64, .int .i64, .int .i64, .int .i64], [(false, 1)], [], [.bool]⟩
noncomputable def C : Cfg D0 := ⟨Tryz.prog, T0, 16927, 0, 15, 0, [], 0, false, []⟩
noncomputable def E (N : Nat) : List (Ent Tryz.prog T0) := []
noncomputable def O : Orc D0 R := orcOf (E N)
noncomputable def K0 : Ex → St D0 → Option R := exitK C Tryz.f54.results.toList [(false, [.any])] (decOut sig)
noncomputable def c (p : Nat) : Code := codeAt (Tryz.f54.body.getD .skip) (pathN p)
noncomputable def o0 (N : Nat) (a0_0 a0_1 a1_0 a1_1 : Int) : Option R :=
 bif (a0_0 != a1_0) then
  some (false)
 else
 bif (a0_1 != a1_1) then
  some (false)
 else
 some (true)
noncomputable def g (a0_0 a0_1 a1_0 a1_1 : Int) : Option R := o0 N a0_0 a0_1 a1_0 a1_1
theorem g.run (a0_0 a0_1 a1_0 a1_1 : Int) : runC C (O N) N (c 1) 1 (st0 [.agg [.int .i64 a0_0, .int .i64 a0_1], .agg [.int .i64 a1_0, .int .i64 a1_1]] [] : St D0) K0 = g N a0_0 a0_1 a1_0 a1_1 := by kernel_rfl
noncomputable def ent : Ent Tryz.prog T0 := mkEntC C tabOk0 mixed0 54 [(true, [.any, .any]), (true, [.any, .any])] sig (E N) Tryz.func54 (by kernel_rfl) [(false, [.any])] N (fun t => g N t.1 t.2.1 t.2.2.1 t.2.2.2) (fun _ => by kernel_rfl) (fun t => g.run N t.1 t.2.1 t.2.2.1 t.2.2.2)
end zq83
namespace zq81
variable (N : Nat)
abbrev R : Type := Bool
abbrev sig : Sig := ⟨[(true, 4), (true, 4)], [], [.int .i64, .int .i64, .int .i64, .int .i64, .int .i64, .int .i64, .int .i64, .int .i64], [(false, 1)], [], [.bool]⟩
noncomputable def C : Cfg D0 := ⟨Tryz.prog, T0, 1082399, 0, 21, 0, [], 0, false, []⟩
noncomputable def E : List (Ent Tryz.prog T0) := [zq83.ent N]
noncomputable def O : Orc D0 R := orcOf (E N)
noncomputable def K0 : Ex → St D0 → Option R := exitK C Tryz.f55.results.toList [(false, [.any])] (decOut sig)
noncomputable def c (p : Nat) : Code := codeAt (Tryz.f55.body.getD .skip) (pathN p)
noncomputable def o0 (a0_0 a0_1 a0_2 a0_3 a1_0 a1_1 a1_2 a1_3 : Int) : Option R :=
 (zq83.g N a0_0 a0_1 a1_0 a1_1).bind fun r1 =>
 bif (!r1) then
  some (false)
 else
 bif (a0_2 != a1_2) then
  some (false)
 else
 bif (a0_3 != a1_3) then
  some (false)
 else
 some (true)
noncomputable def g (a0_0 a0_1 a0_2 a0_3 a1_0 a1_1 a1_2 a1_3 : Int) : Option R := o0 N a0_0 a0_1 a0_2 a0_3 a1_0 a1_1 a1_2 a1_3
theorem g.run (a0_0 a0_1 a0_2 a0_3 a1_0 a1_1 a1_2 a1_3 : Int) : runC C (O N) N (c 1) 1 (st0 [.agg [.int .i64 a0_0, .int .i64 a0_1, .int .i64 a0_2, .int .i64 a0_3], .agg [.int .i64 a1_0, .int .i64 a1_1, .int .i64 a1_2, .int .i64 a1_3]] [] : St D0) K0 = g N a0_0 a0_1 a0_2 a0_3 a1_0 a1_1 a1_2 a1_3 := by kernel_rfl
noncomputable def ent : Ent Tryz.prog T0 := mkEntC C tabOk0 mixed0 55 [(true, [.any, .any, .any, .any]), (true, [.any, .any, .any, .any])] sig (E N) Tryz.func55 (by kernel_rfl) [(false, [.any])] N (fun t => g N t.1 t.2.1 t.2.2.1 t.2.2.2.1 t.2.2.2.2.1 t.2.2.2.2.2.1 t.2.2.2.2.2.2.1 t.2.2.2.2.2.2.2) (fun _ => by kernel_rfl) (fun t => g.run N t.1 t.2.1 t.2.2.1 t.2.2.2.1 t.2.2.2.2.1 t.2.2.2.2.2.1 t.2.2.2.2.2.2.1 t.2.2.2.2.2.2.2)
end zq81
namespace zq82
variable (N : Nat)
abbrev R : Type := Bool
abbrev sig : Sig := ⟨[(true, 7), (true, 7)], [], [.int .i64, .int .i64, .int .i64, .int .i64, .int .i64, .int .i64, .int .i64, .int .i64, .int .i64, .int .i64, .int .i64, .int .i64, .int .i64, .int .i64], [(false, 1)], [], [.bool]⟩
noncomputable def C : Cfg D0 := ⟨Tryz.prog, T0, 2130463, 0, 22, 0, [], 0, false, []⟩
noncomputable def E : List (Ent Tryz.prog T0) := [zq83.ent N, zq81.ent N]
noncomputable def O : Orc D0 R := orcOf (E N)
noncomputable def K0 : Ex → St D0 → Option R := exitK C Tryz.f28.results.toList [(false, [.any])] (decOut sig)
noncomputable def c (p : Nat) : Code := codeAt (Tryz.f28.body.getD .skip) (pathN p)
noncomputable def o0 (a0_0 a0_1 a0_2 a0_3 a0_4 a0_5 a0_6 a1_0 a1_1 a1_2 a1_3 a1_4 a1_5 a1_6 : Int) : Option R :=
 bif (a0_0 != a1_0) then
  some (false)
 else
 (zq83.g N a0_1 a0_2 a1_1 a1_2).bind fun r1 =>
 bif (!r1) then
  some (false)
 else
 (zq81.g N a0_3 a0_4 a0_5 a0_6 a1_3 a1_4 a1_5 a1_6).bind fun r2 =>
 bif (!r2) then
  some (false)
 else
 some (true)
noncomputable def g (a0_0 a0_1 a0_2 a0_3 a0_4 a0_5 a0_6 a1_0 a1_1 a1_2 a1_3 a1_4 a1_5 a1_6 : Int) : Option R := o0 N a0_0 a0_1 a0_2 a0_3 a0_4 a0_5 a0_6 a1_0 a1_1 a1_2 a1_3 a1_4 a1_5 a1_6
theorem g.run (a0_0 a0_1 a0_2 a0_3 a0_4 a0_5 a0_6 a1_0 a1_1 a1_2 a1_3 a1_4 a1_5 a1_6 : Int) : runC C (O N) N (c 1) 1 (st0 [.agg [.int .i64 a0_0, .int .i64 a0_1, .int .i64 a0_2, .int .i64 a0_3, .int .i64 a0_4, .int .i64 a0_5, .int .i64 a0_6], .agg [.int .i64 a1_0, .int .i64 a1_1, .int .i64 a1_2, .int .i64 a1_3, .int .i64 a1_4, .int .i64 a1_5, .int .i64 a1_6]] [] : St D0) K0 = g N a0_0 a0_1 a0_2 a0_3 a0_4 a0_5 a0_6 a1_0 a1_1 a1_2 a1_3 a1_4 a1_5 a1_6 := by kernel_rfl
noncomputable def ent : Ent Tryz.prog T0 := mkEntC C tabOk0 mixed0 28 [(true, [.any, .any, .any, .any, .any, .any, .any]), (true, [.any, .any, .any, .any, .any, .any, .any])] sig (E N) Tryz.func28 (by kernel_rfl) [(false, [.any])] N (fun t => g N t.1 t.2.1 t.2.2.1 t.2.2.2.1 t.2.2.2.2.1 t.2.2.2.2.2.1 t.2.2.2.2.2.2.1 t.2.2.2.2.2.2.2.1 t.2.2.2.2.2.2.2.2.1 t.2.2.2.2.2.2.2.2.2.1 t.2.2.2.2.2.2.2.2.2.2.1 t.2.2.2.2.2.2.2.2.2.2.2.1 t.2.2.2.2.2.2.2.2.2.2.2.2.1 t.2.2.2.2.2.2.2.2.2.2.2.2.2) (fun _ => by kernel_rfl) (fun t => g.run N t.1 t.2.1 t.2.2.1 t.2.2.2.1 t.2.2.2.2.1 t.2.2.2.2.2.1 t.2.2.2.2.2.2.1 t.2.2.2.2.2.2.2.1 t.2.2.2.2.2.2.2.2.1 t.2.2.2.2.2.2.2.2.2.1 t.2.2.2.2.2.2.2.2.2.2.1 t.2.2.2.2.2.2.2.2.2.2.2.1 t.2.2.2.2.2.2.2.2.2.2.2.2.1 t.2.2.2.2.2.2.2.2.2.2.2.2.2)
end zq82
namespace zq86
variable (N : Nat)
abbrev R : Type := Int × Int
abbrev sig : Sig := ⟨[(true, 2)], [], [.int .i64, .int .i64], [(true, 2)], [], [.int .i64, .int .i64]⟩
noncomputable def C : Cfg D0 := ⟨Tryz.prog, T0, 15, 0, 11, 0, [], 0, false, []⟩
noncomputable def E (N : Nat) : List (Ent Tryz.prog T0) := []
noncomputable def O : Orc D0 R := orcOf (E N)
noncomputable def K0 : Ex → St D0 → Option R := exitK C Tryz.f52.results.toList [(true, [.any, .any])] (decOut sig)
noncomputable def c (p : Nat) : Code := codeAt (Tryz.f52.body.getD .skip) (pathN p)
noncomputable def o0 (N : Nat) (a0_0 a0_1 : Int) : Option R :=
 some (a0_0, a0_1)
noncomputable def g (a0_0 a0_1 : Int) : Option R := o0 N a0_0 a0_1
theorem g.run (a0_0 a0_1 : Int) : runC C (O N) N (c 1) 1 (st0 [.agg [.int .i64 a0_0, .int .i64 a0_1]] [] : St D0) K0 = g N a0_0 a0_1 := by kernel_rfl
noncomputable def ent : Ent Tryz.prog T0 := mkEntC C tabOk0 mixed0 52 [(true, [.any, .any])] sig (E N) Tryz.func52 (by kernel_rfl) [(true, [.any, .any])] N (fun t => g N t.1 t.2) (fun _ => by kernel_rfl) (fun t => g.run N t.1 t.2)
end zq86
namespace zq84
variable (N : Nat)
abbrev R : Type := Int × Int × Int × Int
abbrev sig : Sig := ⟨[(true, 4)], [], [.int .i64, .int .i64, .int .i64, .int .i64], [(true, 4)], [], [.int .i64, .int .i64, .int .i64, .int .i64]⟩
noncomputable def C : Cfg D0 := ⟨Tryz.prog, T0, 15, 0, 15, 0, [], 0, false, []⟩
noncomputable def E : List (Ent Tryz.prog T0) := [zq86.ent N]
noncomputable def O : Orc D0 R := orcOf (E N)
noncomputable def K0 : Ex → St D0 → Option R := exitK C Tryz.f53.results.toList [(true, [.any, .any, .any, .any])] (decOut sig)
noncomputable def c (p : Nat) : Code := codeAt (Tryz.f53.body.getD .skip) (pathN p)
noncomputable def o0 (a0_0 a0_1 a0_2 a0_3 : Int) : Option R :=
 (zq86.g N a0_0 a0_1).bind fun r1 =>
 some (r1.1, r1.2, a0_2, a0_3)
noncomputable def g (a0_0 a0_1 a0_2 a0_3 : Int) : Option R := o0 N a0_0 a0_1 a0_2 a0_3
theorem g.run (a0_0 a0_1 a0_2 a0_3 : Int) : runC C (O N) N (c 1) 1 (st0 [.agg [.int .i64 a0_0, .int .i64 a0_1, .int .i64 a0_2, .int .i64 a0_3]] [] : St D0) K0 = g N a0_0 a0_1 a0_2 a0_3 := by kernel_rfl
noncomputable def ent : Ent Tryz.prog T0 := mkEntC C tabOk0 mixed0 53 [(true, [.any, .any, .any, .any])] sig (E N) Tryz.func53 (by kernel_rfl) [(true, [.any, .any, .any, .any])] N (fun t => g N t.1 t.2.1 t.2.2.1 t.2.2.2) (fun _ => by kernel_rfl) (fun t => g.run N t.1 t.2.1 t.2.2.1 t.2.2.2)
end zq84
namespace zq85
variable (N : Nat)
abbrev R : Type := Int × Int × Int × Int × Int × Int × Int
abbrev sig : Sig := ⟨[(true, 7)], [], [.int .i64, .int .i64, .int .i64, .int .i64, .int .i64, .int .i64, .int .i64], [(true, 7)], [], [.int .i64, .int .i64, .int .i64, .int .i64, .int .i64, .int .i64, .int .i64]⟩
noncomputable def C : Cfg D0 := ⟨Tryz.prog, T0, 15, 0, 16, 0, [], 0, false, []⟩
noncomputable def E : List (Ent Tryz.prog T0) := [zq86.ent N, zq84.ent N]
noncomputable def O : Orc D0 R := orcOf (E N)
noncomputable def K0 : Ex → St D0 → Option R := exitK C Tryz.f27.results.toList [(true, [.any, .any, .any, .any, .any, .any, .any])] (decOut sig)
noncomputable def c (p : Nat) : Code := codeAt (Tryz.f27.body.getD .skip) (pathN p)
noncomputable def o0 (a0_0 a0_1 a0_2 a0_3 a0_4 a0_5 a0_6 : Int) : Option R :=
 (zq86.g N a0_1 a0_2).bind fun r1 =>
 (zq84.g N a0_3 a0_4 a0_5 a0_6).bind fun r2 =>
 some (a0_0, r1.1, r1.2, r2.1, r2.2.1, r2.2.2.1, r2.2.2.2)
noncomputable def g (a0_0 a0_1 a0_2 a0_3 a0_4 a0_5 a0_6 : Int) : Option R := o0 N a0_0 a0_1 a0_2 a0_3 a0_4 a0_5 a0_6
theorem g.run (a0_0 a0_1 a0_2 a0_3 a0_4 a0_5 a0_6 : Int) : runC C (O N) N (c 1) 1 (st0 [.agg [.int .i64 a0_0, .int .i64 a0_1, .int .i64 a0_2, .int .i64 a0_3, .int .i64 a0_4, .int .i64 a0_5, .int .i64 a0_6]] [] : St D0) K0 = g N a0_0 a0_1 a0_2 a0_3 a0_4 a0_5 a0_6 := by kernel_rfl
noncomputable def ent : Ent Tryz.prog T0 := mkEntC C tabOk0 mixed0 27 [(true, [.any, .any, .any, .any, .any, .any, .any])] sig (E N) Tryz.func27 (by kernel_rfl) [(true, [.any, .any, .any, .any, .any, .any, .any])] N (fun t => g N t.1 t.2.1 t.2.2.1 t.2.2.2.1 t.2.2.2.2.1 t.2.2.2.2.2.1 t.2.2.2.2.2.2) (fun _ => by kernel_rfl) (fun t => g.run N t.1 t.2.1 t.2.2.1 t.2.2.2.1 t.2.2.2.2.1 t.2.2.2.2.2.1 t.2.2.2.2.2.2)
end zq85
namespace zq8
variable (N : Nat)
abbrev R : Type := Int × Int × Int × Int × Int × Int × Int × Bool
abbrev sig : Sig := ⟨[(false, 1)], [], [.str], [(true, 7), (false, 1)], [], [.int .i64, .int .i64, .int .i64, .int .i64, .int .i64, .int .i64, .int .i64, .bool]⟩
noncomputable def C : Cfg D0 := ⟨Tryz.prog, T0, 109, 0, 15, 0, [], 256, false, []⟩
noncomputable def E : List (Ent Tryz.prog T0) := [zq70.ent N]
noncomputable def O : Orc D0 R := orcOf (E N)
noncomputable def K0 : Ex → St D0 → Option R := exitK C Tryz.f19.results.toList [(true, [.any, .any, .any, .any, .any, .any, .any]), (false, [.any])] (decOut sig)
noncomputable def c (p : Nat) : Code := codeAt (Tryz.f19.body.getD .skip) (pathN p)
noncomputable def o0 (a0 : ByteArray) : Option R :=
 (zq70.g N a0).bind fun r1 =>
 some (r1.2.1, r1.2.2.1, r1.2.2.2.1, r1.2.2.2.2.1, r1.2.2.2.2.2.1, r1.2.2.2.2.2.2.1, r1.2.2.2.2.2.2.2.1, r1.2.2.2.2.2.2.2.2)
noncomputable def g (a0 : ByteArray) : Option R := o0 N a0
theorem g.run (a0 : ByteArray) : runC C (O N) N (c 1) 1 (st0 [.one (.str a0)] [] : St D0) K0 = g N a0 := by kernel_rfl
noncomputable def ent : Ent Tryz.prog T0 := mkEntC C tabOk0 mixed0 19 [(false, [.any])] sig (E N) Tryz.func19 (by kernel_rfl) [(true, [.any, .any, .any, .any, .any, .any, .any]), (false, [.any])] N (fun t => g N t) (fun _ => by kernel_rfl) (fun t => g.run N t)
end zq8
namespace zq94
variable (N : Nat)
abbrev R : Type := Int × Int × Int × Int × Int × Int × Int × Bool
abbrev sig : Sig := ⟨[(false, 1)], [], [.str], [(true, 7), (false, 1)], [], [.int .i64, .int .i64, .int .i64, .int .i64, .int .i64, .int .i64, .int .i64, .bool]⟩
noncomputable def C : Cfg D0 := ⟨Tryz.prog, T0, 16477, 0, 17, 0, [], 8448, false, []⟩
noncomputable def E : List (Ent Tryz.prog T0) := [zq116.ent N]
noncomputable def O : Orc D0 R := orcOf (E N)
noncomputable def K0 : Ex → St D0 → Option R := exitK C Tryz.f21.results.toList [(true, [.any, .any, .any, .any, .any, .any, .any]), (false, [.any])] (decOut sig)
noncomputable def c (p : Nat) : Code := codeAt (Tryz.f21.body.getD .skip) (pathN p)
noncomputable def o0 (a0 : ByteArray) : Option R :=
 (zq116.g N a0).bind fun r1 =>
 bif (!r1.2.2.2.2.2.2.2.2) then
  some (0, 0, 0, 0, 0, 0, 0, false)
 else
 some (r1.1, r1.2.1, r1.2.2.1, r1.2.2.2.1, r1.2.2.2.2.1, r1.2.2.2.2.2.1, r1.2.2.2.2.2.2.1, true)
noncomputable def g (a0 : ByteArray) : Option R := o0 N a0
theorem g.run (a0 : ByteArray) : runC C (O N) N (c 1) 1 (st0 [.one (.str a0)] [] : St D0) K0 = g N a0 := by kernel_rfl
noncomputable def ent : Ent Tryz.prog T0 := mkEntC C tabOk0 mixed0 21 [(false, [.any])] sig (E N) Tryz.func21 (by kernel_rfl) [(true, [.any, .any, .any, .any, .any, .any, .any]), (false, [.any])] N (fun t => g N t) (fun _ => by kernel_rfl) (fun t => g.run N t)
end zq94
namespace zq80
variable (N : Nat)
abbrev R : Type := Bool
abbrev sig : Sig := ⟨[(false, 1)], [], [.str], [(false, 1)], [], [.bool]⟩
noncomputable def C : Cfg D0 := ⟨Tryz.prog, T0, 268436093, 0, 29, 0, [(124, [28], [])], 100731008, false, []⟩
noncomputable def E : List (Ent Tryz.prog T0) := [zq94.ent N, zq8.ent N, zq82.ent N]
noncomputable def O : Orc D0 R := orcOf (E N)
noncomputable def K0 : Ex → St D0 → Option R := exitK C Tryz.f7.results.toList [(false, [.any])] (decOut sig)
noncomputable def c (p : Nat) : Code := codeAt (Tryz.f7.body.getD .skip) (pathN p)
noncomputable def s1 (v0 : Bool) : St D0 := mkSt [(28, .one (.bool v0))] []
noncomputable def K125 : Ex → St D0 → Option R := (onN (fun s => C.tidy 62 s (fun s' => runC C (O N) N (c 63) 63 s' K0)) K0)
noncomputable def o1 (N : Nat) (v0 : Bool) : Option R :=
 bif v0 then
  some (false)
 else
 some (true)
noncomputable def d1 (v0 : Bool) : Option R := o1 N v0
theorem d1.run (v0 : Bool) : runC C (O N) N (c 125) 125 (s1 v0) (K125 N) = d1 N v0 := by kernel_rfl
noncomputable def o0 (a0 : ByteArray) (c1 : Bool → Option R) : Option R :=
 bif (decide ((a0.size : Int) > 1048576)) then
  some (true)
 else
 (zq94.g N a0).bind fun r1 =>
 (zq8.g N a0).bind fun r2 =>
 (zq82.g N r2.1 r2.2.1 r2.2.2.1 r2.2.2.2.1 r2.2.2.2.2.1 r2.2.2.2.2.2.1 r2.2.2.2.2.2.2.1 r1.1 r1.2.1 r1.2.2.1 r1.2.2.2.1 r1.2.2.2.2.1 r1.2.2.2.2.2.1 r1.2.2.2.2.2.2.1).bind fun r3 =>
 bif (!r3) then
  c1 true
 else
 c1 (!(r2.2.2.2.2.2.2.2 == r1.2.2.2.2.2.2.2))
theorem o0.run (H125 : Code) (a0 : ByteArray) : runC C (O N) N (.seq (c 2) (.seq (c 6) (.seq (c 14) (.seq (c 30) (.seq (.seq (c 124) H125) (c 63)))))) 1 (st0 [.one (.str a0)] [] : St D0) K0 = o0 N a0 ((fun w0 => runC C (O N) N H125 125 (s1 w0) (onN (fun s => C.tidy 62 s (fun s' => runC C (O N) N (c 63) 63 s' K0)) K0))) := by kernel_rfl
noncomputable def g (a0 : ByteArray) : Option R := o0 N a0 ((fun w0 => d1 N w0))
theorem c1_0 : (c 1) = (.seq (c 2) (.seq (c 6) (.seq (c 14) (.seq (c 30) (.seq (.seq (c 124) (c 125)) (c 63)))))) := by kernel_rfl
theorem g.run (a0 : ByteArray) : runC C (O N) N (c 1) 1 (st0 [.one (.str a0)] [] : St D0) K0 = g N a0 := by
  rw [c1_0]; unfold g; exact (o0.run N (c 125) a0).trans (congr rfl (funext fun w0 => d1.run N w0))
theorem good (a0 : ByteArray) (r : R) (h : g N a0 = some r) : Go.PM.Good Tryz.prog T0 7 [.one (.str a0)] [] (sig.ret r) (sig.bs r) :=
  good_fnC C tabOk0 mixed0 sig (E N) Tryz.func7 (by kernel_rfl) (by kernel_rfl) [(false, [.any])] (by kernel_rfl) rfl rfl ((g.run N a0).trans h)
noncomputable def ent : Ent Tryz.prog T0 := mkEnt 7 [(false, [.any])] sig (fun t => g N t) (fun t r h => good N t r h)
end zq80
def FnExactDeskAfter.Pure : Prop := ∀ (y0 : ByteArray), (y0.size ≤ 140737488351232) → ∃ N, zq80.g N y0 = some true
end Go.Proofs.YtdidghlibfopgaaGreatDoor.M
