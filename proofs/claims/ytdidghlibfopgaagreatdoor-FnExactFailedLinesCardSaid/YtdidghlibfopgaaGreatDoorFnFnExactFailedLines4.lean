/- What the program's functions compute, walked by the machine (part 4). No conditions but those stated. -/
import Derived.Test.YtdidghlibfopgaaGreatDoorFnFnExactFailedLines3
noncomputable section
namespace Go.Proofs.YtdidghlibfopgaaGreatDoor.M
open Go Go.PM Go.Proofs.YtdidghlibfopgaaGreatDoor.P
set_option linter.unusedVariables false
set_option maxRecDepth 100000
namespace zq72
variable (N : Nat)
abbrev R : Type := List BA × Int × Int × Int × Int × Int × Int × Int × Bool
abbrev QQ : Type := St D0 → Option R
abbrev sig : Sig := ⟨[(false, 1)], [], [.str], [(false, 1), (true, 7), (false, 1)], [], [.sl true 9, .i, .i, .i, .i, .i, .i, .i, .bool]⟩
noncomputable def C : Cfg D0 := ⟨Tryz.prog, T0, 2063731793405, 0, 57, 0, [(60, [3, 5, 6, 31], [3]), (1018, [3, 7, 8, 37, 38, 39], [3, 7])], 35288001060864, false, []⟩
def E : List (Ent Tryz.prog T0) := [zq188.ent N, zq12.ent N, zq48.ent N]
def O : Orc D0 R := orcOf (E N)
def K0 : Ex → QQ := exitK C Tryz.f49.results.toList [(false, [.own 9]), (true, [.any, .any, .any, .any, .any, .any, .any]), (false, [.any])] (decOut sig)
noncomputable def c (p : Nat) : Code := codeAt (Tryz.f49.body.getD .skip) (pathN p)
abbrev t1 : Type := (List BA) → Int → Bool → Int → Int → Int → Int → Int → Int → Int → Option R
abbrev t2 : Type := (List BA) → (List BA) → Int → Int → Int → Int → Int → Int → Int → Int → Int → Int → Int → Int → Int → Int → Int → Int → Option R
def s1 (v0 : List BA) (v1 : Int) (v2 : Bool) (v3 v4 v5 v6 v7 v8 v9 : Int) : St D0 := mkSt [(3, .one (.ptr 3 0)), (5, .one (.sl true 9 v0)), (6, .one (.i v1)), (31, .one (.bool v2))] [(3, some (29, [.i v3, .i v4, .i v5, .i v6, .i v7, .i v8, .i v9]))]
def s2 (v0 v1 : List BA) (v2 v3 v4 v5 v6 v7 v8 v9 v10 v11 v12 v13 v14 v15 v16 v17 : Int) : St D0 := mkSt [(3, .one (.ptr 3 0)), (7, .one (.ptr 7 0)), (8, .one (.sl true 9 v0)), (37, .one (.sl false 9 v1)), (38, .one (.i v2)), (39, .one (.i v3))] [(3, some (29, [.i v4, .i v5, .i v6, .i v7, .i v8, .i v9, .i v10])), (7, some (29, [.i v11, .i v12, .i v13, .i v14, .i v15, .i v16, .i v17]))]
def K2036 (Kn1018 : QQ) : Ex → QQ := ((fun up => (onN (fun s => C.tidy 1018 s ((onN Kn1018 up) .normal)) (onN Kn1018 up))) (blockK 0 (onN (tk C (O N) N c 254 255 K0) K0)))
def o2 (v0 v1 : List BA) (v2 v3 v4 v5 v6 v7 v8 v9 v10 v11 v12 v13 v14 v15 v16 v17 : Int) (c2 : t2) : Option R :=
 bif (decide (v3 < v2)) then
  bif (decide (0 ≤ v3)) then
   bif (decide (v3 < (v1.length : Int))) then
    (v1[(v3 : Int).toNat]?).bind fun x1 =>
    (zq48.g N v11 v12 v13 v14 v15 v16 v17 x1).bind fun r2 =>
    bif (Nat.blt (v0.length + ([r2.2.2.2.2.2.2.2] : List BA).length) 8796093022208) then
     c2 (v0 ++ ([r2.2.2.2.2.2.2.2] : List BA)) v1 v2 (w64 (v3 + 1)) v4 v5 v6 v7 v8 v9 v10 r2.1 r2.2.1 r2.2.2.1 r2.2.2.2.1 r2.2.2.2.2.1 r2.2.2.2.2.2.1 r2.2.2.2.2.2.2.1
    else
    none
   else
   none
  else
  none
 else
 some (v0, v11, v12, v13, v14, v15, v16, v17, true)
def d2 (v0 v1 : List BA) (v2 v3 v4 v5 v6 v7 v8 v9 v10 v11 v12 v13 v14 v15 v16 v17 : Int) (c2 : t2) : Option R := o2 N v0 v1 v2 v3 v4 v5 v6 v7 v8 v9 v10 v11 v12 v13 v14 v15 v16 v17 c2
theorem d2.run (Kn1018 : QQ) (v0 v1 : List BA) (v2 v3 v4 v5 v6 v7 v8 v9 v10 v11 v12 v13 v14 v15 v16 v17 : Int) : runC C (O N) N (c 2036) 2036 (s2 v0 v1 v2 v3 v4 v5 v6 v7 v8 v9 v10 v11 v12 v13 v14 v15 v16 v17) (K2036 N Kn1018) = d2 N v0 v1 v2 v3 v4 v5 v6 v7 v8 v9 v10 v11 v12 v13 v14 v15 v16 v17 (Kn1018 <| s2 · · · · · · · · · · · · · · · · · ·) := by kernel_rfl
def K1018 : Ex → QQ := (blockK 0 (onN (tk C (O N) N c 254 255 K0) K0))
def l2 (N : Nat) : Nat → (List BA) → (List BA) → Int → Int → Int → Int → Int → Int → Int → Int → Int → Int → Int → Int → Int → Int → Int → Int → Option R
  | 0, _, _, _, _, _, _, _, _, _, _, _, _, _, _, _, _, _, _ => none
  | n + 1, v0, v1, v2, v3, v4, v5, v6, v7, v8, v9, v10, v11, v12, v13, v14, v15, v16, v17 => d2 N v0 v1 v2 v3 v4 v5 v6 v7 v8 v9 v10 v11 v12 v13 v14 v15 v16 v17 (l2 N n · · · · · · · · · · · · · · · · · ·)
theorem loop1018 (N : Nat) : ∀ n, (∀ (v0 v1 : List BA) (v2 v3 v4 v5 v6 v7 v8 v9 v10 v11 v12 v13 v14 v15 v16 v17 : Int), iter (loopF C (O N) N (c 2036) 1018) n (s2 v0 v1 v2 v3 v4 v5 v6 v7 v8 v9 v10 v11 v12 v13 v14 v15 v16 v17) (K1018 N) = l2 N n v0 v1 v2 v3 v4 v5 v6 v7 v8 v9 v10 v11 v12 v13 v14 v15 v16 v17)
  | 0 => (by intros; rfl)
  | n + 1 => (fun v0 v1 v2 v3 v4 v5 v6 v7 v8 v9 v10 v11 v12 v13 v14 v15 v16 v17 => (d2.run N (fun s => iter (loopF C (O N) N (c 2036) 1018) n s (K1018 N)) v0 v1 v2 v3 v4 v5 v6 v7 v8 v9 v10 v11 v12 v13 v14 v15 v16 v17).trans (show _ = d2 N v0 v1 v2 v3 v4 v5 v6 v7 v8 v9 v10 v11 v12 v13 v14 v15 v16 v17 (l2 N n · · · · · · · · · · · · · · · · · ·) from (congr rfl (fx18 ((loop1018 N n))))))
def K61 : Ex → QQ := (onN (tk C (O N) N c 30 31 K0) K0)
def o1 (v0 : List BA) (v1 : Int) (v2 : Bool) (v3 v4 v5 v6 v7 v8 v9 : Int) (c2 : t2) : Option R :=
 bif v2 then
  some (([] : List BA), 0, 0, 0, 0, 0, 0, 0, false)
 else
 (zq12.g N).bind fun r1 =>
 bif (decide (0 ≤ v1)) then
  bif (decide (v1 ≤ (v0.length : Int))) then
   bif (decide (0 ≤ v1)) then
    c2 ([] : List BA) ((v0.take (v1 : Int).toNat).drop (0 : Int).toNat) (((v0.take (v1 : Int).toNat).drop (0 : Int).toNat).length : Int) 0 v3 v4 v5 v6 v7 v8 v9 r1.1 r1.2.1 r1.2.2.1 r1.2.2.2.1 r1.2.2.2.2.1 r1.2.2.2.2.2.1 r1.2.2.2.2.2.2
   else
   none
  else
  none
 else
 none
theorem o1.run (H2036 : Code) (v0 : List BA) (v1 : Int) (v2 : Bool) (v3 v4 v5 v6 v7 v8 v9 : Int) : runC C (O N) N (c 61) 61 (s1 v0 v1 v2 v3 v4 v5 v6 v7 v8 v9) (onN (fun s => C.tidy 30 s (fun s' => runC C (O N) N (.seq (c 62) (.seq (c 126) (.seq (.seq (c 508) (.block 0 (.loop H2036))) (c 255)))) 31 s' K0)) K0) = o1 N v0 v1 v2 v3 v4 v5 v6 v7 v8 v9 ((fun w0 w1 w2 w3 w4 w5 w6 w7 w8 w9 w10 w11 w12 w13 w14 w15 w16 w17 => iter (loopF C (O N) N H2036 1018) N (s2 w0 w1 w2 w3 w4 w5 w6 w7 w8 w9 w10 w11 w12 w13 w14 w15 w16 w17) (blockK 0 (onN (tk C (O N) N c 254 255 K0) K0)))) := by kernel_rfl
def d1 (v0 : List BA) (v1 : Int) (v2 : Bool) (v3 v4 v5 v6 v7 v8 v9 : Int) : Option R := o1 N v0 v1 v2 v3 v4 v5 v6 v7 v8 v9 (l2 N N · · · · · · · · · · · · · · · · · ·)
theorem d1.run (v0 : List BA) (v1 : Int) (v2 : Bool) (v3 v4 v5 v6 v7 v8 v9 : Int) : runC C (O N) N (c 61) 61 (s1 v0 v1 v2 v3 v4 v5 v6 v7 v8 v9) (K61 N) = d1 N v0 v1 v2 v3 v4 v5 v6 v7 v8 v9 := by
  unfold d1; exact (o1.run N (c 2036) v0 v1 v2 v3 v4 v5 v6 v7 v8 v9).trans (congr rfl (fx18 ((loop1018 N N))))
def o0 (a0 : BA) (c1 : t1) : Option R :=
 (zq188.g N a0 (⟨#[10]⟩ : BA)).bind fun r1 =>
 bif (decide ((a0.size : Int) > 3000)) then
  c1 r1 (w64 ((r1.length : Int) - 1)) true 0 0 0 0 0 0 0
 else
 bif (decide (0 ≤ (w64 ((r1.length : Int) - 1)))) then
  bif (decide ((w64 ((r1.length : Int) - 1)) < (r1.length : Int))) then
   (r1[((w64 ((r1.length : Int) - 1)) : Int).toNat]?).bind fun x2 =>
   bif (!(x2.toList == (⟨#[]⟩ : BA).toList)) then
    c1 r1 (w64 ((r1.length : Int) - 1)) true 0 0 0 0 0 0 0
   else
   c1 r1 (w64 ((r1.length : Int) - 1)) (decide ((w64 ((r1.length : Int) - 1)) > 50)) 0 0 0 0 0 0 0
  else
  none
 else
 none
theorem o0.run (H61 : Code) (a0 : BA) : runC C (O N) N (.seq (c 2) (.seq (c 6) (.seq (c 14) (.seq (.seq (c 60) H61) (c 31))))) 1 (st0 [.one (.str a0)] [] : St D0) K0 = o0 N a0 ((fun w0 w1 w2 w3 w4 w5 w6 w7 w8 w9 => runC C (O N) N H61 61 (s1 w0 w1 w2 w3 w4 w5 w6 w7 w8 w9) (onN (tk C (O N) N c 30 31 K0) K0))) := by kernel_rfl
def g (a0 : BA) : Option R := o0 N a0 (d1 N · · · · · · · · · ·)
theorem c1_0 : (c 1) = (.seq (c 2) (.seq (c 6) (.seq (c 14) (.seq (.seq (c 60) (c 61)) (c 31))))) := by kernel_rfl
theorem g.run (a0 : BA) : runC C (O N) N (c 1) 1 (st0 [.one (.str a0)] [] : St D0) K0 = g N a0 := by
  rw [c1_0]; unfold g; exact (o0.run N (c 61) a0).trans (congr rfl (fx10 (d1.run N)))
def ent : Ent Tryz.prog T0 := mkEntC C tabOk0 mixed0 49 [(false, [.any])] sig (E N) Tryz.func49 (by kernel_rfl) [(false, [.own 9]), (true, [.any, .any, .any, .any, .any, .any, .any]), (false, [.any])] N (fun t => g N t) (fun _ => by kernel_rfl) (fun t => g.run N t)
end zq72
namespace zq114
variable (N : Nat)
abbrev R : Type := Int × Int × Int × Int × Int × Int × Int
abbrev sig : Sig := ⟨[], [], [], [(true, 7)], [], [.i, .i, .i, .i, .i, .i, .i]⟩
noncomputable def C : Cfg D0 := ⟨Tryz.prog, T0, 1, 0, 5, 0, [], 0, false, []⟩
def E (N : Nat) : List (Ent Tryz.prog T0) := []
def O : Orc D0 R := orcOf (E N)
def K0 : Ex → St D0 → Option R := exitK C Tryz.f83.results.toList [(true, [.any, .any, .any, .any, .any, .any, .any])] (decOut sig)
noncomputable def c (p : Nat) : Code := codeAt (Tryz.f83.body.getD .skip) (pathN p)
def o0 (N : Nat) : Option R :=
 some (12, 0, 1, 0, 1, 73, 72)
def g : Option R := o0 N
theorem g.run : runC C (O N) N (c 1) 1 (st0 [] [] : St D0) K0 = g N := by kernel_rfl
def ent : Ent Tryz.prog T0 := mkEntC C tabOk0 mixed0 83 [] sig (E N) Tryz.func83 (by kernel_rfl) [(true, [.any, .any, .any, .any, .any, .any, .any])] N (fun t => g N) (fun _ => by kernel_rfl) (fun t => g.run N)
end zq114
namespace zq134
variable (N : Nat)
abbrev R : Type := Int × Int × Int × Int × Int × Int × Int × List BA × Bool
abbrev QQ : Type := St D0 → Option R
abbrev sig : Sig := ⟨[(false, 1)], [], [.str], [(true, 7), (false, 1), (false, 1)], [], [.i, .i, .i, .i, .i, .i, .i, .sl true 9, .bool]⟩
noncomputable def C : Cfg D0 := ⟨Tryz.prog, T0, 516469857789, 0, 55, 0, [(124, [2, 5, 6, 30], [2]), (2042, [2, 7, 8, 35, 36, 37], [2, 7])], 8822144507904, false, []⟩
def E : List (Ent Tryz.prog T0) := [zq178.ent N, zq114.ent N, zq137.ent N]
def O : Orc D0 R := orcOf (E N)
def K0 : Ex → QQ := exitK C Tryz.f50.results.toList [(true, [.any, .any, .any, .any, .any, .any, .any]), (false, [.own 9]), (false, [.any])] (decOut sig)
noncomputable def c (p : Nat) : Code := codeAt (Tryz.f50.body.getD .skip) (pathN p)
abbrev t1 : Type := (List BA) → Int → Bool → Int → Int → Int → Int → Int → Int → Int → Option R
abbrev t2 : Type := (List BA) → Int → Int → Int → Int → Int → Int → Int → Int → Int → Int → Int → Int → Int → Int → Int → Int → Option R
abbrev t3 : Type := (List BA) → (List BA) → Int → Int → Int → Int → Int → Int → Int → Int → Int → Int → Int → Int → Int → Int → Int → Int → Option R
def s1 (v0 : List BA) (v1 : Int) (v2 : Bool) (v3 v4 v5 v6 v7 v8 v9 : Int) : St D0 := mkSt [(2, .one (.ptr 2 0)), (5, .one (.sl true 9 v0)), (6, .one (.i v1)), (30, .one (.bool v2))] [(2, some (29, [.i v3, .i v4, .i v5, .i v6, .i v7, .i v8, .i v9]))]
def s2 (v0 : List BA) (v1 v2 v3 v4 v5 v6 v7 v8 v9 v10 v11 v12 v13 v14 v15 v16 : Int) : St D0 := mkSt [(2, .one (.ptr 2 0)), (7, .one (.ptr 7 0)), (8, .one (.nl)), (35, .one (.sl false 9 v0)), (36, .one (.i v1)), (37, .one (.i v2))] [(2, some (29, [.i v3, .i v4, .i v5, .i v6, .i v7, .i v8, .i v9])), (7, some (29, [.i v10, .i v11, .i v12, .i v13, .i v14, .i v15, .i v16]))]
def s3 (v0 v1 : List BA) (v2 v3 v4 v5 v6 v7 v8 v9 v10 v11 v12 v13 v14 v15 v16 v17 : Int) : St D0 := mkSt [(2, .one (.ptr 2 0)), (7, .one (.ptr 7 0)), (8, .one (.sl true 9 v0)), (35, .one (.sl false 9 v1)), (36, .one (.i v2)), (37, .one (.i v3))] [(2, some (29, [.i v4, .i v5, .i v6, .i v7, .i v8, .i v9, .i v10])), (7, some (29, [.i v11, .i v12, .i v13, .i v14, .i v15, .i v16, .i v17]))]
def K4084 (Kn2042 : QQ) : Ex → QQ := ((fun up => (onN (fun s => C.tidy 2042 s ((onN Kn2042 up) .normal)) (onN Kn2042 up))) (blockK 0 (onN (tk C (O N) N c 510 511 K0) K0)))
def o2 (v0 : List BA) (v1 v2 v3 v4 v5 v6 v7 v8 v9 v10 v11 v12 v13 v14 v15 v16 : Int) (c3 : t3) : Option R :=
 bif (decide (v2 < v1)) then
  bif (decide (0 ≤ v2)) then
   bif (decide (v2 < (v0.length : Int))) then
    (v0[(v2 : Int).toNat]?).bind fun x1 =>
    (zq137.g N v10 v11 v12 v13 v14 v15 v16 x1).bind fun r2 =>
    bif (Nat.blt (([] : List BA).length + ([r2.2.2.2.2.2.2.2] : List BA).length) 8796093022208) then
     c3 (([] : List BA) ++ ([r2.2.2.2.2.2.2.2] : List BA)) v0 v1 (w64 (v2 + 1)) v3 v4 v5 v6 v7 v8 v9 r2.1 r2.2.1 r2.2.2.1 r2.2.2.2.1 r2.2.2.2.2.1 r2.2.2.2.2.2.1 r2.2.2.2.2.2.2.1
    else
    none
   else
   none
  else
  none
 else
 some (v10, v11, v12, v13, v14, v15, v16, ([] : List BA), true)
def d2 (v0 : List BA) (v1 v2 v3 v4 v5 v6 v7 v8 v9 v10 v11 v12 v13 v14 v15 v16 : Int) (c3 : t3) : Option R := o2 N v0 v1 v2 v3 v4 v5 v6 v7 v8 v9 v10 v11 v12 v13 v14 v15 v16 c3
theorem d2.run (Kn2042 : QQ) (v0 : List BA) (v1 v2 v3 v4 v5 v6 v7 v8 v9 v10 v11 v12 v13 v14 v15 v16 : Int) : runC C (O N) N (c 4084) 4084 (s2 v0 v1 v2 v3 v4 v5 v6 v7 v8 v9 v10 v11 v12 v13 v14 v15 v16) (K4084 N Kn2042) = d2 N v0 v1 v2 v3 v4 v5 v6 v7 v8 v9 v10 v11 v12 v13 v14 v15 v16 (Kn2042 <| s3 · · · · · · · · · · · · · · · · · ·) := by kernel_rfl
def o3 (v0 v1 : List BA) (v2 v3 v4 v5 v6 v7 v8 v9 v10 v11 v12 v13 v14 v15 v16 v17 : Int) (c3 : t3) : Option R :=
 bif (decide (v3 < v2)) then
  bif (decide (0 ≤ v3)) then
   bif (decide (v3 < (v1.length : Int))) then
    (v1[(v3 : Int).toNat]?).bind fun x1 =>
    (zq137.g N v11 v12 v13 v14 v15 v16 v17 x1).bind fun r2 =>
    bif (Nat.blt (v0.length + ([r2.2.2.2.2.2.2.2] : List BA).length) 8796093022208) then
     c3 (v0 ++ ([r2.2.2.2.2.2.2.2] : List BA)) v1 v2 (w64 (v3 + 1)) v4 v5 v6 v7 v8 v9 v10 r2.1 r2.2.1 r2.2.2.1 r2.2.2.2.1 r2.2.2.2.2.1 r2.2.2.2.2.2.1 r2.2.2.2.2.2.2.1
    else
    none
   else
   none
  else
  none
 else
 some (v11, v12, v13, v14, v15, v16, v17, v0, true)
def d3 (v0 v1 : List BA) (v2 v3 v4 v5 v6 v7 v8 v9 v10 v11 v12 v13 v14 v15 v16 v17 : Int) (c3 : t3) : Option R := o3 N v0 v1 v2 v3 v4 v5 v6 v7 v8 v9 v10 v11 v12 v13 v14 v15 v16 v17 c3
theorem d3.run (Kn2042 : QQ) (v0 v1 : List BA) (v2 v3 v4 v5 v6 v7 v8 v9 v10 v11 v12 v13 v14 v15 v16 v17 : Int) : runC C (O N) N (c 4084) 4084 (s3 v0 v1 v2 v3 v4 v5 v6 v7 v8 v9 v10 v11 v12 v13 v14 v15 v16 v17) (K4084 N Kn2042) = d3 N v0 v1 v2 v3 v4 v5 v6 v7 v8 v9 v10 v11 v12 v13 v14 v15 v16 v17 (Kn2042 <| s3 · · · · · · · · · · · · · · · · · ·) := by kernel_rfl
def K2042 : Ex → QQ := (blockK 0 (onN (tk C (O N) N c 510 511 K0) K0))
mutual
def l2 (N : Nat) : Nat → (List BA) → Int → Int → Int → Int → Int → Int → Int → Int → Int → Int → Int → Int → Int → Int → Int → Int → Option R
  | 0, _, _, _, _, _, _, _, _, _, _, _, _, _, _, _, _, _ => none
  | n + 1, v0, v1, v2, v3, v4, v5, v6, v7, v8, v9, v10, v11, v12, v13, v14, v15, v16 => d2 N v0 v1 v2 v3 v4 v5 v6 v7 v8 v9 v10 v11 v12 v13 v14 v15 v16 (l3 N n · · · · · · · · · · · · · · · · · ·)
def l3 (N : Nat) : Nat → (List BA) → (List BA) → Int → Int → Int → Int → Int → Int → Int → Int → Int → Int → Int → Int → Int → Int → Int → Int → Option R
  | 0, _, _, _, _, _, _, _, _, _, _, _, _, _, _, _, _, _, _ => none
  | n + 1, v0, v1, v2, v3, v4, v5, v6, v7, v8, v9, v10, v11, v12, v13, v14, v15, v16, v17 => d3 N v0 v1 v2 v3 v4 v5 v6 v7 v8 v9 v10 v11 v12 v13 v14 v15 v16 v17 (l3 N n · · · · · · · · · · · · · · · · · ·)
end
theorem loop2042 (N : Nat) : ∀ n, (∀ (v0 : List BA) (v1 v2 v3 v4 v5 v6 v7 v8 v9 v10 v11 v12 v13 v14 v15 v16 : Int), iter (loopF C (O N) N (c 4084) 2042) n (s2 v0 v1 v2 v3 v4 v5 v6 v7 v8 v9 v10 v11 v12 v13 v14 v15 v16) (K2042 N) = l2 N n v0 v1 v2 v3 v4 v5 v6 v7 v8 v9 v10 v11 v12 v13 v14 v15 v16) ∧ (∀ (v0 v1 : List BA) (v2 v3 v4 v5 v6 v7 v8 v9 v10 v11 v12 v13 v14 v15 v16 v17 : Int), iter (loopF C (O N) N (c 4084) 2042) n (s3 v0 v1 v2 v3 v4 v5 v6 v7 v8 v9 v10 v11 v12 v13 v14 v15 v16 v17) (K2042 N) = l3 N n v0 v1 v2 v3 v4 v5 v6 v7 v8 v9 v10 v11 v12 v13 v14 v15 v16 v17)
  | 0 => ⟨(by intros; rfl), (by intros; rfl)⟩
  | n + 1 => ⟨(fun v0 v1 v2 v3 v4 v5 v6 v7 v8 v9 v10 v11 v12 v13 v14 v15 v16 => (d2.run N (fun s => iter (loopF C (O N) N (c 4084) 2042) n s (K2042 N)) v0 v1 v2 v3 v4 v5 v6 v7 v8 v9 v10 v11 v12 v13 v14 v15 v16).trans (show _ = d2 N v0 v1 v2 v3 v4 v5 v6 v7 v8 v9 v10 v11 v12 v13 v14 v15 v16 (l3 N n · · · · · · · · · · · · · · · · · ·) from (congr rfl (fx18 ((loop2042 N n).2))))), (fun v0 v1 v2 v3 v4 v5 v6 v7 v8 v9 v10 v11 v12 v13 v14 v15 v16 v17 => (d3.run N (fun s => iter (loopF C (O N) N (c 4084) 2042) n s (K2042 N)) v0 v1 v2 v3 v4 v5 v6 v7 v8 v9 v10 v11 v12 v13 v14 v15 v16 v17).trans (show _ = d3 N v0 v1 v2 v3 v4 v5 v6 v7 v8 v9 v10 v11 v12 v13 v14 v15 v16 v17 (l3 N n · · · · · · · · · · · · · · · · · ·) from (congr rfl (fx18 ((loop2042 N n).2)))))⟩
def K125 : Ex → QQ := (onN (tk C (O N) N c 62 63 K0) K0)
def o1 (v0 : List BA) (v1 : Int) (v2 : Bool) (v3 v4 v5 v6 v7 v8 v9 : Int) (c2 : t2) : Option R :=
 bif v2 then
  some (0, 0, 0, 0, 0, 0, 0, ([] : List BA), false)
 else
 (zq114.g N).bind fun r1 =>
 bif (decide (0 ≤ v1)) then
  bif (decide (v1 ≤ (v0.length : Int))) then
   bif (decide (0 ≤ v1)) then
    c2 ((v0.take (v1 : Int).toNat).drop (0 : Int).toNat) (((v0.take (v1 : Int).toNat).drop (0 : Int).toNat).length : Int) 0 v3 v4 v5 v6 v7 v8 v9 r1.1 r1.2.1 r1.2.2.1 r1.2.2.2.1 r1.2.2.2.2.1 r1.2.2.2.2.2.1 r1.2.2.2.2.2.2
   else
   none
  else
  none
 else
 none
theorem o1.run (H4084 : Code) (v0 : List BA) (v1 : Int) (v2 : Bool) (v3 v4 v5 v6 v7 v8 v9 : Int) : runC C (O N) N (c 125) 125 (s1 v0 v1 v2 v3 v4 v5 v6 v7 v8 v9) (onN (fun s => C.tidy 62 s (fun s' => runC C (O N) N (.seq (c 126) (.seq (c 254) (.seq (.seq (c 1020) (.block 0 (.loop H4084))) (c 511)))) 63 s' K0)) K0) = o1 N v0 v1 v2 v3 v4 v5 v6 v7 v8 v9 ((fun w0 w1 w2 w3 w4 w5 w6 w7 w8 w9 w10 w11 w12 w13 w14 w15 w16 => iter (loopF C (O N) N H4084 2042) N (s2 w0 w1 w2 w3 w4 w5 w6 w7 w8 w9 w10 w11 w12 w13 w14 w15 w16) (blockK 0 (onN (tk C (O N) N c 510 511 K0) K0)))) := by kernel_rfl
def d1 (v0 : List BA) (v1 : Int) (v2 : Bool) (v3 v4 v5 v6 v7 v8 v9 : Int) : Option R := o1 N v0 v1 v2 v3 v4 v5 v6 v7 v8 v9 (l2 N N · · · · · · · · · · · · · · · · ·)
theorem d1.run (v0 : List BA) (v1 : Int) (v2 : Bool) (v3 v4 v5 v6 v7 v8 v9 : Int) : runC C (O N) N (c 125) 125 (s1 v0 v1 v2 v3 v4 v5 v6 v7 v8 v9) (K125 N) = d1 N v0 v1 v2 v3 v4 v5 v6 v7 v8 v9 := by
  unfold d1; exact (o1.run N (c 4084) v0 v1 v2 v3 v4 v5 v6 v7 v8 v9).trans (congr rfl (fx17 ((loop2042 N N).1)))
def o0 (a0 : BA) (c1 : t1) : Option R :=
 bif (decide ((a0.size : Int) > 3000)) then
  some (0, 0, 0, 0, 0, 0, 0, ([] : List BA), false)
 else
 (zq178.g N a0 10).bind fun r1 =>
 bif (decide (0 ≤ (w64 ((r1.length : Int) - 1)))) then
  bif (decide ((w64 ((r1.length : Int) - 1)) < (r1.length : Int))) then
   (r1[((w64 ((r1.length : Int) - 1)) : Int).toNat]?).bind fun x2 =>
   bif (!(x2.toList == (⟨#[]⟩ : BA).toList)) then
    c1 r1 (w64 ((r1.length : Int) - 1)) true 0 0 0 0 0 0 0
   else
   c1 r1 (w64 ((r1.length : Int) - 1)) (decide ((w64 ((r1.length : Int) - 1)) > 50)) 0 0 0 0 0 0 0
  else
  none
 else
 none
theorem o0.run (H125 : Code) (a0 : BA) : runC C (O N) N (.seq (c 2) (.seq (c 6) (.seq (c 14) (.seq (c 30) (.seq (.seq (c 124) H125) (c 63)))))) 1 (st0 [.one (.str a0)] [] : St D0) K0 = o0 N a0 ((fun w0 w1 w2 w3 w4 w5 w6 w7 w8 w9 => runC C (O N) N H125 125 (s1 w0 w1 w2 w3 w4 w5 w6 w7 w8 w9) (onN (tk C (O N) N c 62 63 K0) K0))) := by kernel_rfl
def g (a0 : BA) : Option R := o0 N a0 (d1 N · · · · · · · · · ·)
theorem c1_0 : (c 1) = (.seq (c 2) (.seq (c 6) (.seq (c 14) (.seq (c 30) (.seq (.seq (c 124) (c 125)) (c 63)))))) := by kernel_rfl
theorem g.run (a0 : BA) : runC C (O N) N (c 1) 1 (st0 [.one (.str a0)] [] : St D0) K0 = g N a0 := by
  rw [c1_0]; unfold g; exact (o0.run N (c 125) a0).trans (congr rfl (fx10 (d1.run N)))
def ent : Ent Tryz.prog T0 := mkEntC C tabOk0 mixed0 50 [(false, [.any])] sig (E N) Tryz.func50 (by kernel_rfl) [(true, [.any, .any, .any, .any, .any, .any, .any]), (false, [.own 9]), (false, [.any])] N (fun t => g N t) (fun _ => by kernel_rfl) (fun t => g.run N t)
end zq134
namespace zq90
variable (N : Nat)
abbrev R : Type := Bool
abbrev sig : Sig := ⟨[(true, 2), (true, 2)], [], [.i, .i, .i, .i], [(false, 1)], [], [.bool]⟩
noncomputable def C : Cfg D0 := ⟨Tryz.prog, T0, 16927, 0, 15, 0, [], 0, false, []⟩
def E (N : Nat) : List (Ent Tryz.prog T0) := []
def O : Orc D0 R := orcOf (E N)
def K0 : Ex → St D0 → Option R := exitK C Tryz.f54.results.toList [(false, [.any])] (decOut sig)
noncomputable def c (p : Nat) : Code := codeAt (Tryz.f54.body.getD .skip) (pathN p)
def o0 (N : Nat) (a0_0 a0_1 a1_0 a1_1 : Int) : Option R :=
 bif (a0_0 != a1_0) then
  some (false)
 else
 bif (a0_1 != a1_1) then
  some (false)
 else
 some (true)
def g (a0_0 a0_1 a1_0 a1_1 : Int) : Option R := o0 N a0_0 a0_1 a1_0 a1_1
theorem g.run (a0_0 a0_1 a1_0 a1_1 : Int) : runC C (O N) N (c 1) 1 (st0 [.agg [.i a0_0, .i a0_1], .agg [.i a1_0, .i a1_1]] [] : St D0) K0 = g N a0_0 a0_1 a1_0 a1_1 := by kernel_rfl
def ent : Ent Tryz.prog T0 := mkEntC C tabOk0 mixed0 54 [(true, [.any, .any]), (true, [.any, .any])] sig (E N) Tryz.func54 (by kernel_rfl) [(false, [.any])] N (fun t => g N t.1 t.2.1 t.2.2.1 t.2.2.2) (fun _ => by kernel_rfl) (fun t => g.run N t.1 t.2.1 t.2.2.1 t.2.2.2)
end zq90
namespace zq84
variable (N : Nat)
abbrev R : Type := Bool
abbrev sig : Sig := ⟨[(true, 4), (true, 4)], [], [.i, .i, .i, .i, .i, .i, .i, .i], [(false, 1)], [], [.bool]⟩
noncomputable def C : Cfg D0 := ⟨Tryz.prog, T0, 1082399, 0, 21, 0, [], 0, false, []⟩
def E : List (Ent Tryz.prog T0) := [zq90.ent N]
def O : Orc D0 R := orcOf (E N)
def K0 : Ex → St D0 → Option R := exitK C Tryz.f55.results.toList [(false, [.any])] (decOut sig)
noncomputable def c (p : Nat) : Code := codeAt (Tryz.f55.body.getD .skip) (pathN p)
def o0 (a0_0 a0_1 a0_2 a0_3 a1_0 a1_1 a1_2 a1_3 : Int) : Option R :=
 (zq90.g N a0_0 a0_1 a1_0 a1_1).bind fun r1 =>
 bif (!r1) then
  some (false)
 else
 bif (a0_2 != a1_2) then
  some (false)
 else
 bif (a0_3 != a1_3) then
  some (false)
 else
 some (true)
def g (a0_0 a0_1 a0_2 a0_3 a1_0 a1_1 a1_2 a1_3 : Int) : Option R := o0 N a0_0 a0_1 a0_2 a0_3 a1_0 a1_1 a1_2 a1_3
theorem g.run (a0_0 a0_1 a0_2 a0_3 a1_0 a1_1 a1_2 a1_3 : Int) : runC C (O N) N (c 1) 1 (st0 [.agg [.i a0_0, .i a0_1, .i a0_2, .i a0_3], .agg [.i a1_0, .i a1_1, .i a1_2, .i a1_3]] [] : St D0) K0 = g N a0_0 a0_1 a0_2 a0_3 a1_0 a1_1 a1_2 a1_3 := by kernel_rfl
def ent : Ent Tryz.prog T0 := mkEntC C tabOk0 mixed0 55 [(true, [.any, .any, .any, .any]), (true, [.any, .any, .any, .any])] sig (E N) Tryz.func55 (by kernel_rfl) [(false, [.any])] N (fun t => g N t.1 t.2.1 t.2.2.1 t.2.2.2.1 t.2.2.2.2.1 t.2.2.2.2.2.1 t.2.2.2.2.2.2.1 t.2.2.2.2.2.2.2) (fun _ => by kernel_rfl) (fun t => g.run N t.1 t.2.1 t.2.2.1 t.2.2.2.1 t.2.2.2.2.1 t.2.2.2.2.2.1 t.2.2.2.2.2.2.1 t.2.2.2.2.2.2.2)
end zq84
namespace zq85
variable (N : Nat)
abbrev R : Type := Bool
abbrev sig : Sig := ⟨[(true, 7), (true, 7)], [], [.i, .i, .i, .i, .i, .i, .i, .i, .i, .i, .i, .i, .i, .i], [(false, 1)], [], [.bool]⟩
noncomputable def C : Cfg D0 := ⟨Tryz.prog, T0, 2130463, 0, 22, 0, [], 0, false, []⟩
def E : List (Ent Tryz.prog T0) := [zq90.ent N, zq84.ent N]
def O : Orc D0 R := orcOf (E N)
def K0 : Ex → St D0 → Option R := exitK C Tryz.f28.results.toList [(false, [.any])] (decOut sig)
noncomputable def c (p : Nat) : Code := codeAt (Tryz.f28.body.getD .skip) (pathN p)
def o0 (a0_0 a0_1 a0_2 a0_3 a0_4 a0_5 a0_6 a1_0 a1_1 a1_2 a1_3 a1_4 a1_5 a1_6 : Int) : Option R :=
 bif (a0_0 != a1_0) then
  some (false)
 else
 (zq90.g N a0_1 a0_2 a1_1 a1_2).bind fun r1 =>
 bif (!r1) then
  some (false)
 else
 (zq84.g N a0_3 a0_4 a0_5 a0_6 a1_3 a1_4 a1_5 a1_6).bind fun r2 =>
 bif (!r2) then
  some (false)
 else
 some (true)
def g (a0_0 a0_1 a0_2 a0_3 a0_4 a0_5 a0_6 a1_0 a1_1 a1_2 a1_3 a1_4 a1_5 a1_6 : Int) : Option R := o0 N a0_0 a0_1 a0_2 a0_3 a0_4 a0_5 a0_6 a1_0 a1_1 a1_2 a1_3 a1_4 a1_5 a1_6
theorem g.run (a0_0 a0_1 a0_2 a0_3 a0_4 a0_5 a0_6 a1_0 a1_1 a1_2 a1_3 a1_4 a1_5 a1_6 : Int) : runC C (O N) N (c 1) 1 (st0 [.agg [.i a0_0, .i a0_1, .i a0_2, .i a0_3, .i a0_4, .i a0_5, .i a0_6], .agg [.i a1_0, .i a1_1, .i a1_2, .i a1_3, .i a1_4, .i a1_5, .i a1_6]] [] : St D0) K0 = g N a0_0 a0_1 a0_2 a0_3 a0_4 a0_5 a0_6 a1_0 a1_1 a1_2 a1_3 a1_4 a1_5 a1_6 := by kernel_rfl
def ent : Ent Tryz.prog T0 := mkEntC C tabOk0 mixed0 28 [(true, [.any, .any, .any, .any, .any, .any, .any]), (true, [.any, .any, .any, .any, .any, .any, .any])] sig (E N) Tryz.func28 (by kernel_rfl) [(false, [.any])] N (fun t => g N t.1 t.2.1 t.2.2.1 t.2.2.2.1 t.2.2.2.2.1 t.2.2.2.2.2.1 t.2.2.2.2.2.2.1 t.2.2.2.2.2.2.2.1 t.2.2.2.2.2.2.2.2.1 t.2.2.2.2.2.2.2.2.2.1 t.2.2.2.2.2.2.2.2.2.2.1 t.2.2.2.2.2.2.2.2.2.2.2.1 t.2.2.2.2.2.2.2.2.2.2.2.2.1 t.2.2.2.2.2.2.2.2.2.2.2.2.2) (fun _ => by kernel_rfl) (fun t => g.run N t.1 t.2.1 t.2.2.1 t.2.2.2.1 t.2.2.2.2.1 t.2.2.2.2.2.1 t.2.2.2.2.2.2.1 t.2.2.2.2.2.2.2.1 t.2.2.2.2.2.2.2.2.1 t.2.2.2.2.2.2.2.2.2.1 t.2.2.2.2.2.2.2.2.2.2.1 t.2.2.2.2.2.2.2.2.2.2.2.1 t.2.2.2.2.2.2.2.2.2.2.2.2.1 t.2.2.2.2.2.2.2.2.2.2.2.2.2)
end zq85
namespace zq100
variable (N : Nat)
abbrev R : Type := Int × Int
abbrev sig : Sig := ⟨[(true, 2)], [], [.i, .i], [(true, 2)], [], [.i, .i]⟩
noncomputable def C : Cfg D0 := ⟨Tryz.prog, T0, 15, 0, 11, 0, [], 0, false, []⟩
def E (N : Nat) : List (Ent Tryz.prog T0) := []
def O : Orc D0 R := orcOf (E N)
def K0 : Ex → St D0 → Option R := exitK C Tryz.f52.results.toList [(true, [.any, .any])] (decOut sig)
noncomputable def c (p : Nat) : Code := codeAt (Tryz.f52.body.getD .skip) (pathN p)
def o0 (N : Nat) (a0_0 a0_1 : Int) : Option R :=
 some (a0_0, a0_1)
def g (a0_0 a0_1 : Int) : Option R := o0 N a0_0 a0_1
theorem g.run (a0_0 a0_1 : Int) : runC C (O N) N (c 1) 1 (st0 [.agg [.i a0_0, .i a0_1]] [] : St D0) K0 = g N a0_0 a0_1 := by kernel_rfl
def ent : Ent Tryz.prog T0 := mkEntC C tabOk0 mixed0 52 [(true, [.any, .any])] sig (E N) Tryz.func52 (by kernel_rfl) [(true, [.any, .any])] N (fun t => g N t.1 t.2) (fun _ => by kernel_rfl) (fun t => g.run N t.1 t.2)
end zq100
namespace zq98
variable (N : Nat)
abbrev R : Type := Int × Int × Int × Int
abbrev sig : Sig := ⟨[(true, 4)], [], [.i, .i, .i, .i], [(true, 4)], [], [.i, .i, .i, .i]⟩
noncomputable def C : Cfg D0 := ⟨Tryz.prog, T0, 15, 0, 15, 0, [], 0, false, []⟩
def E : List (Ent Tryz.prog T0) := [zq100.ent N]
def O : Orc D0 R := orcOf (E N)
def K0 : Ex → St D0 → Option R := exitK C Tryz.f53.results.toList [(true, [.any, .any, .any, .any])] (decOut sig)
noncomputable def c (p : Nat) : Code := codeAt (Tryz.f53.body.getD .skip) (pathN p)
def o0 (a0_0 a0_1 a0_2 a0_3 : Int) : Option R :=
 (zq100.g N a0_0 a0_1).bind fun r1 =>
 some (r1.1, r1.2, a0_2, a0_3)
def g (a0_0 a0_1 a0_2 a0_3 : Int) : Option R := o0 N a0_0 a0_1 a0_2 a0_3
theorem g.run (a0_0 a0_1 a0_2 a0_3 : Int) : runC C (O N) N (c 1) 1 (st0 [.agg [.i a0_0, .i a0_1, .i a0_2, .i a0_3]] [] : St D0) K0 = g N a0_0 a0_1 a0_2 a0_3 := by kernel_rfl
def ent : Ent Tryz.prog T0 := mkEntC C tabOk0 mixed0 53 [(true, [.any, .any, .any, .any])] sig (E N) Tryz.func53 (by kernel_rfl) [(true, [.any, .any, .any, .any])] N (fun t => g N t.1 t.2.1 t.2.2.1 t.2.2.2) (fun _ => by kernel_rfl) (fun t => g.run N t.1 t.2.1 t.2.2.1 t.2.2.2)
end zq98
namespace zq99
variable (N : Nat)
abbrev R : Type := Int × Int × Int × Int × Int × Int × Int
abbrev sig : Sig := ⟨[(true, 7)], [], [.i, .i, .i, .i, .i, .i, .i], [(true, 7)], [], [.i, .i, .i, .i, .i, .i, .i]⟩
noncomputable def C : Cfg D0 := ⟨Tryz.prog, T0, 15, 0, 16, 0, [], 0, false, []⟩
def E : List (Ent Tryz.prog T0) := [zq100.ent N, zq98.ent N]
def O : Orc D0 R := orcOf (E N)
def K0 : Ex → St D0 → Option R := exitK C Tryz.f27.results.toList [(true, [.any, .any, .any, .any, .any, .any, .any])] (decOut sig)
noncomputable def c (p : Nat) : Code := codeAt (Tryz.f27.body.getD .skip) (pathN p)
def o0 (a0_0 a0_1 a0_2 a0_3 a0_4 a0_5 a0_6 : Int) : Option R :=
 (zq100.g N a0_1 a0_2).bind fun r1 =>
 (zq98.g N a0_3 a0_4 a0_5 a0_6).bind fun r2 =>
 some (a0_0, r1.1, r1.2, r2.1, r2.2.1, r2.2.2.1, r2.2.2.2)
def g (a0_0 a0_1 a0_2 a0_3 a0_4 a0_5 a0_6 : Int) : Option R := o0 N a0_0 a0_1 a0_2 a0_3 a0_4 a0_5 a0_6
theorem g.run (a0_0 a0_1 a0_2 a0_3 a0_4 a0_5 a0_6 : Int) : runC C (O N) N (c 1) 1 (st0 [.agg [.i a0_0, .i a0_1, .i a0_2, .i a0_3, .i a0_4, .i a0_5, .i a0_6]] [] : St D0) K0 = g N a0_0 a0_1 a0_2 a0_3 a0_4 a0_5 a0_6 := by kernel_rfl
def ent : Ent Tryz.prog T0 := mkEntC C tabOk0 mixed0 27 [(true, [.any, .any, .any, .any, .any, .any, .any])] sig (E N) Tryz.func27 (by kernel_rfl) [(true, [.any, .any, .any, .any, .any, .any, .any])] N (fun t => g N t.1 t.2.1 t.2.2.1 t.2.2.2.1 t.2.2.2.2.1 t.2.2.2.2.2.1 t.2.2.2.2.2.2) (fun _ => by kernel_rfl) (fun t => g.run N t.1 t.2.1 t.2.2.1 t.2.2.2.1 t.2.2.2.2.1 t.2.2.2.2.2.1 t.2.2.2.2.2.2)
end zq99
namespace zq8
variable (N : Nat)
abbrev R : Type := Int × Int × Int × Int × Int × Int × Int × Bool
abbrev sig : Sig := ⟨[(false, 1)], [], [.str], [(true, 7), (false, 1)], [], [.i, .i, .i, .i, .i, .i, .i, .bool]⟩
noncomputable def C : Cfg D0 := ⟨Tryz.prog, T0, 109, 0, 15, 0, [], 256, false, []⟩
def E : List (Ent Tryz.prog T0) := [zq72.ent N]
def O : Orc D0 R := orcOf (E N)
def K0 : Ex → St D0 → Option R := exitK C Tryz.f19.results.toList [(true, [.any, .any, .any, .any, .any, .any, .any]), (false, [.any])] (decOut sig)
noncomputable def c (p : Nat) : Code := codeAt (Tryz.f19.body.getD .skip) (pathN p)
def o0 (a0 : BA) : Option R :=
 (zq72.g N a0).bind fun r1 =>
 some (r1.2.1, r1.2.2.1, r1.2.2.2.1, r1.2.2.2.2.1, r1.2.2.2.2.2.1, r1.2.2.2.2.2.2.1, r1.2.2.2.2.2.2.2.1, r1.2.2.2.2.2.2.2.2)
def g (a0 : BA) : Option R := o0 N a0
theorem g.run (a0 : BA) : runC C (O N) N (c 1) 1 (st0 [.one (.str a0)] [] : St D0) K0 = g N a0 := by kernel_rfl
def ent : Ent Tryz.prog T0 := mkEntC C tabOk0 mixed0 19 [(false, [.any])] sig (E N) Tryz.func19 (by kernel_rfl) [(true, [.any, .any, .any, .any, .any, .any, .any]), (false, [.any])] N (fun t => g N t) (fun _ => by kernel_rfl) (fun t => g.run N t)
end zq8
namespace zq109
variable (N : Nat)
abbrev R : Type := Int × Int × Int × Int × Int × Int × Int × Bool
abbrev sig : Sig := ⟨[(false, 1)], [], [.str], [(true, 7), (false, 1)], [], [.i, .i, .i, .i, .i, .i, .i, .bool]⟩
noncomputable def C : Cfg D0 := ⟨Tryz.prog, T0, 16477, 0, 17, 0, [], 8448, false, []⟩
def E : List (Ent Tryz.prog T0) := [zq134.ent N]
def O : Orc D0 R := orcOf (E N)
def K0 : Ex → St D0 → Option R := exitK C Tryz.f21.results.toList [(true, [.any, .any, .any, .any, .any, .any, .any]), (false, [.any])] (decOut sig)
noncomputable def c (p : Nat) : Code := codeAt (Tryz.f21.body.getD .skip) (pathN p)
def o0 (a0 : BA) : Option R :=
 (zq134.g N a0).bind fun r1 =>
 bif (!r1.2.2.2.2.2.2.2.2) then
  some (0, 0, 0, 0, 0, 0, 0, false)
 else
 some (r1.1, r1.2.1, r1.2.2.1, r1.2.2.2.1, r1.2.2.2.2.1, r1.2.2.2.2.2.1, r1.2.2.2.2.2.2.1, true)
def g (a0 : BA) : Option R := o0 N a0
theorem g.run (a0 : BA) : runC C (O N) N (c 1) 1 (st0 [.one (.str a0)] [] : St D0) K0 = g N a0 := by kernel_rfl
def ent : Ent Tryz.prog T0 := mkEntC C tabOk0 mixed0 21 [(false, [.any])] sig (E N) Tryz.func21 (by kernel_rfl) [(true, [.any, .any, .any, .any, .any, .any, .any]), (false, [.any])] N (fun t => g N t) (fun _ => by kernel_rfl) (fun t => g.run N t)
end zq109
namespace zq30
variable (N : Nat)
abbrev R : Type := List BA × Bool
abbrev sig : Sig := ⟨[(false, 1)], [], [.str], [(false, 1), (false, 1)], [], [.sl true 9, .bool]⟩
noncomputable def C : Cfg D0 := ⟨Tryz.prog, T0, 93, 0, 15, 0, [], 256, false, []⟩
def E : List (Ent Tryz.prog T0) := [zq72.ent N]
def O : Orc D0 R := orcOf (E N)
def K0 : Ex → St D0 → Option R := exitK C Tryz.f17.results.toList [(false, [.own 9]), (false, [.any])] (decOut sig)
noncomputable def c (p : Nat) : Code := codeAt (Tryz.f17.body.getD .skip) (pathN p)
def o0 (a0 : BA) : Option R :=
 (zq72.g N a0).bind fun r1 =>
 some (r1.1, r1.2.2.2.2.2.2.2.2)
def g (a0 : BA) : Option R := o0 N a0
theorem g.run (a0 : BA) : runC C (O N) N (c 1) 1 (st0 [.one (.str a0)] [] : St D0) K0 = g N a0 := by kernel_rfl
def ent : Ent Tryz.prog T0 := mkEntC C tabOk0 mixed0 17 [(false, [.any])] sig (E N) Tryz.func17 (by kernel_rfl) [(false, [.own 9]), (false, [.any])] N (fun t => g N t) (fun _ => by kernel_rfl) (fun t => g.run N t)
end zq30
namespace zq122
variable (N : Nat)
abbrev R : Type := List BA × Bool
abbrev sig : Sig := ⟨[(false, 1)], [], [.str], [(false, 1), (false, 1)], [], [.sl true 9, .bool]⟩
noncomputable def C : Cfg D0 := ⟨Tryz.prog, T0, 109, 0, 15, 0, [], 256, false, []⟩
def E : List (Ent Tryz.prog T0) := [zq134.ent N]
def O : Orc D0 R := orcOf (E N)
def K0 : Ex → St D0 → Option R := exitK C Tryz.f18.results.toList [(false, [.own 9]), (false, [.any])] (decOut sig)
noncomputable def c (p : Nat) : Code := codeAt (Tryz.f18.body.getD .skip) (pathN p)
def o0 (a0 : BA) : Option R :=
 (zq134.g N a0).bind fun r1 =>
 some (r1.2.2.2.2.2.2.2.1, r1.2.2.2.2.2.2.2.2)
def g (a0 : BA) : Option R := o0 N a0
theorem g.run (a0 : BA) : runC C (O N) N (c 1) 1 (st0 [.one (.str a0)] [] : St D0) K0 = g N a0 := by kernel_rfl
def ent : Ent Tryz.prog T0 := mkEntC C tabOk0 mixed0 18 [(false, [.any])] sig (E N) Tryz.func18 (by kernel_rfl) [(false, [.own 9]), (false, [.any])] N (fun t => g N t) (fun _ => by kernel_rfl) (fun t => g.run N t)
end zq122
namespace zq11
variable (N : Nat)
abbrev R : Type := List Int × Bool
abbrev QQ : Type := St D0 → Option R
abbrev sig : Sig := ⟨[(false, 1)], [], [.str], [(false, 1), (false, 1)], [], [.sl true 3, .bool]⟩
noncomputable def C : Cfg D0 := ⟨Tryz.prog, T0, 2155480029, 0, 39, 0, [(250, [7, 19, 20, 21], []), (32050, [7, 8, 19, 20, 21, 31], [])], 9193981952, false, []⟩
def E : List (Ent Tryz.prog T0) := [zq72.ent N]
def O : Orc D0 R := orcOf (E N)
def K0 : Ex → QQ := exitK C Tryz.f20.results.toList [(false, [.own 3]), (false, [.any])] (decOut sig)
noncomputable def c (p : Nat) : Code := codeAt (Tryz.f20.body.getD .skip) (pathN p)
abbrev t1 : Type := (List Int) → (List BA) → Int → Int → Option R
abbrev t2 : Type := (List Int) → Int → (List BA) → Int → Int → Bool → Option R
def s1 (v0 : List Int) (v1 : List BA) (v2 v3 : Int) : St D0 := mkSt [(7, .one (.sl true 3 v0)), (19, .one (.sl true 9 v1)), (20, .one (.i v2)), (21, .one (.i v3))] []
def s2 (v0 : List Int) (v1 : Int) (v2 : List BA) (v3 v4 : Int) (v5 : Bool) : St D0 := mkSt [(7, .one (.sl true 3 v0)), (8, .one (.i v1)), (19, .one (.sl true 9 v2)), (20, .one (.i v3)), (21, .one (.i v4)), (31, .one (.bool v5))] []
def K32051 (Kn250 : QQ) : Ex → QQ := (blockK 1 ((fun up => (onN (tk C (O N) N c 4006 4007 up) up)) ((fun up => (onN (fun s => C.tidy 250 s ((onN Kn250 up) .normal)) (onN Kn250 up))) (blockK 0 (onN (tk C (O N) N c 62 63 K0) K0)))))
def o2 (N : Nat) (v0 : List Int) (v1 : Int) (v2 : List BA) (v3 v4 : Int) (v5 : Bool) (c1 : t1) : Option R :=
 bif v5 then
  bif (Nat.blt (v0.length + ([(w64 (v1 + 1))] : List Int).length) 17592186044416) then
   c1 (v0 ++ ([(w64 (v1 + 1))] : List Int)) v2 v3 (w64 (v4 + 1))
  else
  none
 else
 c1 v0 v2 v3 (w64 (v4 + 1))
def d2 (v0 : List Int) (v1 : Int) (v2 : List BA) (v3 v4 : Int) (v5 : Bool) (c1 : t1) : Option R := o2 N v0 v1 v2 v3 v4 v5 c1
theorem d2.run (Kn250 : QQ) (v0 : List Int) (v1 : Int) (v2 : List BA) (v3 v4 : Int) (v5 : Bool) : runC C (O N) N (c 32051) 32051 (s2 v0 v1 v2 v3 v4 v5) (K32051 N Kn250) = d2 N v0 v1 v2 v3 v4 v5 (Kn250 <| s1 · · · ·) := by kernel_rfl
def K500 (Kn250 : QQ) : Ex → QQ := ((fun up => (onN (fun s => C.tidy 250 s ((onN Kn250 up) .normal)) (onN Kn250 up))) (blockK 0 (onN (tk C (O N) N c 62 63 K0) K0)))
def o1 (N : Nat) (v0 : List Int) (v1 : List BA) (v2 v3 : Int) (c2 : t2) : Option R :=
 bif (decide (v3 < v2)) then
  bif (decide (0 ≤ v3)) then
   bif (decide (v3 < (v1.length : Int))) then
    (v1[(v3 : Int).toNat]?).bind fun x1 =>
    bif (x1.toList == (⟨#[110, 111]⟩ : BA).toList) then
     c2 v0 v3 v1 v2 v3 true
    else
    c2 v0 v3 v1 v2 v3 (x1.toList == (⟨#[119, 104, 97, 116]⟩ : BA).toList)
   else
   none
  else
  none
 else
 some (v0, true)
theorem o1.run (Kn250 : QQ) (H32051 : Code) (v0 : List Int) (v1 : List BA) (v2 v3 : Int) : runC C (O N) N (.seq (c 1000) (.seq (c 2002) (.seq (.block 1 (.seq (c 16024) (.seq (c 32050) H32051))) (c 4007)))) 500 (s1 v0 v1 v2 v3) ((fun up => (onN (fun s => C.tidy 250 s ((onN Kn250 up) .normal)) (onN Kn250 up))) (blockK 0 (onN (tk C (O N) N c 62 63 K0) K0))) = o1 N v0 v1 v2 v3 ((fun w0 w1 w2 w3 w4 w5 => runC C (O N) N H32051 32051 (s2 w0 w1 w2 w3 w4 w5) (blockK 1 ((fun up => (onN (tk C (O N) N c 4006 4007 up) up)) ((fun up => (onN (fun s => C.tidy 250 s ((onN Kn250 up) .normal)) (onN Kn250 up))) (blockK 0 (onN (tk C (O N) N c 62 63 K0) K0))))))) := by kernel_rfl
def d1 (v0 : List Int) (v1 : List BA) (v2 v3 : Int) (c1 : t1) : Option R := o1 N v0 v1 v2 v3 (d2 N · · · · · · c1)
theorem c500_1 : (c 500) = (.seq (c 1000) (.seq (c 2002) (.seq (.block 1 (.seq (c 16024) (.seq (c 32050) (c 32051)))) (c 4007)))) := by kernel_rfl
theorem d1.run (Kn250 : QQ) (v0 : List Int) (v1 : List BA) (v2 v3 : Int) : runC C (O N) N (c 500) 500 (s1 v0 v1 v2 v3) (K500 N Kn250) = d1 N v0 v1 v2 v3 (Kn250 <| s1 · · · ·) := by
  rw [c500_1]; unfold d1; exact (o1.run N Kn250 (c 32051) v0 v1 v2 v3).trans (congr rfl (fx6 (d2.run N Kn250)))
def K250 : Ex → QQ := (blockK 0 (onN (tk C (O N) N c 62 63 K0) K0))
def l1 (N : Nat) : Nat → (List Int) → (List BA) → Int → Int → Option R
  | 0, _, _, _, _ => none
  | n + 1, v0, v1, v2, v3 => d1 N v0 v1 v2 v3 (l1 N n · · · ·)
theorem loop250 (N : Nat) : ∀ n, (∀ (v0 : List Int) (v1 : List BA) (v2 v3 : Int), iter (loopF C (O N) N (c 500) 250) n (s1 v0 v1 v2 v3) (K250 N) = l1 N n v0 v1 v2 v3)
  | 0 => (by intros; rfl)
  | n + 1 => (fun v0 v1 v2 v3 => (d1.run N (fun s => iter (loopF C (O N) N (c 500) 250) n s (K250 N)) v0 v1 v2 v3).trans (show _ = d1 N v0 v1 v2 v3 (l1 N n · · · ·) from (congr rfl (fx4 ((loop250 N n))))))
def o0 (a0 : BA) (c1 : t1) : Option R :=
 (zq72.g N a0).bind fun r1 =>
 bif (!r1.2.2.2.2.2.2.2.2) then
  some (([] : List Int), false)
 else
 c1 ([] : List Int) r1.1 (r1.1.length : Int) 0
theorem o0.run (H500 : Code) (a0 : BA) : runC C (O N) N (.seq (c 2) (.seq (c 6) (.seq (c 14) (.seq (c 30) (.seq (.seq (c 124) (.block 0 (.loop H500))) (c 63)))))) 1 (st0 [.one (.str a0)] [] : St D0) K0 = o0 N a0 ((fun w0 w1 w2 w3 => iter (loopF C (O N) N H500 250) N (s1 w0 w1 w2 w3) (blockK 0 (onN (tk C (O N) N c 62 63 K0) K0)))) := by kernel_rfl
def g (a0 : BA) : Option R := o0 N a0 (l1 N N · · · ·)
theorem c1_0 : (c 1) = (.seq (c 2) (.seq (c 6) (.seq (c 14) (.seq (c 30) (.seq (.seq (c 124) (.block 0 (.loop (c 500)))) (c 63)))))) := by kernel_rfl
theorem g.run (a0 : BA) : runC C (O N) N (c 1) 1 (st0 [.one (.str a0)] [] : St D0) K0 = g N a0 := by
  rw [c1_0]; unfold g; exact (o0.run N (c 500) a0).trans (congr rfl (fx4 ((loop250 N N))))
def ent : Ent Tryz.prog T0 := mkEntC C tabOk0 mixed0 20 [(false, [.any])] sig (E N) Tryz.func20 (by kernel_rfl) [(false, [.own 3]), (false, [.any])] N (fun t => g N t) (fun _ => by kernel_rfl) (fun t => g.run N t)
end zq11
namespace zq113
variable (N : Nat)
abbrev R : Type := List Int × Bool
abbrev QQ : Type := St D0 → Option R
abbrev sig : Sig := ⟨[(false, 1)], [], [.str], [(false, 1), (false, 1)], [], [.sl true 3, .bool]⟩
noncomputable def C : Cfg D0 := ⟨Tryz.prog, T0, 269419501, 0, 37, 0, [(122, [6, 7, 16, 17, 18], []), (15666, [6, 7, 8, 16, 17, 18, 28], [])], 1149241344, false, []⟩
def E : List (Ent Tryz.prog T0) := [zq134.ent N]
def O : Orc D0 R := orcOf (E N)
def K0 : Ex → QQ := exitK C Tryz.f22.results.toList [(false, [.own 3]), (false, [.any])] (decOut sig)
noncomputable def c (p : Nat) : Code := codeAt (Tryz.f22.body.getD .skip) (pathN p)
abbrev t1 : Type := Bool → (List BA) → Int → Int → Option R
abbrev t2 : Type := Bool → Int → (List BA) → Int → Int → Bool → Option R
abbrev t3 : Type := Bool → (List Int) → (List BA) → Int → Int → Option R
abbrev t4 : Type := Bool → (List Int) → Int → (List BA) → Int → Int → Bool → Option R
def s1 (v0 : Bool) (v1 : List BA) (v2 v3 : Int) : St D0 := mkSt [(6, .one (.bool v0)), (7, .one (.nl)), (16, .one (.sl true 9 v1)), (17, .one (.i v2)), (18, .one (.i v3))] []
def s2 (v0 : Bool) (v1 : Int) (v2 : List BA) (v3 v4 : Int) (v5 : Bool) : St D0 := mkSt [(6, .one (.bool v0)), (7, .one (.nl)), (8, .one (.i v1)), (16, .one (.sl true 9 v2)), (17, .one (.i v3)), (18, .one (.i v4)), (28, .one (.bool v5))] []
def s3 (v0 : Bool) (v1 : List Int) (v2 : List BA) (v3 v4 : Int) : St D0 := mkSt [(6, .one (.bool v0)), (7, .one (.sl true 3 v1)), (16, .one (.sl true 9 v2)), (17, .one (.i v3)), (18, .one (.i v4))] []
def s4 (v0 : Bool) (v1 : List Int) (v2 : Int) (v3 : List BA) (v4 v5 : Int) (v6 : Bool) : St D0 := mkSt [(6, .one (.bool v0)), (7, .one (.sl true 3 v1)), (8, .one (.i v2)), (16, .one (.sl true 9 v3)), (17, .one (.i v4)), (18, .one (.i v5)), (28, .one (.bool v6))] []
def K15667 (Kn122 : QQ) : Ex → QQ := (blockK 1 ((fun up => (onN (tk C (O N) N c 1958 1959 up) up)) ((fun up => (onN (fun s => C.tidy 122 s ((onN Kn122 up) .normal)) (onN Kn122 up))) (blockK 0 (onN (tk C (O N) N c 30 31 K0) K0)))))
def o2 (N : Nat) (v0 : Bool) (v1 : Int) (v2 : List BA) (v3 v4 : Int) (v5 : Bool) (c3 : t3) (c1 : t1) : Option R :=
 bif v5 then
  bif (Nat.blt (([] : List Int).length + ([(w64 (v1 + 1))] : List Int).length) 17592186044416) then
   c3 v0 (([] : List Int) ++ ([(w64 (v1 + 1))] : List Int)) v2 v3 (w64 (v4 + 1))
  else
  none
 else
 c1 v0 v2 v3 (w64 (v4 + 1))
def d2 (v0 : Bool) (v1 : Int) (v2 : List BA) (v3 v4 : Int) (v5 : Bool) (c1 : t1) (c3 : t3) : Option R := o2 N v0 v1 v2 v3 v4 v5 c3 c1
theorem d2.run (Kn122 : QQ) (v0 : Bool) (v1 : Int) (v2 : List BA) (v3 v4 : Int) (v5 : Bool) : runC C (O N) N (c 15667) 15667 (s2 v0 v1 v2 v3 v4 v5) (K15667 N Kn122) = d2 N v0 v1 v2 v3 v4 v5 (Kn122 <| s1 · · · ·) (Kn122 <| s3 · · · · ·) := by kernel_rfl
def K244 (Kn122 : QQ) : Ex → QQ := ((fun up => (onN (fun s => C.tidy 122 s ((onN Kn122 up) .normal)) (onN Kn122 up))) (blockK 0 (onN (tk C (O N) N c 30 31 K0) K0)))
def o1 (N : Nat) (v0 : Bool) (v1 : List BA) (v2 v3 : Int) (c2 : t2) : Option R :=
 bif (decide (v3 < v2)) then
  bif (decide (0 ≤ v3)) then
   bif (decide (v3 < (v1.length : Int))) then
    (v1[(v3 : Int).toNat]?).bind fun x1 =>
    bif (x1.toList == (⟨#[110, 111]⟩ : BA).toList) then
     c2 v0 v3 v1 v2 v3 true
    else
    c2 v0 v3 v1 v2 v3 (x1.toList == (⟨#[119, 104, 97, 116]⟩ : BA).toList)
   else
   none
  else
  none
 else
 some (([] : List Int), v0)
theorem o1.run (Kn122 : QQ) (H15667 : Code) (v0 : Bool) (v1 : List BA) (v2 v3 : Int) : runC C (O N) N (.seq (c 488) (.seq (c 978) (.seq (.block 1 (.seq (c 7832) (.seq (c 15666) H15667))) (c 1959)))) 244 (s1 v0 v1 v2 v3) ((fun up => (onN (fun s => C.tidy 122 s ((onN Kn122 up) .normal)) (onN Kn122 up))) (blockK 0 (onN (tk C (O N) N c 30 31 K0) K0))) = o1 N v0 v1 v2 v3 ((fun w0 w1 w2 w3 w4 w5 => runC C (O N) N H15667 15667 (s2 w0 w1 w2 w3 w4 w5) (blockK 1 ((fun up => (onN (tk C (O N) N c 1958 1959 up) up)) ((fun up => (onN (fun s => C.tidy 122 s ((onN Kn122 up) .normal)) (onN Kn122 up))) (blockK 0 (onN (tk C (O N) N c 30 31 K0) K0))))))) := by kernel_rfl
def d1 (v0 : Bool) (v1 : List BA) (v2 v3 : Int) (c1 : t1) (c3 : t3) : Option R := o1 N v0 v1 v2 v3 (d2 N · · · · · · c1 c3)
theorem c244_1 : (c 244) = (.seq (c 488) (.seq (c 978) (.seq (.block 1 (.seq (c 7832) (.seq (c 15666) (c 15667)))) (c 1959)))) := by kernel_rfl
theorem d1.run (Kn122 : QQ) (v0 : Bool) (v1 : List BA) (v2 v3 : Int) : runC C (O N) N (c 244) 244 (s1 v0 v1 v2 v3) (K244 N Kn122) = d1 N v0 v1 v2 v3 (Kn122 <| s1 · · · ·) (Kn122 <| s3 · · · · ·) := by
  rw [c244_1]; unfold d1; exact (o1.run N Kn122 (c 15667) v0 v1 v2 v3).trans (congr rfl (fx6 (d2.run N Kn122)))
def o4 (N : Nat) (v0 : Bool) (v1 : List Int) (v2 : Int) (v3 : List BA) (v4 v5 : Int) (v6 : Bool) (c3 : t3) : Option R :=
 bif v6 then
  bif (Nat.blt (v1.length + ([(w64 (v2 + 1))] : List Int).length) 17592186044416) then
   c3 v0 (v1 ++ ([(w64 (v2 + 1))] : List Int)) v3 v4 (w64 (v5 + 1))
  else
  none
 else
 c3 v0 v1 v3 v4 (w64 (v5 + 1))
def d4 (v0 : Bool) (v1 : List Int) (v2 : Int) (v3 : List BA) (v4 v5 : Int) (v6 : Bool) (c3 : t3) : Option R := o4 N v0 v1 v2 v3 v4 v5 v6 c3
theorem d4.run (Kn122 : QQ) (v0 : Bool) (v1 : List Int) (v2 : Int) (v3 : List BA) (v4 v5 : Int) (v6 : Bool) : runC C (O N) N (c 15667) 15667 (s4 v0 v1 v2 v3 v4 v5 v6) (K15667 N Kn122) = d4 N v0 v1 v2 v3 v4 v5 v6 (Kn122 <| s3 · · · · ·) := by kernel_rfl
def o3 (N : Nat) (v0 : Bool) (v1 : List Int) (v2 : List BA) (v3 v4 : Int) (c4 : t4) : Option R :=
 bif (decide (v4 < v3)) then
  bif (decide (0 ≤ v4)) then
   bif (decide (v4 < (v2.length : Int))) then
    (v2[(v4 : Int).toNat]?).bind fun x1 =>
    bif (x1.toList == (⟨#[110, 111]⟩ : BA).toList) then
     c4 v0 v1 v4 v2 v3 v4 true
    else
    c4 v0 v1 v4 v2 v3 v4 (x1.toList == (⟨#[119, 104, 97, 116]⟩ : BA).toList)
   else
   none
  else
  none
 else
 some (v1, v0)
theorem o3.run (Kn122 : QQ) (H15667 : Code) (v0 : Bool) (v1 : List Int) (v2 : List BA) (v3 v4 : Int) : runC C (O N) N (.seq (c 488) (.seq (c 978) (.seq (.block 1 (.seq (c 7832) (.seq (c 15666) H15667))) (c 1959)))) 244 (s3 v0 v1 v2 v3 v4) ((fun up => (onN (fun s => C.tidy 122 s ((onN Kn122 up) .normal)) (onN Kn122 up))) (blockK 0 (onN (tk C (O N) N c 30 31 K0) K0))) = o3 N v0 v1 v2 v3 v4 ((fun w0 w1 w2 w3 w4 w5 w6 => runC C (O N) N H15667 15667 (s4 w0 w1 w2 w3 w4 w5 w6) (blockK 1 ((fun up => (onN (tk C (O N) N c 1958 1959 up) up)) ((fun up => (onN (fun s => C.tidy 122 s ((onN Kn122 up) .normal)) (onN Kn122 up))) (blockK 0 (onN (tk C (O N) N c 30 31 K0) K0))))))) := by kernel_rfl
def d3 (v0 : Bool) (v1 : List Int) (v2 : List BA) (v3 v4 : Int) (c3 : t3) : Option R := o3 N v0 v1 v2 v3 v4 (d4 N · · · · · · · c3)
theorem c244_3 : (c 244) = (.seq (c 488) (.seq (c 978) (.seq (.block 1 (.seq (c 7832) (.seq (c 15666) (c 15667)))) (c 1959)))) := by kernel_rfl
theorem d3.run (Kn122 : QQ) (v0 : Bool) (v1 : List Int) (v2 : List BA) (v3 v4 : Int) : runC C (O N) N (c 244) 244 (s3 v0 v1 v2 v3 v4) (K244 N Kn122) = d3 N v0 v1 v2 v3 v4 (Kn122 <| s3 · · · · ·) := by
  rw [c244_3]; unfold d3; exact (o3.run N Kn122 (c 15667) v0 v1 v2 v3 v4).trans (congr rfl (fx7 (d4.run N Kn122)))
def K122 : Ex → QQ := (blockK 0 (onN (tk C (O N) N c 30 31 K0) K0))
mutual
def l1 (N : Nat) : Nat → Bool → (List BA) → Int → Int → Option R
  | 0, _, _, _, _ => none
  | n + 1, v0, v1, v2, v3 => d1 N v0 v1 v2 v3 (l1 N n · · · ·) (l3 N n · · · · ·)
def l3 (N : Nat) : Nat → Bool → (List Int) → (List BA) → Int → Int → Option R
  | 0, _, _, _, _, _ => none
  | n + 1, v0, v1, v2, v3, v4 => d3 N v0 v1 v2 v3 v4 (l3 N n · · · · ·)
end
theorem loop122 (N : Nat) : ∀ n, (∀ (v0 : Bool) (v1 : List BA) (v2 v3 : Int), iter (loopF C (O N) N (c 244) 122) n (s1 v0 v1 v2 v3) (K122 N) = l1 N n v0 v1 v2 v3) ∧ (∀ (v0 : Bool) (v1 : List Int) (v2 : List BA) (v3 v4 : Int), iter (loopF C (O N) N (c 244) 122) n (s3 v0 v1 v2 v3 v4) (K122 N) = l3 N n v0 v1 v2 v3 v4)
  | 0 => ⟨(by intros; rfl), (by intros; rfl)⟩
  | n + 1 => ⟨(fun v0 v1 v2 v3 => (d1.run N (fun s => iter (loopF C (O N) N (c 244) 122) n s (K122 N)) v0 v1 v2 v3).trans (show _ = d1 N v0 v1 v2 v3 (l1 N n · · · ·) (l3 N n · · · · ·) from (congr (congr rfl (fx4 ((loop122 N n).1))) (fx5 ((loop122 N n).2))))), (fun v0 v1 v2 v3 v4 => (d3.run N (fun s => iter (loopF C (O N) N (c 244) 122) n s (K122 N)) v0 v1 v2 v3 v4).trans (show _ = d3 N v0 v1 v2 v3 v4 (l3 N n · · · · ·) from (congr rfl (fx5 ((loop122 N n).2)))))⟩
def o0 (a0 : BA) (c1 : t1) : Option R :=
 (zq134.g N a0).bind fun r1 =>
 c1 r1.2.2.2.2.2.2.2.2 r1.2.2.2.2.2.2.2.1 (r1.2.2.2.2.2.2.2.1.length : Int) 0
theorem o0.run (H244 : Code) (a0 : BA) : runC C (O N) N (.seq (c 2) (.seq (c 6) (.seq (c 14) (.seq (.seq (c 60) (.block 0 (.loop H244))) (c 31))))) 1 (st0 [.one (.str a0)] [] : St D0) K0 = o0 N a0 ((fun w0 w1 w2 w3 => iter (loopF C (O N) N H244 122) N (s1 w0 w1 w2 w3) (blockK 0 (onN (tk C (O N) N c 30 31 K0) K0)))) := by kernel_rfl
def g (a0 : BA) : Option R := o0 N a0 (l1 N N · · · ·)
theorem c1_0 : (c 1) = (.seq (c 2) (.seq (c 6) (.seq (c 14) (.seq (.seq (c 60) (.block 0 (.loop (c 244)))) (c 31))))) := by kernel_rfl
theorem g.run (a0 : BA) : runC C (O N) N (c 1) 1 (st0 [.one (.str a0)] [] : St D0) K0 = g N a0 := by
  rw [c1_0]; unfold g; exact (o0.run N (c 244) a0).trans (congr rfl (fx4 ((loop122 N N).1)))
def ent : Ent Tryz.prog T0 := mkEntC C tabOk0 mixed0 22 [(false, [.any])] sig (E N) Tryz.func22 (by kernel_rfl) [(false, [.own 3]), (false, [.any])] N (fun t => g N t) (fun _ => by kernel_rfl) (fun t => g.run N t)
end zq113
namespace zq101
variable (N : Nat)
abbrev R : Type := Bool
abbrev QQ : Type := St D0 → Option R
abbrev sig : Sig := ⟨[(false, 1), (false, 1)], [], [.sl false 9, .sl false 9], [(false, 1)], [], [.bool]⟩
noncomputable def C : Cfg D0 := ⟨Tryz.prog, T0, 16806963, 0, 26, 0, [(58, [0, 1, 12, 13], [])], 3344704, false, []⟩
def E (N : Nat) : List (Ent Tryz.prog T0) := []
def O : Orc D0 R := orcOf (E N)
def K0 : Ex → QQ := exitK C Tryz.f23.results.toList [(false, [.any])] (decOut sig)
noncomputable def c (p : Nat) : Code := codeAt (Tryz.f23.body.getD .skip) (pathN p)
abbrev t1 : Type := (List BA) → (List BA) → Int → Int → Option R
def s1 (v0 v1 : List BA) (v2 v3 : Int) : St D0 := mkSt [(0, .one (.sl false 9 v0)), (1, .one (.sl false 9 v1)), (12, .one (.i v2)), (13, .one (.i v3))] []
def K116 (Kn58 : QQ) : Ex → QQ := ((fun up => (onN (fun s => C.tidy 58 s ((onN Kn58 up) .normal)) (onN Kn58 up))) (blockK 0 (onN (tk C (O N) N c 14 15 K0) K0)))
def o1 (N : Nat) (v0 v1 : List BA) (v2 v3 : Int) (c1 : t1) : Option R :=
 bif (decide (v3 < v2)) then
  bif (decide (0 ≤ v3)) then
   bif (decide (v3 < (v0.length : Int))) then
    (v0[(v3 : Int).toNat]?).bind fun x1 =>
    bif (decide (0 ≤ v3)) then
     bif (decide (v3 < (v1.length : Int))) then
      (v1[(v3 : Int).toNat]?).bind fun x2 =>
      bif (!(x1.toList == x2.toList)) then
       some (false)
      else
      c1 v0 v1 v2 (w64 (v3 + 1))
     else
     none
    else
    none
   else
   none
  else
  none
 else
 some (true)
def d1 (v0 v1 : List BA) (v2 v3 : Int) (c1 : t1) : Option R := o1 N v0 v1 v2 v3 c1
theorem d1.run (Kn58 : QQ) (v0 v1 : List BA) (v2 v3 : Int) : runC C (O N) N (c 116) 116 (s1 v0 v1 v2 v3) (K116 N Kn58) = d1 N v0 v1 v2 v3 (Kn58 <| s1 · · · ·) := by kernel_rfl
def K58 : Ex → QQ := (blockK 0 (onN (tk C (O N) N c 14 15 K0) K0))
def l1 (N : Nat) : Nat → (List BA) → (List BA) → Int → Int → Option R
  | 0, _, _, _, _ => none
  | n + 1, v0, v1, v2, v3 => d1 N v0 v1 v2 v3 (l1 N n · · · ·)
theorem loop58 (N : Nat) : ∀ n, (∀ (v0 v1 : List BA) (v2 v3 : Int), iter (loopF C (O N) N (c 116) 58) n (s1 v0 v1 v2 v3) (K58 N) = l1 N n v0 v1 v2 v3)
  | 0 => (by intros; rfl)
  | n + 1 => (fun v0 v1 v2 v3 => (d1.run N (fun s => iter (loopF C (O N) N (c 116) 58) n s (K58 N)) v0 v1 v2 v3).trans (show _ = d1 N v0 v1 v2 v3 (l1 N n · · · ·) from (congr rfl (fx4 ((loop58 N n))))))
def o0 (N : Nat) (a0 a1 : List BA) (c1 : t1) : Option R :=
 bif ((a0.length : Int) != (a1.length : Int)) then
  some (false)
 else
 c1 a0 a1 (a0.length : Int) 0
theorem o0.run (H116 : Code) (a0 a1 : List BA) : runC C (O N) N (.seq (c 2) (.seq (c 6) (.seq (.seq (c 28) (.block 0 (.loop H116))) (c 15)))) 1 (st0 [.one (.sl false 9 a0), .one (.sl false 9 a1)] [] : St D0) K0 = o0 N a0 a1 ((fun w0 w1 w2 w3 => iter (loopF C (O N) N H116 58) N (s1 w0 w1 w2 w3) (blockK 0 (onN (tk C (O N) N c 14 15 K0) K0)))) := by kernel_rfl
def g (a0 a1 : List BA) : Option R := o0 N a0 a1 (l1 N N · · · ·)
theorem c1_0 : (c 1) = (.seq (c 2) (.seq (c 6) (.seq (.seq (c 28) (.block 0 (.loop (c 116)))) (c 15)))) := by kernel_rfl
theorem g.run (a0 a1 : List BA) : runC C (O N) N (c 1) 1 (st0 [.one (.sl false 9 a0), .one (.sl false 9 a1)] [] : St D0) K0 = g N a0 a1 := by
  rw [c1_0]; unfold g; exact (o0.run N (c 116) a0 a1).trans (congr rfl (fx4 ((loop58 N N))))
def ent : Ent Tryz.prog T0 := mkEntC C tabOk0 mixed0 23 [(false, [.ro 9]), (false, [.ro 9])] sig (E N) Tryz.func23 (by kernel_rfl) [(false, [.any])] N (fun t => g N t.1 t.2) (fun _ => by kernel_rfl) (fun t => g.run N t.1 t.2)
end zq101
namespace zq166
variable (N : Nat)
abbrev R : Type := Int × List Int × Int × Int
abbrev sig : Sig := ⟨[(false, 1)], [(65, 3)], [.ptr 0 0, .sl false 5, .i, .int .u64], [(false, 1)], [(65, 3)], [.i, .sl false 5, .i, .int .u64]⟩
noncomputable def C : Cfg D0 := ⟨Tryz.prog, T0, 9007199254749197, 0, 62, 1, [(14, [0, 3], [0])], 36328151978361104, false, []⟩
def E (N : Nat) : List (Ent Tryz.prog T0) := []
def O : Orc D0 R := orcOf (E N)
def K0 : Ex → St D0 → Option R := exitK C Tryz.f86.results.toList [(false, [.any])] (decOut sig)
noncomputable def c (p : Nat) : Code := codeAt (Tryz.f86.body.getD .skip) (pathN p)
abbrev t1 : Type := Int → (List Int) → Int → Int → Option R
def s1 (v0 : Int) (v1 : List Int) (v2 v3 : Int) : St D0 := mkSt [(0, .one (.ptr 0 0)), (3, .one (.i v0))] [(0, some (65, [.sl false 5 v1, .i v2, .int .u64 v3]))]
def K15 (N : Nat) : Ex → St D0 → Option R := K0
def o1 (N : Nat) (v0 : Int) (v1 : List Int) (v2 v3 : Int) : Option R :=
 bif (decide ((w64 (v2 + 1)) ≤ (v1.length : Int))) then
  some (v0, v1, (w64 (v2 + 1)), ((IntKind.wrap .u64) (((IntKind.wrap .u64) (((IntKind.wrap .u64) (v3 * 6364136223846793005)) + ((IntKind.wrap .u64) v0))) + 1442695040888963407)))
 else
 some ((w64 (andK .u64 (shrK .u64 ((IntKind.wrap .u64) (((IntKind.wrap .u64) (((IntKind.wrap .u64) (v3 * 6364136223846793005)) + ((IntKind.wrap .u64) v0))) + 1442695040888963407)) 40) 255)), v1, (w64 (v2 + 1)), ((IntKind.wrap .u64) (((IntKind.wrap .u64) (((IntKind.wrap .u64) (v3 * 6364136223846793005)) + ((IntKind.wrap .u64) v0))) + 1442695040888963407)))
def d1 (v0 : Int) (v1 : List Int) (v2 v3 : Int) : Option R := o1 N v0 v1 v2 v3
theorem d1.run (v0 : Int) (v1 : List Int) (v2 v3 : Int) : runC C (O N) N (c 15) 15 (s1 v0 v1 v2 v3) (K15 N) = d1 N v0 v1 v2 v3 := by kernel_rfl
def o0 (N : Nat) (b0_0 : List Int) (b0_1 b0_2 : Int) (c1 : t1) : Option R :=
 bif (decide (b0_1 < (b0_0.length : Int))) then
  bif (decide (0 ≤ b0_1)) then
   bif (decide (b0_1 < (b0_0.length : Int))) then
    (b0_0[(b0_1 : Int).toNat]?).bind fun x1 =>
    c1 (w64 x1) b0_0 b0_1 b0_2
   else
   none
  else
  none
 else
 c1 0 b0_0 b0_1 b0_2
theorem o0.run (H15 : Code) (b0_0 : List Int) (b0_1 b0_2 : Int) : runC C (O N) N (.seq (c 2) (.seq (c 6) (.seq (c 14) H15))) 1 (st0 [.one (.ptr 0 0)] [(65, [.sl false 5 b0_0, .i b0_1, .int .u64 b0_2])] : St D0) K0 = o0 N b0_0 b0_1 b0_2 ((fun w0 w1 w2 w3 => runC C (O N) N H15 15 (s1 w0 w1 w2 w3) K0)) := by kernel_rfl
def g (b0_0 : List Int) (b0_1 b0_2 : Int) : Option R := o0 N b0_0 b0_1 b0_2 (d1 N · · · ·)
theorem c1_0 : (c 1) = (.seq (c 2) (.seq (c 6) (.seq (c 14) (c 15)))) := by kernel_rfl
theorem g.run (b0_0 : List Int) (b0_1 b0_2 : Int) : runC C (O N) N (c 1) 1 (st0 [.one (.ptr 0 0)] [(65, [.sl false 5 b0_0, .i b0_1, .int .u64 b0_2])] : St D0) K0 = g N b0_0 b0_1 b0_2 := by
  rw [c1_0]; unfold g; exact (o0.run N (c 15) b0_0 b0_1 b0_2).trans (congr rfl (fx4 (d1.run N)))
def ent : Ent Tryz.prog T0 := mkEntC C tabOk0 mixed0 86 [(false, [.any])] sig (E N) Tryz.func86 (by kernel_rfl) [(false, [.any])] N (fun t => g N t.2.1 t.2.2.1 t.2.2.2) (fun _ => by kernel_rfl) (fun t => g.run N t.2.1 t.2.2.1 t.2.2.2)
end zq166
namespace zq169
variable (N : Nat)
abbrev R : Type := Int × List Int × Int × Int
abbrev sig : Sig := ⟨[(false, 1), (false, 1)], [(65, 3)], [.ptr 0 0, .i, .sl false 5, .i, .int .u64], [(false, 1)], [(65, 3)], [.i, .sl false 5, .i, .int .u64]⟩
noncomputable def C : Cfg D0 := ⟨Tryz.prog, T0, 2227, 0, 20, 1, [(30, [1, 5], [0])], 415040, false, []⟩
def E : List (Ent Tryz.prog T0) := [zq166.ent N]
def O : Orc D0 R := orcOf (E N)
def K0 : Ex → St D0 → Option R := exitK C Tryz.f60.results.toList [(false, [.any])] (decOut sig)
noncomputable def c (p : Nat) : Code := codeAt (Tryz.f60.body.getD .skip) (pathN p)
abbrev t1 : Type := Int → Int → (List Int) → Int → Int → Option R
def s1 (v0 v1 : Int) (v2 : List Int) (v3 v4 : Int) : St D0 := mkSt [(1, .one (.i v0)), (5, .one (.i v1))] [(0, some (65, [.sl false 5 v2, .i v3, .int .u64 v4]))]
def K31 (N : Nat) : Ex → St D0 → Option R := K0
def o1 (N : Nat) (v0 v1 : Int) (v2 : List Int) (v3 v4 : Int) : Option R :=
 bif (v0 == 0) then
  none
 else
 some ((Int.tmod v1 v0), v2, v3, v4)
def d1 (v0 v1 : Int) (v2 : List Int) (v3 v4 : Int) : Option R := o1 N v0 v1 v2 v3 v4
theorem d1.run (v0 v1 : Int) (v2 : List Int) (v3 v4 : Int) : runC C (O N) N (c 31) 31 (s1 v0 v1 v2 v3 v4) (K31 N) = d1 N v0 v1 v2 v3 v4 := by kernel_rfl
def o0 (a1 : Int) (b0_0 : List Int) (b0_1 b0_2 : Int) (c1 : t1) : Option R :=
 bif (decide (a1 ≤ 1)) then
  some (0, b0_0, b0_1, b0_2)
 else
 (zq166.g N b0_0 b0_1 b0_2).bind fun r1 =>
 bif (decide (a1 > 200)) then
  (zq166.g N r1.2.1 r1.2.2.1 r1.2.2.2).bind fun r2 =>
  c1 a1 (w64 ((w64 (r1.1 * 256)) + r2.1)) r2.2.1 r2.2.2.1 r2.2.2.2
 else
 c1 a1 r1.1 r1.2.1 r1.2.2.1 r1.2.2.2
theorem o0.run (H31 : Code) (a1 : Int) (b0_0 : List Int) (b0_1 b0_2 : Int) : runC C (O N) N (.seq (c 2) (.seq (c 6) (.seq (c 14) (.seq (c 30) H31)))) 1 (st0 [.one (.ptr 0 0), .one (.i a1)] [(65, [.sl false 5 b0_0, .i b0_1, .int .u64 b0_2])] : St D0) K0 = o0 N a1 b0_0 b0_1 b0_2 ((fun w0 w1 w2 w3 w4 => runC C (O N) N H31 31 (s1 w0 w1 w2 w3 w4) K0)) := by kernel_rfl
def B15 : St D0 → Option R := fun s' => runC C (O N) N (c 31) 31 s' (K31 N)
def g (a1 : Int) (b0_0 : List Int) (b0_1 b0_2 : Int) : Option R := o0 N a1 b0_0 b0_1 b0_2 (d1 N · · · · ·)
theorem c1_0 : (c 1) = (.seq (c 2) (.seq (c 6) (.seq (c 14) (.seq (c 30) (c 31))))) := by kernel_rfl
theorem g.run (a1 : Int) (b0_0 : List Int) (b0_1 b0_2 : Int) : runC C (O N) N (c 1) 1 (st0 [.one (.ptr 0 0), .one (.i a1)] [(65, [.sl false 5 b0_0, .i b0_1, .int .u64 b0_2])] : St D0) K0 = g N a1 b0_0 b0_1 b0_2 := by
  rw [c1_0]; unfold g; exact (o0.run N (c 31) a1 b0_0 b0_1 b0_2).trans (congr rfl (fx5 (d1.run N)))
def ent : Ent Tryz.prog T0 := mkEntC C tabOk0 mixed0 60 [(false, [.any]), (false, [.any])] sig (E N) Tryz.func60 (by kernel_rfl) [(false, [.any])] N (fun t => g N t.2.1 t.2.2.1 t.2.2.2.1 t.2.2.2.2) (fun _ => by kernel_rfl) (fun t => g.run N t.2.1 t.2.2.1 t.2.2.2.1 t.2.2.2.2)
end zq169
namespace zq164
variable (N : Nat)
abbrev R : Type := Int × List Int × Int × Int
abbrev sig : Sig := ⟨[(false, 1), (false, 1)], [(65, 3)], [.ptr 0 0, .sl false 3, .sl false 5, .i, .int .u64], [(false, 1)], [(65, 3)], [.i, .sl false 5, .i, .int .u64]⟩
noncomputable def C : Cfg D0 := ⟨Tryz.prog, T0, 19, 0, 12, 1, [], 224, false, []⟩
def E : List (Ent Tryz.prog T0) := [zq169.ent N]
def O : Orc D0 R := orcOf (E N)
def K0 : Ex → St D0 → Option R := exitK C Tryz.f62.results.toList [(false, [.any])] (decOut sig)
noncomputable def c (p : Nat) : Code := codeAt (Tryz.f62.body.getD .skip) (pathN p)
def o0 (a1 b0_0 : List Int) (b0_1 b0_2 : Int) : Option R :=
 (zq169.g N (a1.length : Int) b0_0 b0_1 b0_2).bind fun r1 =>
 bif (decide (0 ≤ r1.1)) then
  bif (decide (r1.1 < (a1.length : Int))) then
   (a1[(r1.1 : Int).toNat]?).bind fun x2 =>
   some (x2, r1.2.1, r1.2.2.1, r1.2.2.2)
  else
  none
 else
 none
def g (a1 b0_0 : List Int) (b0_1 b0_2 : Int) : Option R := o0 N a1 b0_0 b0_1 b0_2
theorem g.run (a1 b0_0 : List Int) (b0_1 b0_2 : Int) : runC C (O N) N (c 1) 1 (st0 [.one (.ptr 0 0), .one (.sl false 3 a1)] [(65, [.sl false 5 b0_0, .i b0_1, .int .u64 b0_2])] : St D0) K0 = g N a1 b0_0 b0_1 b0_2 := by kernel_rfl
def ent : Ent Tryz.prog T0 := mkEntC C tabOk0 mixed0 62 [(false, [.any]), (false, [.ro 3])] sig (E N) Tryz.func62 (by kernel_rfl) [(false, [.any])] N (fun t => g N t.2.1 t.2.2.1 t.2.2.2.1 t.2.2.2.2) (fun _ => by kernel_rfl) (fun t => g.run N t.2.1 t.2.2.1 t.2.2.2.1 t.2.2.2.2)
end zq164
namespace zq168
variable (N : Nat)
abbrev R : Type := Bool × List Int × Int × Int
abbrev sig : Sig := ⟨[(false, 1), (false, 1)], [(65, 3)], [.ptr 0 0, .i, .sl false 5, .i, .int .u64], [(false, 1)], [(65, 3)], [.bool, .sl false 5, .i, .int .u64]⟩
noncomputable def C : Cfg D0 := ⟨Tryz.prog, T0, 19, 0, 9, 1, [], 96, false, []⟩
def E : List (Ent Tryz.prog T0) := [zq169.ent N]
def O : Orc D0 R := orcOf (E N)
def K0 : Ex → St D0 → Option R := exitK C Tryz.f36.results.toList [(false, [.any])] (decOut sig)
noncomputable def c (p : Nat) : Code := codeAt (Tryz.f36.body.getD .skip) (pathN p)
def o0 (a1 : Int) (b0_0 : List Int) (b0_1 b0_2 : Int) : Option R :=
 (zq169.g N a1 b0_0 b0_1 b0_2).bind fun r1 =>
 some ((r1.1 == 0), r1.2.1, r1.2.2.1, r1.2.2.2)
def g (a1 : Int) (b0_0 : List Int) (b0_1 b0_2 : Int) : Option R := o0 N a1 b0_0 b0_1 b0_2
theorem g.run (a1 : Int) (b0_0 : List Int) (b0_1 b0_2 : Int) : runC C (O N) N (c 1) 1 (st0 [.one (.ptr 0 0), .one (.i a1)] [(65, [.sl false 5 b0_0, .i b0_1, .int .u64 b0_2])] : St D0) K0 = g N a1 b0_0 b0_1 b0_2 := by kernel_rfl
def ent : Ent Tryz.prog T0 := mkEntC C tabOk0 mixed0 36 [(false, [.any]), (false, [.any])] sig (E N) Tryz.func36 (by kernel_rfl) [(false, [.any])] N (fun t => g N t.2.1 t.2.2.1 t.2.2.2.1 t.2.2.2.2) (fun _ => by kernel_rfl) (fun t => g.run N t.2.1 t.2.2.1 t.2.2.2.1 t.2.2.2.2)
end zq168
namespace zq167
variable (N : Nat)
abbrev R : Type := BA × List Int × Int × Int
abbrev sig : Sig := ⟨[(false, 1), (false, 1)], [(65, 3)], [.ptr 0 0, .sl false 9, .sl false 5, .i, .int .u64], [(false, 1)], [(65, 3)], [.str, .sl false 5, .i, .int .u64]⟩
noncomputable def C : Cfg D0 := ⟨Tryz.prog, T0, 19, 0, 12, 1, [], 224, false, []⟩
def E : List (Ent Tryz.prog T0) := [zq169.ent N]
def O : Orc D0 R := orcOf (E N)
def K0 : Ex → St D0 → Option R := exitK C Tryz.f63.results.toList [(false, [.any])] (decOut sig)
noncomputable def c (p : Nat) : Code := codeAt (Tryz.f63.body.getD .skip) (pathN p)
def o0 (a1 : List BA) (b0_0 : List Int) (b0_1 b0_2 : Int) : Option R :=
 (zq169.g N (a1.length : Int) b0_0 b0_1 b0_2).bind fun r1 =>
 bif (decide (0 ≤ r1.1)) then
  bif (decide (r1.1 < (a1.length : Int))) then
   (a1[(r1.1 : Int).toNat]?).bind fun x2 =>
   some (x2, r1.2.1, r1.2.2.1, r1.2.2.2)
  else
  none
 else
 none
def g (a1 : List BA) (b0_0 : List Int) (b0_1 b0_2 : Int) : Option R := o0 N a1 b0_0 b0_1 b0_2
theorem g.run (a1 : List BA) (b0_0 : List Int) (b0_1 b0_2 : Int) : runC C (O N) N (c 1) 1 (st0 [.one (.ptr 0 0), .one (.sl false 9 a1)] [(65, [.sl false 5 b0_0, .i b0_1, .int .u64 b0_2])] : St D0) K0 = g N a1 b0_0 b0_1 b0_2 := by kernel_rfl
def ent : Ent Tryz.prog T0 := mkEntC C tabOk0 mixed0 63 [(false, [.any]), (false, [.ro 9])] sig (E N) Tryz.func63 (by kernel_rfl) [(false, [.any])] N (fun t => g N t.2.1 t.2.2.1 t.2.2.2.1 t.2.2.2.2) (fun _ => by kernel_rfl) (fun t => g.run N t.2.1 t.2.2.1 t.2.2.2.1 t.2.2.2.2)
end zq167
namespace zq172
variable (N : Nat)
abbrev R : Type := Int × Int × List Int × Int × Int
abbrev sig : Sig := ⟨[(false, 1)], [(65, 3)], [.ptr 0 0, .sl false 5, .i, .int .u64], [(true, 2)], [(65, 3)], [.i, .i, .sl false 5, .i, .int .u64]⟩
noncomputable def C : Cfg D0 := ⟨Tryz.prog, T0, 61, 0, 24, 1, [], 722688, false, []⟩
def E : List (Ent Tryz.prog T0) := [zq169.ent N, zq151.ent N]
def O : Orc D0 R := orcOf (E N)
def K0 : Ex → St D0 → Option R := exitK C Tryz.f65.results.toList [(true, [.any, .any])] (decOut sig)
noncomputable def c (p : Nat) : Code := codeAt (Tryz.f65.body.getD .skip) (pathN p)
def o0 (b0_0 : List Int) (b0_1 b0_2 : Int) : Option R :=
 (zq169.g N (([1, 2, 3, 4, 6, 8, 11, 12, 13, 24, 60, 143, 720, 719, 7, 5] : List Int).length : Int) b0_0 b0_1 b0_2).bind fun r1 =>
 bif (decide (0 ≤ r1.1)) then
  bif (decide (r1.1 < (([1, 2, 3, 4, 6, 8, 11, 12, 13, 24, 60, 143, 720, 719, 7, 5] : List Int).length : Int))) then
   (([1, 2, 3, 4, 6, 8, 11, 12, 13, 24, 60, 143, 720, 719, 7, 5] : List Int)[(r1.1 : Int).toNat]?).bind fun x2 =>
   (zq169.g N x2 r1.2.1 r1.2.2.1 r1.2.2.2).bind fun r3 =>
   (zq151.g N r3.1 x2).bind fun r4 =>
   some (r4.1, r4.2.1, r3.2.1, r3.2.2.1, r3.2.2.2)
  else
  none
 else
 none
def g (b0_0 : List Int) (b0_1 b0_2 : Int) : Option R := o0 N b0_0 b0_1 b0_2
theorem g.run (b0_0 : List Int) (b0_1 b0_2 : Int) : runC C (O N) N (c 1) 1 (st0 [.one (.ptr 0 0)] [(65, [.sl false 5 b0_0, .i b0_1, .int .u64 b0_2])] : St D0) K0 = g N b0_0 b0_1 b0_2 := by kernel_rfl
def ent : Ent Tryz.prog T0 := mkEntC C tabOk0 mixed0 65 [(false, [.any])] sig (E N) Tryz.func65 (by kernel_rfl) [(true, [.any, .any])] N (fun t => g N t.2.1 t.2.2.1 t.2.2.2) (fun _ => by kernel_rfl) (fun t => g.run N t.2.1 t.2.2.1 t.2.2.2)
end zq172
namespace zq165
variable (N : Nat)
abbrev R : Type := BA × List Int × Int × Int
abbrev sig : Sig := ⟨[(false, 1)], [(65, 3)], [.ptr 0 0, .sl false 5, .i, .int .u64], [(false, 1)], [(65, 3)], [.str, .sl false 5, .i, .int .u64]⟩
noncomputable def C : Cfg D0 := ⟨Tryz.prog, T0, 2310630352638492685, 0, 69, 1, [(470, [0, 3, 14, 22], [0]), (30206, [0, 3, 14, 41], [0])], 83173639282032255248, false, []⟩
def E : List (Ent Tryz.prog T0) := [zq169.ent N, zq175.ent N, zq164.ent N, zq167.ent N, zq172.ent N, zq154.ent N]
def O : Orc D0 R := orcOf (E N)
def K0 : Ex → St D0 → Option R := exitK C Tryz.f37.results.toList [(false, [.any])] (decOut sig)
noncomputable def c (p : Nat) : Code := codeAt (Tryz.f37.body.getD .skip) (pathN p)
abbrev t1 : Type := BA → Int → Bool → (List Int) → Int → Int → Option R
abbrev t2 : Type := BA → Int → Bool → (List Int) → Int → Int → Option R
def s1 (v0 : BA) (v1 : Int) (v2 : Bool) (v3 : List Int) (v4 v5 : Int) : St D0 := mkSt [(0, .one (.ptr 0 0)), (3, .one (.str v0)), (14, .one (.i v1)), (22, .one (.bool v2))] [(0, some (65, [.sl false 5 v3, .i v4, .int .u64 v5]))]
def s2 (v0 : BA) (v1 : Int) (v2 : Bool) (v3 : List Int) (v4 v5 : Int) : St D0 := mkSt [(0, .one (.ptr 0 0)), (3, .one (.str v0)), (14, .one (.i v1)), (41, .one (.bool v2))] [(0, some (65, [.sl false 5 v3, .i v4, .int .u64 v5]))]
def K30207 : Ex → St D0 → Option R := (blockK 0 (onN (tk C (O N) N c 14 15 K0) K0))
def o2 (v0 : BA) (v1 : Int) (v2 : Bool) (v3 : List Int) (v4 v5 : Int) : Option R :=
 bif v2 then
  (zq167.g N ([(⟨#[115, 104, 111, 119]⟩ : BA), (⟨#[119, 104, 101, 114, 101]⟩ : BA), (⟨#[108, 111, 110, 103]⟩ : BA), (⟨#[97, 110, 103, 108, 101]⟩ : BA), (⟨#[115, 109, 97, 108, 108]⟩ : BA), (⟨#[114, 105, 103, 104, 116]⟩ : BA), (⟨#[101, 118, 101, 114, 121]⟩ : BA), (⟨#[117, 110, 115, 117, 114, 101]⟩ : BA)] : List BA) v3 v4 v5).bind fun r1 =>
  some (r1.1, r1.2.1, r1.2.2.1, r1.2.2.2)
 else
 bif (v1 == 8) then
  bif (Nat.ble ((⟨#[119, 105, 116, 104, 32]⟩ : BA).size + v0.size) 9223372036854775807) then
   some (((⟨#[119, 105, 116, 104, 32]⟩ : BA) ++ v0), v3, v4, v5)
  else
  none
 else
 bif (v1 == 9) then
  (zq167.g N ([(⟨#[115, 104, 111, 119, 110, 32]⟩ : BA), (⟨#[97, 104, 101, 97, 100, 32]⟩ : BA)] : List BA) v3 v4 v5).bind fun r2 =>
  (zq167.g N ([(⟨#[51, 54, 47, 49]⟩ : BA), (⟨#[49, 47, 50]⟩ : BA), (⟨#[48, 47, 49]⟩ : BA), (⟨#[55, 47, 51]⟩ : BA), (⟨#[49, 48, 48, 48, 48, 48, 48, 47, 49]⟩ : BA)] : List BA) r2.2.1 r2.2.2.1 r2.2.2.2).bind fun r3 =>
  bif (Nat.ble (r2.1.size + r3.1.size) 9223372036854775807) then
   some ((r2.1 ++ r3.1), r3.2.1, r3.2.2.1, r3.2.2.2)
  else
  none
 else
 bif (v1 == 10) then
  (zq167.g N ([(⟨#[111, 116, 104, 101, 114, 32, 49, 48]⟩ : BA), (⟨#[111, 116, 104, 101, 114, 32, 50, 52]⟩ : BA), (⟨#[108, 101, 97, 112, 32, 49, 57, 48, 48]⟩ : BA), (⟨#[108, 101, 97, 112, 32, 50, 48, 48, 48]⟩ : BA), (⟨#[108, 101, 97, 112, 32, 48]⟩ : BA), (⟨#[98, 101, 115, 116, 32, 50, 52, 50, 50, 32, 49, 48, 48, 48, 48, 32, 52, 48]⟩ : BA), (⟨#[98, 101, 115, 116, 32, 49, 32, 52, 32, 49, 48, 48]⟩ : BA)] : List BA) v3 v4 v5).bind fun r4 =>
  some (r4.1, r4.2.1, r4.2.2.1, r4.2.2.2)
 else
 (zq167.g N ([(⟨#[102, 108, 121]⟩ : BA), (⟨#[]⟩ : BA), (⟨#[115, 104, 111, 119, 32]⟩ : BA), (⟨#[100, 105, 97, 108, 32, 49]⟩ : BA), (⟨#[100, 105, 97, 108, 32, 120]⟩ : BA), (⟨#[115, 101, 116, 32]⟩ : BA), (⟨#[115, 101, 116, 32, 57]⟩ : BA), (⟨#[115, 101, 116, 32, 49, 51, 58, 48, 48, 58, 48, 48]⟩ : BA), (⟨#[116, 117, 114, 110, 32, 49]⟩ : BA), (⟨#[116, 117, 114, 110, 32, 49, 32, 48]⟩ : BA), (⟨#[111, 110, 32, 49, 32, 49, 48, 48, 48, 48, 48, 49]⟩ : BA), (⟨#[115, 104, 111, 119, 110, 32, 50, 47, 52]⟩ : BA), (⟨#[97, 104, 101, 97, 100, 32, 120]⟩ : BA), (⟨#[111, 116, 104, 101, 114, 32, 48]⟩ : BA), (⟨#[108, 101, 97, 112, 32, 49, 48, 48, 48, 48, 48, 49]⟩ : BA), (⟨#[98, 101, 115, 116, 32, 52, 32, 52, 32, 49]⟩ : BA), (⟨#[99, 108, 111, 99, 107, 32, 48, 32, 49]⟩ : BA), (⟨#[119, 105, 116, 104, 32, 49, 32, 48]⟩ : BA)] : List BA) v3 v4 v5).bind fun r5 =>
 some (r5.1, r5.2.1, r5.2.2.1, r5.2.2.2)
def d2 (v0 : BA) (v1 : Int) (v2 : Bool) (v3 : List Int) (v4 v5 : Int) : Option R := o2 N v0 v1 v2 v3 v4 v5
theorem d2.run (v0 : BA) (v1 : Int) (v2 : Bool) (v3 : List Int) (v4 v5 : Int) : runC C (O N) N (c 30207) 30207 (s2 v0 v1 v2 v3 v4 v5) (K30207 N) = d2 N v0 v1 v2 v3 v4 v5 := by kernel_rfl
def K471 : Ex → St D0 → Option R := (blockK 0 (onN (tk C (O N) N c 14 15 K0) K0))
def o1 (v0 : BA) (v1 : Int) (v2 : Bool) (v3 : List Int) (v4 v5 : Int) (c2 : t2) : Option R :=
 bif v2 then
  (zq167.g N ([(⟨#[116, 117, 114, 110, 32]⟩ : BA), (⟨#[111, 110, 32]⟩ : BA), (⟨#[111, 102, 102, 32]⟩ : BA)] : List BA) v3 v4 v5).bind fun r1 =>
  bif (Nat.ble (r1.1.size + v0.size) 9223372036854775807) then
   some ((r1.1 ++ v0), r1.2.1, r1.2.2.1, r1.2.2.2)
  else
  none
 else
 bif (v1 == 3) then
  (zq172.g N v3 v4 v5).bind fun r2 =>
  (zq154.g N 12 r2.1 r2.2.1).bind fun r3 =>
  bif (Nat.ble ((⟨#[115, 101, 116, 32]⟩ : BA).size + r3.size) 9223372036854775807) then
   some (((⟨#[115, 101, 116, 32]⟩ : BA) ++ r3), r2.2.2.1, r2.2.2.2.1, r2.2.2.2.2)
  else
  none
 else
 bif (v1 == 4) then
  (zq167.g N ([(⟨#[109, 105, 114, 114, 111, 114]⟩ : BA), (⟨#[115, 119, 97, 112]⟩ : BA), (⟨#[115, 119, 97, 112]⟩ : BA), (⟨#[99, 108, 111, 99, 107, 32, 55, 51, 32, 55, 50]⟩ : BA), (⟨#[99, 108, 111, 99, 107, 32, 55, 49, 32, 55, 50]⟩ : BA), (⟨#[99, 108, 111, 99, 107, 32, 50, 32, 52]⟩ : BA)] : List BA) v3 v4 v5).bind fun r4 =>
  some (r4.1, r4.2.1, r4.2.2.1, r4.2.2.2)
 else
 bif (v1 == 5) then
  c2 v0 v1 true v3 v4 v5
 else
 bif (v1 == 6) then
  c2 v0 v1 true v3 v4 v5
 else
 c2 v0 v1 (v1 == 7) v3 v4 v5
theorem o1.run (H30207 : Code) (v0 : BA) (v1 : Int) (v2 : Bool) (v3 : List Int) (v4 v5 : Int) : runC C (O N) N (.cond (.tmp 22) (c 942) (.seq (c 1886) (.cond (.tmp 30) (c 3774) (.seq (c 7550) (.cond (.tmp 36) (c 15102) (.seq (c 30206) H30207)))))) 471 (s1 v0 v1 v2 v3 v4 v5) (blockK 0 (onN (tk C (O N) N c 14 15 K0) K0)) = o1 N v0 v1 v2 v3 v4 v5 ((fun w0 w1 w2 w3 w4 w5 => runC C (O N) N H30207 30207 (s2 w0 w1 w2 w3 w4 w5) (blockK 0 (onN (tk C (O N) N c 14 15 K0) K0)))) := by kernel_rfl
def d1 (v0 : BA) (v1 : Int) (v2 : Bool) (v3 : List Int) (v4 v5 : Int) : Option R := o1 N v0 v1 v2 v3 v4 v5 (d2 N · · · · · ·)
theorem c471_1 : (c 471) = (.cond (.tmp 22) (c 942) (.seq (c 1886) (.cond (.tmp 30) (c 3774) (.seq (c 7550) (.cond (.tmp 36) (c 15102) (.seq (c 30206) (c 30207))))))) := by kernel_rfl
theorem d1.run (v0 : BA) (v1 : Int) (v2 : Bool) (v3 : List Int) (v4 v5 : Int) : runC C (O N) N (c 471) 471 (s1 v0 v1 v2 v3 v4 v5) (K471 N) = d1 N v0 v1 v2 v3 v4 v5 := by
  rw [c471_1]; unfold d1; exact (o1.run N (c 30207) v0 v1 v2 v3 v4 v5).trans (congr rfl (fx6 (d2.run N)))
def o0 (b0_0 : List Int) (b0_1 b0_2 : Int) (c1 : t1) : Option R :=
 (zq169.g N 12 b0_0 b0_1 b0_2).bind fun r1 =>
 (zq175.g N r1.1).bind fun r2 =>
 bif (Nat.ble (r2.size + (⟨#[32]⟩ : BA).size) 9223372036854775807) then
  (zq164.g N ([1, 2, 8, 11, 12, 60, 143, 0] : List Int) r1.2.1 r1.2.2.1 r1.2.2.2).bind fun r3 =>
  (zq175.g N r3.1).bind fun r4 =>
  bif (Nat.ble ((r2 ++ (⟨#[32]⟩ : BA)).size + r4.size) 9223372036854775807) then
   (zq169.g N 12 r3.2.1 r3.2.2.1 r3.2.2.2).bind fun r5 =>
   bif (r5.1 == 0) then
    (zq164.g N ([12, 24, 10, 6, 25] : List Int) r5.2.1 r5.2.2.1 r5.2.2.2).bind fun r6 =>
    (zq175.g N r6.1).bind fun r7 =>
    bif (Nat.ble ((⟨#[100, 105, 97, 108, 32]⟩ : BA).size + r7.size) 9223372036854775807) then
     some (((⟨#[100, 105, 97, 108, 32]⟩ : BA) ++ r7), r6.2.1, r6.2.2.1, r6.2.2.2)
    else
    none
   else
   bif (r5.1 == 1) then
    c1 ((r2 ++ (⟨#[32]⟩ : BA)) ++ r4) r5.1 true r5.2.1 r5.2.2.1 r5.2.2.2
   else
   c1 ((r2 ++ (⟨#[32]⟩ : BA)) ++ r4) r5.1 (r5.1 == 2) r5.2.1 r5.2.2.1 r5.2.2.2
  else
  none
 else
 none
theorem o0.run (H471 : Code) (b0_0 : List Int) (b0_1 b0_2 : Int) : runC C (O N) N (.seq (c 2) (.seq (c 6) (.seq (.seq (c 28) (.block 0 (.seq (c 116) (.cond (.tmp 15) (c 234) (.seq (c 470) H471))))) (c 15)))) 1 (st0 [.one (.ptr 0 0)] [(65, [.sl false 5 b0_0, .i b0_1, .int .u64 b0_2])] : St D0) K0 = o0 N b0_0 b0_1 b0_2 ((fun w0 w1 w2 w3 w4 w5 => runC C (O N) N H471 471 (s1 w0 w1 w2 w3 w4 w5) (blockK 0 (onN (tk C (O N) N c 14 15 K0) K0)))) := by kernel_rfl
def g (b0_0 : List Int) (b0_1 b0_2 : Int) : Option R := o0 N b0_0 b0_1 b0_2 (d1 N · · · · · ·)
theorem c1_0 : (c 1) = (.seq (c 2) (.seq (c 6) (.seq (.seq (c 28) (.block 0 (.seq (c 116) (.cond (.tmp 15) (c 234) (.seq (c 470) (c 471)))))) (c 15)))) := by kernel_rfl
theorem g.run (b0_0 : List Int) (b0_1 b0_2 : Int) : runC C (O N) N (c 1) 1 (st0 [.one (.ptr 0 0)] [(65, [.sl false 5 b0_0, .i b0_1, .int .u64 b0_2])] : St D0) K0 = g N b0_0 b0_1 b0_2 := by
  rw [c1_0]; unfold g; exact (o0.run N (c 471) b0_0 b0_1 b0_2).trans (congr rfl (fx6 (d1.run N)))
def ent : Ent Tryz.prog T0 := mkEntC C tabOk0 mixed0 37 [(false, [.any])] sig (E N) Tryz.func37 (by kernel_rfl) [(false, [.any])] N (fun t => g N t.2.1 t.2.2.1 t.2.2.2) (fun _ => by kernel_rfl) (fun t => g.run N t.2.1 t.2.2.1 t.2.2.2)
end zq165
namespace zq171
variable (N : Nat)
abbrev R : Type := BA × List Int × Int × Int
abbrev QQ : Type := St D0 → Option R
abbrev sig : Sig := ⟨[(false, 1), (false, 1), (false, 1)], [(65, 3)], [.ptr 0 0, .str, .str, .sl false 5, .i, .int .u64], [(false, 1)], [(65, 3)], [.str, .sl false 5, .i, .int .u64]⟩
noncomputable def C : Cfg D0 := ⟨Tryz.prog, T0, 36046423565272007, 0, 68, 1, [(26, [0, 1, 2, 7], [0]), (104, [0, 1, 2, 7], [0]), (210, [0, 1, 2, 7], [0])], 15427856452832797696, false, []⟩
def E : List (Ent Tryz.prog T0) := [zq169.ent N]
def O : Orc D0 R := orcOf (E N)
def K0 : Ex → QQ := exitK C Tryz.f84.results.toList [(false, [.any])] (decOut sig)
noncomputable def c (p : Nat) : Code := codeAt (Tryz.f84.body.getD .skip) (pathN p)
abbrev t1 : Type := BA → BA → Int → (List Int) → Int → Int → Option R
abbrev t2 : Type := BA → BA → Int → (List Int) → Int → Int → Option R
abbrev t3 : Type := BA → BA → Int → (List Int) → Int → Int → Option R
def s1 (v0 v1 : BA) (v2 : Int) (v3 : List Int) (v4 v5 : Int) : St D0 := mkSt [(0, .one (.ptr 0 0)), (1, .one (.str v0)), (2, .one (.str v1)), (7, .one (.i v2))] [(0, some (65, [.sl false 5 v3, .i v4, .int .u64 v5]))]
def s2 (v0 v1 : BA) (v2 : Int) (v3 : List Int) (v4 v5 : Int) : St D0 := mkSt [(0, .one (.ptr 0 0)), (1, .one (.str v0)), (2, .one (.str v1)), (7, .one (.i v2))] [(0, some (65, [.sl false 5 v3, .i v4, .int .u64 v5]))]
def s3 (v0 v1 : BA) (v2 : Int) (v3 : List Int) (v4 v5 : Int) : St D0 := mkSt [(0, .one (.ptr 0 0)), (1, .one (.str v0)), (2, .one (.str v1)), (7, .one (.i v2))] [(0, some (65, [.sl false 5 v3, .i v4, .int .u64 v5]))]
def K211 (Kn26 : QQ) : Ex → QQ := ((fun up => (onN (fun s => C.tidy 26 s ((onN Kn26 up) .normal)) (onN Kn26 up))) (blockK 0 (onN (tk C (O N) N c 6 7 K0) K0)))
def o3 (N : Nat) (v0 v1 : BA) (v2 : Int) (v3 : List Int) (v4 v5 : Int) (c1 : t1) : Option R :=
 c1 v0 v1 (w64 (v2 - 1)) v3 v4 v5
def d3 (v0 v1 : BA) (v2 : Int) (v3 : List Int) (v4 v5 : Int) (c1 : t1) : Option R := o3 N v0 v1 v2 v3 v4 v5 c1
theorem d3.run (Kn26 : QQ) (v0 v1 : BA) (v2 : Int) (v3 : List Int) (v4 v5 : Int) : runC C (O N) N (c 211) 211 (s3 v0 v1 v2 v3 v4 v5) (K211 N Kn26) = d3 N v0 v1 v2 v3 v4 v5 (Kn26 <| s1 · · · · · ·) := by kernel_rfl
def K105 (Kn26 : QQ) : Ex → QQ := ((fun up => (onN (fun s => C.tidy 26 s ((onN Kn26 up) .normal)) (onN Kn26 up))) (blockK 0 (onN (tk C (O N) N c 6 7 K0) K0)))
def o2 (v0 v1 : BA) (v2 : Int) (v3 : List Int) (v4 v5 : Int) (c3 : t3) : Option R :=
 (zq169.g N (v0.size : Int) v3 v4 v5).bind fun r1 =>
 (zq169.g N (v1.size : Int) r1.2.1 r1.2.2.1 r1.2.2.2).bind fun r2 =>
 bif (decide (0 ≤ r2.1)) then
  bif (decide (r2.1 < (v1.size : Int))) then
   (numsO T0 5 ([(bt v1 r2.1)] : List Int)).bind fun r3 =>
   (zq169.g N 3 r2.2.1 r2.2.2.1 r2.2.2.2).bind fun r4 =>
   bif (r4.1 == 0) then
    bif (decide (0 ≤ r1.1)) then
     bif (decide (r1.1 ≤ (v0.size : Int))) then
      bif (decide (0 ≤ r1.1)) then
       bif (Nat.ble ((v0.extract (0 : Int).toNat (r1.1 : Int).toNat).size + (strOfNums r3).size) 9223372036854775807) then
        bif (decide (0 ≤ (v0.size : Int))) then
         bif (decide ((v0.size : Int) ≤ (v0.size : Int))) then
          bif (decide (0 ≤ r1.1)) then
           bif (decide (r1.1 ≤ (v0.size : Int))) then
            bif (Nat.ble (((v0.extract (0 : Int).toNat (r1.1 : Int).toNat) ++ (strOfNums r3)).size + (v0.extract (r1.1 : Int).toNat ((v0.size : Int) : Int).toNat).size) 9223372036854775807) then
             c3 (((v0.extract (0 : Int).toNat (r1.1 : Int).toNat) ++ (strOfNums r3)) ++ (v0.extract (r1.1 : Int).toNat ((v0.size : Int) : Int).toNat)) v1 v2 r4.2.1 r4.2.2.1 r4.2.2.2
            else
            none
           else
           none
          else
          none
         else
         none
        else
        none
       else
       none
      else
      none
     else
     none
    else
    none
   else
   bif (r4.1 == 1) then
    bif (decide (0 ≤ r1.1)) then
     bif (decide (r1.1 ≤ (v0.size : Int))) then
      bif (decide (0 ≤ r1.1)) then
       bif (Nat.ble ((v0.extract (0 : Int).toNat (r1.1 : Int).toNat).size + (strOfNums r3).size) 9223372036854775807) then
        bif (decide (0 ≤ (v0.size : Int))) then
         bif (decide ((v0.size : Int) ≤ (v0.size : Int))) then
          bif (decide (0 ≤ (w64 (r1.1 + 1)))) then
           bif (decide ((w64 (r1.1 + 1)) ≤ (v0.size : Int))) then
            bif (Nat.ble (((v0.extract (0 : Int).toNat (r1.1 : Int).toNat) ++ (strOfNums r3)).size + (v0.extract ((w64 (r1.1 + 1)) : Int).toNat ((v0.size : Int) : Int).toNat).size) 9223372036854775807) then
             c3 (((v0.extract (0 : Int).toNat (r1.1 : Int).toNat) ++ (strOfNums r3)) ++ (v0.extract ((w64 (r1.1 + 1)) : Int).toNat ((v0.size : Int) : Int).toNat)) v1 v2 r4.2.1 r4.2.2.1 r4.2.2.2
            else
            none
           else
           none
          else
          none
         else
         none
        else
        none
       else
       none
      else
      none
     else
     none
    else
    none
   else
   bif (decide (0 ≤ r1.1)) then
    bif (decide (r1.1 ≤ (v0.size : Int))) then
     bif (decide (0 ≤ r1.1)) then
      bif (decide (0 ≤ (v0.size : Int))) then
       bif (decide ((v0.size : Int) ≤ (v0.size : Int))) then
        bif (decide (0 ≤ (w64 (r1.1 + 1)))) then
         bif (decide ((w64 (r1.1 + 1)) ≤ (v0.size : Int))) then
          bif (Nat.ble ((v0.extract (0 : Int).toNat (r1.1 : Int).toNat).size + (v0.extract ((w64 (r1.1 + 1)) : Int).toNat ((v0.size : Int) : Int).toNat).size) 9223372036854775807) then
           c3 ((v0.extract (0 : Int).toNat (r1.1 : Int).toNat) ++ (v0.extract ((w64 (r1.1 + 1)) : Int).toNat ((v0.size : Int) : Int).toNat)) v1 v2 r4.2.1 r4.2.2.1 r4.2.2.2
          else
          none
         else
         none
        else
        none
       else
       none
      else
      none
     else
     none
    else
    none
   else
   none
  else
  none
 else
 none
theorem o2.run (Kn26 : QQ) (H211 : Code) (v0 v1 : BA) (v2 : Int) (v3 : List Int) (v4 v5 : Int) : runC C (O N) N (.seq (c 210) H211) 105 (s2 v0 v1 v2 v3 v4 v5) ((fun up => (onN (fun s => C.tidy 26 s ((onN Kn26 up) .normal)) (onN Kn26 up))) (blockK 0 (onN (tk C (O N) N c 6 7 K0) K0))) = o2 N v0 v1 v2 v3 v4 v5 ((fun w0 w1 w2 w3 w4 w5 => runC C (O N) N H211 211 (s3 w0 w1 w2 w3 w4 w5) ((fun up => (onN (fun s => C.tidy 26 s ((onN Kn26 up) .normal)) (onN Kn26 up))) (blockK 0 (onN (tk C (O N) N c 6 7 K0) K0))))) := by kernel_rfl
def d2 (v0 v1 : BA) (v2 : Int) (v3 : List Int) (v4 v5 : Int) (c1 : t1) : Option R := o2 N v0 v1 v2 v3 v4 v5 (d3 N · · · · · · c1)
theorem c105_2 : (c 105) = (.seq (c 210) (c 211)) := by kernel_rfl
theorem d2.run (Kn26 : QQ) (v0 v1 : BA) (v2 : Int) (v3 : List Int) (v4 v5 : Int) : runC C (O N) N (c 105) 105 (s2 v0 v1 v2 v3 v4 v5) (K105 N Kn26) = d2 N v0 v1 v2 v3 v4 v5 (Kn26 <| s1 · · · · · ·) := by
  rw [c105_2]; unfold d2; exact (o2.run N Kn26 (c 211) v0 v1 v2 v3 v4 v5).trans (congr rfl (fx6 (d3.run N Kn26)))
def K52 (Kn26 : QQ) : Ex → QQ := ((fun up => (onN (fun s => C.tidy 26 s ((onN Kn26 up) .normal)) (onN Kn26 up))) (blockK 0 (onN (tk C (O N) N c 6 7 K0) K0)))
def o1 (N : Nat) (v0 v1 : BA) (v2 : Int) (v3 : List Int) (v4 v5 : Int) (c2 : t2) : Option R :=
 bif (decide (v2 > 0)) then
  bif (decide ((v0.size : Int) > 0)) then
   c2 v0 v1 v2 v3 v4 v5
  else
  some (v0, v3, v4, v5)
 else
 some (v0, v3, v4, v5)
theorem o1.run (Kn26 : QQ) (H105 : Code) (v0 v1 : BA) (v2 : Int) (v3 : List Int) (v4 v5 : Int) : runC C (O N) N (.seq (c 104) H105) 52 (s1 v0 v1 v2 v3 v4 v5) ((fun up => (onN (fun s => C.tidy 26 s ((onN Kn26 up) .normal)) (onN Kn26 up))) (blockK 0 (onN (tk C (O N) N c 6 7 K0) K0))) = o1 N v0 v1 v2 v3 v4 v5 ((fun w0 w1 w2 w3 w4 w5 => runC C (O N) N H105 105 (s2 w0 w1 w2 w3 w4 w5) ((fun up => (onN (fun s => C.tidy 26 s ((onN Kn26 up) .normal)) (onN Kn26 up))) (blockK 0 (onN (tk C (O N) N c 6 7 K0) K0))))) := by kernel_rfl
def d1 (v0 v1 : BA) (v2 : Int) (v3 : List Int) (v4 v5 : Int) (c1 : t1) : Option R := o1 N v0 v1 v2 v3 v4 v5 (d2 N · · · · · · c1)
theorem c52_1 : (c 52) = (.seq (c 104) (c 105)) := by kernel_rfl
theorem d1.run (Kn26 : QQ) (v0 v1 : BA) (v2 : Int) (v3 : List Int) (v4 v5 : Int) : runC C (O N) N (c 52) 52 (s1 v0 v1 v2 v3 v4 v5) (K52 N Kn26) = d1 N v0 v1 v2 v3 v4 v5 (Kn26 <| s1 · · · · · ·) := by
  rw [c52_1]; unfold d1; exact (o1.run N Kn26 (c 105) v0 v1 v2 v3 v4 v5).trans (congr rfl (fx6 (d2.run N Kn26)))
def K26 : Ex → QQ := (blockK 0 (onN (tk C (O N) N c 6 7 K0) K0))
def l1 (N : Nat) : Nat → BA → BA → Int → (List Int) → Int → Int → Option R
  | 0, _, _, _, _, _, _ => none
  | n + 1, v0, v1, v2, v3, v4, v5 => d1 N v0 v1 v2 v3 v4 v5 (l1 N n · · · · · ·)
theorem loop26 (N : Nat) : ∀ n, (∀ (v0 v1 : BA) (v2 : Int) (v3 : List Int) (v4 v5 : Int), iter (loopF C (O N) N (c 52) 26) n (s1 v0 v1 v2 v3 v4 v5) (K26 N) = l1 N n v0 v1 v2 v3 v4 v5)
  | 0 => (by intros; rfl)
  | n + 1 => (fun v0 v1 v2 v3 v4 v5 => (d1.run N (fun s => iter (loopF C (O N) N (c 52) 26) n s (K26 N)) v0 v1 v2 v3 v4 v5).trans (show _ = d1 N v0 v1 v2 v3 v4 v5 (l1 N n · · · · · ·) from (congr rfl (fx6 ((loop26 N n))))))
def o0 (a1 a2 : BA) (b0_0 : List Int) (b0_1 b0_2 : Int) (c1 : t1) : Option R :=
 (zq169.g N 2 b0_0 b0_1 b0_2).bind fun r1 =>
 c1 a1 a2 (w64 (1 + r1.1)) r1.2.1 r1.2.2.1 r1.2.2.2
theorem o0.run (H52 : Code) (a1 a2 : BA) (b0_0 : List Int) (b0_1 b0_2 : Int) : runC C (O N) N (.seq (c 2) (.seq (.seq (c 12) (.block 0 (.loop H52))) (c 7))) 1 (st0 [.one (.ptr 0 0), .one (.str a1), .one (.str a2)] [(65, [.sl false 5 b0_0, .i b0_1, .int .u64 b0_2])] : St D0) K0 = o0 N a1 a2 b0_0 b0_1 b0_2 ((fun w0 w1 w2 w3 w4 w5 => iter (loopF C (O N) N H52 26) N (s1 w0 w1 w2 w3 w4 w5) (blockK 0 (onN (tk C (O N) N c 6 7 K0) K0)))) := by kernel_rfl
def g (a1 a2 : BA) (b0_0 : List Int) (b0_1 b0_2 : Int) : Option R := o0 N a1 a2 b0_0 b0_1 b0_2 (l1 N N · · · · · ·)
theorem c1_0 : (c 1) = (.seq (c 2) (.seq (.seq (c 12) (.block 0 (.loop (c 52)))) (c 7))) := by kernel_rfl
theorem g.run (a1 a2 : BA) (b0_0 : List Int) (b0_1 b0_2 : Int) : runC C (O N) N (c 1) 1 (st0 [.one (.ptr 0 0), .one (.str a1), .one (.str a2)] [(65, [.sl false 5 b0_0, .i b0_1, .int .u64 b0_2])] : St D0) K0 = g N a1 a2 b0_0 b0_1 b0_2 := by
  rw [c1_0]; unfold g; exact (o0.run N (c 52) a1 a2 b0_0 b0_1 b0_2).trans (congr rfl (fx6 ((loop26 N N))))
def ent : Ent Tryz.prog T0 := mkEntC C tabOk0 mixed0 84 [(false, [.any]), (false, [.any]), (false, [.any])] sig (E N) Tryz.func84 (by kernel_rfl) [(false, [.any])] N (fun t => g N t.2.1 t.2.2.1 t.2.2.2.1 t.2.2.2.2.1 t.2.2.2.2.2) (fun _ => by kernel_rfl) (fun t => g.run N t.2.1 t.2.2.1 t.2.2.2.1 t.2.2.2.2.1 t.2.2.2.2.2)
end zq171
namespace zq170
variable (N : Nat)
abbrev R : Type := BA × List Int × Int × Int
abbrev QQ : Type := St D0 → Option R
abbrev sig : Sig := ⟨[(false, 1)], [(65, 3)], [.ptr 0 0, .sl false 5, .i, .int .u64], [(false, 1)], [(65, 3)], [.str, .sl false 5, .i, .int .u64]⟩
noncomputable def C : Cfg D0 := ⟨Tryz.prog, T0, 262685, 0, 24, 1, [(58, [0, 3, 4], [0])], 1717536, false, []⟩
def E : List (Ent Tryz.prog T0) := [zq164.ent N, zq165.ent N, zq168.ent N, zq171.ent N]
def O : Orc D0 R := orcOf (E N)
def K0 : Ex → QQ := exitK C Tryz.f51.results.toList [(false, [.any])] (decOut sig)
noncomputable def c (p : Nat) : Code := codeAt (Tryz.f51.body.getD .skip) (pathN p)
abbrev t1 : Type := BA → Int → (List Int) → Int → Int → Option R
def s1 (v0 : BA) (v1 : Int) (v2 : List Int) (v3 v4 : Int) : St D0 := mkSt [(0, .one (.ptr 0 0)), (3, .one (.str v0)), (4, .one (.i v1))] [(0, some (65, [.sl false 5 v2, .i v3, .int .u64 v4]))]
def K116 (Kn58 : QQ) : Ex → QQ := ((fun up => (onN (fun s => C.tidy 58 s ((onN Kn58 up) .normal)) (onN Kn58 up))) (blockK 0 (onN (tk C (O N) N c 14 15 K0) K0)))
def o1 (v0 : BA) (v1 : Int) (v2 : List Int) (v3 v4 : Int) (c1 : t1) : Option R :=
 bif (decide (v1 > 0)) then
  (zq165.g N v2 v3 v4).bind fun r1 =>
  bif (Nat.ble (r1.1.size + (⟨#[10]⟩ : BA).size) 9223372036854775807) then
   bif (Nat.ble (v0.size + (r1.1 ++ (⟨#[10]⟩ : BA)).size) 9223372036854775807) then
    c1 (v0 ++ (r1.1 ++ (⟨#[10]⟩ : BA))) (w64 (v1 - 1)) r1.2.1 r1.2.2.1 r1.2.2.2
   else
   none
  else
  none
 else
 (zq168.g N 12 v2 v3 v4).bind fun r2 =>
 bif r2.1 then
  bif (Nat.ble (v0.size + (⟨#[115, 104, 111, 119]⟩ : BA).size) 9223372036854775807) then
   (zq171.g N (v0 ++ (⟨#[115, 104, 111, 119]⟩ : BA)) (⟨#[48, 49, 50, 58, 47, 43, 32, 120, 10]⟩ : BA) r2.2.1 r2.2.2.1 r2.2.2.2).bind fun r3 =>
   some (r3.1, r3.2.1, r3.2.2.1, r3.2.2.2)
  else
  none
 else
 some (v0, r2.2.1, r2.2.2.1, r2.2.2.2)
def d1 (v0 : BA) (v1 : Int) (v2 : List Int) (v3 v4 : Int) (c1 : t1) : Option R := o1 N v0 v1 v2 v3 v4 c1
theorem d1.run (Kn58 : QQ) (v0 : BA) (v1 : Int) (v2 : List Int) (v3 v4 : Int) : runC C (O N) N (c 116) 116 (s1 v0 v1 v2 v3 v4) (K116 N Kn58) = d1 N v0 v1 v2 v3 v4 (Kn58 <| s1 · · · · ·) := by kernel_rfl
def K58 : Ex → QQ := (blockK 0 (onN (tk C (O N) N c 14 15 K0) K0))
def l1 (N : Nat) : Nat → BA → Int → (List Int) → Int → Int → Option R
  | 0, _, _, _, _, _ => none
  | n + 1, v0, v1, v2, v3, v4 => d1 N v0 v1 v2 v3 v4 (l1 N n · · · · ·)
theorem loop58 (N : Nat) : ∀ n, (∀ (v0 : BA) (v1 : Int) (v2 : List Int) (v3 v4 : Int), iter (loopF C (O N) N (c 116) 58) n (s1 v0 v1 v2 v3 v4) (K58 N) = l1 N n v0 v1 v2 v3 v4)
  | 0 => (by intros; rfl)
  | n + 1 => (fun v0 v1 v2 v3 v4 => (d1.run N (fun s => iter (loopF C (O N) N (c 116) 58) n s (K58 N)) v0 v1 v2 v3 v4).trans (show _ = d1 N v0 v1 v2 v3 v4 (l1 N n · · · · ·) from (congr rfl (fx5 ((loop58 N n))))))
def o0 (b0_0 : List Int) (b0_1 b0_2 : Int) (c1 : t1) : Option R :=
 (zq164.g N ([0, 1, 5, 10, 20, 50, 51] : List Int) b0_0 b0_1 b0_2).bind fun r1 =>
 c1 (⟨#[]⟩ : BA) r1.1 r1.2.1 r1.2.2.1 r1.2.2.2
theorem o0.run (H116 : Code) (b0_0 : List Int) (b0_1 b0_2 : Int) : runC C (O N) N (.seq (c 2) (.seq (c 6) (.seq (.seq (c 28) (.block 0 (.loop H116))) (c 15)))) 1 (st0 [.one (.ptr 0 0)] [(65, [.sl false 5 b0_0, .i b0_1, .int .u64 b0_2])] : St D0) K0 = o0 N b0_0 b0_1 b0_2 ((fun w0 w1 w2 w3 w4 => iter (loopF C (O N) N H116 58) N (s1 w0 w1 w2 w3 w4) (blockK 0 (onN (tk C (O N) N c 14 15 K0) K0)))) := by kernel_rfl
def g (b0_0 : List Int) (b0_1 b0_2 : Int) : Option R := o0 N b0_0 b0_1 b0_2 (l1 N N · · · · ·)
theorem c1_0 : (c 1) = (.seq (c 2) (.seq (c 6) (.seq (.seq (c 28) (.block 0 (.loop (c 116)))) (c 15)))) := by kernel_rfl
theorem g.run (b0_0 : List Int) (b0_1 b0_2 : Int) : runC C (O N) N (c 1) 1 (st0 [.one (.ptr 0 0)] [(65, [.sl false 5 b0_0, .i b0_1, .int .u64 b0_2])] : St D0) K0 = g N b0_0 b0_1 b0_2 := by
  rw [c1_0]; unfold g; exact (o0.run N (c 116) b0_0 b0_1 b0_2).trans (congr rfl (fx5 ((loop58 N N))))
def ent : Ent Tryz.prog T0 := mkEntC C tabOk0 mixed0 51 [(false, [.any])] sig (E N) Tryz.func51 (by kernel_rfl) [(false, [.any])] N (fun t => g N t.2.1 t.2.2.1 t.2.2.2) (fun _ => by kernel_rfl) (fun t => g.run N t.2.1 t.2.2.1 t.2.2.2)
end zq170
namespace zq111
variable (N : Nat)
abbrev R : Type := BA
abbrev sig : Sig := ⟨[(false, 1)], [], [.sl false 5], [(false, 1)], [], [.str]⟩
noncomputable def C : Cfg D0 := ⟨Tryz.prog, T0, 13, 0, 9, 0, [], 128, false, []⟩
def E : List (Ent Tryz.prog T0) := [zq170.ent N]
def O : Orc D0 R := orcOf (E N)
def K0 : Ex → St D0 → Option R := exitK C Tryz.f26.results.toList [(false, [.any])] (decOut sig)
noncomputable def c (p : Nat) : Code := codeAt (Tryz.f26.body.getD .skip) (pathN p)
def o0 (a0 : List Int) : Option R :=
 (zq170.g N a0 0 0).bind fun r1 =>
 some (r1.1)
def g (a0 : List Int) : Option R := o0 N a0
theorem g.run (a0 : List Int) : runC C (O N) N (c 1) 1 (st0 [.one (.sl false 5 a0)] [] : St D0) K0 = g N a0 := by kernel_rfl
def ent : Ent Tryz.prog T0 := mkEntC C tabOk0 mixed0 26 [(false, [.ro 5])] sig (E N) Tryz.func26 (by kernel_rfl) [(false, [.any])] N (fun t => g N t) (fun _ => by kernel_rfl) (fun t => g.run N t)
end zq111
namespace zq89
variable (N : Nat)
abbrev R : Type := Bool × List BA
abbrev QQ : Type := St D0 → Option R
abbrev sig : Sig := ⟨[(false, 1), (false, 1)], [(9, 1)], [.sl false 9, .bs 0, .row 9], [(false, 1)], [(9, 1)], [.bool, .row 9]⟩
noncomputable def C : Cfg D0 := ⟨Tryz.prog, T0, 33571891, 0, 26, 1, [(58, [0, 1, 5], [0])], 6723904, false, []⟩
def E (N : Nat) : List (Ent Tryz.prog T0) := []
def O : Orc D0 R := orcOf (E N)
def K0 : Ex → QQ := exitK C Tryz.f29.results.toList [(false, [.any])] (decOut sig)
noncomputable def c (p : Nat) : Code := codeAt (Tryz.f29.body.getD .skip) (pathN p)
abbrev t1 : Type := (List BA) → Nat → Int → (List BA) → Option R
def s1 (v0 : List BA) (v1 : Nat) (v2 : Int) (v3 : List BA) : St D0 := mkSt [(0, .one (.sl false 9 v0)), (1, .one (.bs 0 v1)), (5, .one (.i v2))] [(0, some (9, [.row 9 v3]))]
def K116 (Kn58 : QQ) : Ex → QQ := ((fun up => (onN (fun s => C.tidy 58 s ((onN Kn58 up) .normal)) (onN Kn58 up))) (blockK 0 (onN (tk C (O N) N c 14 15 K0) K0)))
def o1 (N : Nat) (v0 : List BA) (v1 : Nat) (v2 : Int) (v3 : List BA) (c1 : t1) : Option R :=
 bif (decide (v2 < (v0.length : Int))) then
  bif (decide (0 ≤ v2)) then
   bif (decide (v2 < (v0.length : Int))) then
    (v0[(v2 : Int).toNat]?).bind fun x1 =>
    bif (decide (0 ≤ v2)) then
     bif (decide (v2 < ((v1 : Nat) : Int))) then
      (v3[(v2 : Int).toNat]?).bind fun x2 =>
      bif (!(x1.toList == x2.toList)) then
       some (false, v3)
      else
      c1 v0 v1 (w64 (v2 + 1)) v3
     else
     none
    else
    none
   else
   none
  else
  none
 else
 some (true, v3)
def d1 (v0 : List BA) (v1 : Nat) (v2 : Int) (v3 : List BA) (c1 : t1) : Option R := o1 N v0 v1 v2 v3 c1
theorem d1.run (Kn58 : QQ) (v0 : List BA) (v1 : Nat) (v2 : Int) (v3 : List BA) : runC C (O N) N (c 116) 116 (s1 v0 v1 v2 v3) (K116 N Kn58) = d1 N v0 v1 v2 v3 (Kn58 <| s1 · · · ·) := by kernel_rfl
def K58 : Ex → QQ := (blockK 0 (onN (tk C (O N) N c 14 15 K0) K0))
def l1 (N : Nat) : Nat → (List BA) → Nat → Int → (List BA) → Option R
  | 0, _, _, _, _ => none
  | n + 1, v0, v1, v2, v3 => d1 N v0 v1 v2 v3 (l1 N n · · · ·)
theorem loop58 (N : Nat) : ∀ n, (∀ (v0 : List BA) (v1 : Nat) (v2 : Int) (v3 : List BA), iter (loopF C (O N) N (c 116) 58) n (s1 v0 v1 v2 v3) (K58 N) = l1 N n v0 v1 v2 v3)
  | 0 => (by intros; rfl)
  | n + 1 => (fun v0 v1 v2 v3 => (d1.run N (fun s => iter (loopF C (O N) N (c 116) 58) n s (K58 N)) v0 v1 v2 v3).trans (show _ = d1 N v0 v1 v2 v3 (l1 N n · · · ·) from (congr rfl (fx4 ((loop58 N n))))))
def o0 (N : Nat) (a0 : List BA) (a1 : Nat) (b0_0 : List BA) (c1 : t1) : Option R :=
 bif ((a0.length : Int) != ((a1 : Nat) : Int)) then
  some (false, b0_0)
 else
 c1 a0 a1 0 b0_0
theorem o0.run (H116 : Code) (a0 : List BA) (a1 : Nat) (b0_0 : List BA) : runC C (O N) N (.seq (c 2) (.seq (c 6) (.seq (.seq (c 28) (.block 0 (.loop H116))) (c 15)))) 1 (st0 [.one (.sl false 9 a0), .one (.bs 0 a1)] [(9, [.row 9 b0_0])] : St D0) K0 = o0 N a0 a1 b0_0 ((fun w0 w1 w2 w3 => iter (loopF C (O N) N H116 58) N (s1 w0 w1 w2 w3) (blockK 0 (onN (tk C (O N) N c 14 15 K0) K0)))) := by kernel_rfl
def g (a0 : List BA) (a1 : Nat) (b0_0 : List BA) : Option R := o0 N a0 a1 b0_0 (l1 N N · · · ·)
theorem c1_0 : (c 1) = (.seq (c 2) (.seq (c 6) (.seq (.seq (c 28) (.block 0 (.loop (c 116)))) (c 15)))) := by kernel_rfl
theorem g.run (a0 : List BA) (a1 : Nat) (b0_0 : List BA) : runC C (O N) N (c 1) 1 (st0 [.one (.sl false 9 a0), .one (.bs 0 a1)] [(9, [.row 9 b0_0])] : St D0) K0 = g N a0 a1 b0_0 := by
  rw [c1_0]; unfold g; exact (o0.run N (c 116) a0 a1 b0_0).trans (congr rfl (fx4 ((loop58 N N))))
def ent : Ent Tryz.prog T0 := mkEntC C tabOk0 mixed0 29 [(false, [.ro 9]), (false, [.any])] sig (E N) Tryz.func29 (by kernel_rfl) [(false, [.any])] N (fun t => g N t.1 t.2.1 t.2.2) (fun _ => by kernel_rfl) (fun t => g.run N t.1 t.2.1 t.2.2)
end zq89
namespace zq88
variable (N : Nat)
abbrev R : Type := Bool
abbrev QQ : Type := St D0 → Option R
abbrev sig : Sig := ⟨[(false, 1), (false, 1)], [], [.sl false 9, .sl false 9], [(false, 1)], [], [.bool]⟩
noncomputable def C : Cfg D0 := ⟨Tryz.prog, T0, 33571891, 0, 26, 0, [(58, [0, 1, 5], [])], 6723904, false, []⟩
def E (N : Nat) : List (Ent Tryz.prog T0) := []
def O : Orc D0 R := orcOf (E N)
def K0 : Ex → QQ := exitK C Tryz.f29.results.toList [(false, [.any])] (decOut sig)
noncomputable def c (p : Nat) : Code := codeAt (Tryz.f29.body.getD .skip) (pathN p)
abbrev t1 : Type := (List BA) → (List BA) → Int → Option R
def s1 (v0 v1 : List BA) (v2 : Int) : St D0 := mkSt [(0, .one (.sl false 9 v0)), (1, .one (.sl false 9 v1)), (5, .one (.i v2))] []
def K116 (Kn58 : QQ) : Ex → QQ := ((fun up => (onN (fun s => C.tidy 58 s ((onN Kn58 up) .normal)) (onN Kn58 up))) (blockK 0 (onN (tk C (O N) N c 14 15 K0) K0)))
def o1 (N : Nat) (v0 v1 : List BA) (v2 : Int) (c1 : t1) : Option R :=
 bif (decide (v2 < (v0.length : Int))) then
  bif (decide (0 ≤ v2)) then
   bif (decide (v2 < (v0.length : Int))) then
    (v0[(v2 : Int).toNat]?).bind fun x1 =>
    bif (decide (0 ≤ v2)) then
     bif (decide (v2 < (v1.length : Int))) then
      (v1[(v2 : Int).toNat]?).bind fun x2 =>
      bif (!(x1.toList == x2.toList)) then
       some (false)
      else
      c1 v0 v1 (w64 (v2 + 1))
     else
     none
    else
    none
   else
   none
  else
  none
 else
 some (true)
def d1 (v0 v1 : List BA) (v2 : Int) (c1 : t1) : Option R := o1 N v0 v1 v2 c1
theorem d1.run (Kn58 : QQ) (v0 v1 : List BA) (v2 : Int) : runC C (O N) N (c 116) 116 (s1 v0 v1 v2) (K116 N Kn58) = d1 N v0 v1 v2 (Kn58 <| s1 · · ·) := by kernel_rfl
def K58 : Ex → QQ := (blockK 0 (onN (tk C (O N) N c 14 15 K0) K0))
def l1 (N : Nat) : Nat → (List BA) → (List BA) → Int → Option R
  | 0, _, _, _ => none
  | n + 1, v0, v1, v2 => d1 N v0 v1 v2 (l1 N n · · ·)
theorem loop58 (N : Nat) : ∀ n, (∀ (v0 v1 : List BA) (v2 : Int), iter (loopF C (O N) N (c 116) 58) n (s1 v0 v1 v2) (K58 N) = l1 N n v0 v1 v2)
  | 0 => (by intros; rfl)
  | n + 1 => (fun v0 v1 v2 => (d1.run N (fun s => iter (loopF C (O N) N (c 116) 58) n s (K58 N)) v0 v1 v2).trans (show _ = d1 N v0 v1 v2 (l1 N n · · ·) from (congr rfl (fx3 ((loop58 N n))))))
def o0 (N : Nat) (a0 a1 : List BA) (c1 : t1) : Option R :=
 bif ((a0.length : Int) != (a1.length : Int)) then
  some (false)
 else
 c1 a0 a1 0
theorem o0.run (H116 : Code) (a0 a1 : List BA) : runC C (O N) N (.seq (c 2) (.seq (c 6) (.seq (.seq (c 28) (.block 0 (.loop H116))) (c 15)))) 1 (st0 [.one (.sl false 9 a0), .one (.sl false 9 a1)] [] : St D0) K0 = o0 N a0 a1 ((fun w0 w1 w2 => iter (loopF C (O N) N H116 58) N (s1 w0 w1 w2) (blockK 0 (onN (tk C (O N) N c 14 15 K0) K0)))) := by kernel_rfl
def g (a0 a1 : List BA) : Option R := o0 N a0 a1 (l1 N N · · ·)
theorem c1_0 : (c 1) = (.seq (c 2) (.seq (c 6) (.seq (.seq (c 28) (.block 0 (.loop (c 116)))) (c 15)))) := by kernel_rfl
theorem g.run (a0 a1 : List BA) : runC C (O N) N (c 1) 1 (st0 [.one (.sl false 9 a0), .one (.sl false 9 a1)] [] : St D0) K0 = g N a0 a1 := by
  rw [c1_0]; unfold g; exact (o0.run N (c 116) a0 a1).trans (congr rfl (fx3 ((loop58 N N))))
def ent : Ent Tryz.prog T0 := mkEntC C tabOk0 mixed0 29 [(false, [.ro 9]), (false, [.ro 9])] sig (E N) Tryz.func29 (by kernel_rfl) [(false, [.any])] N (fun t => g N t.1 t.2) (fun _ => by kernel_rfl) (fun t => g.run N t.1 t.2)
end zq88
namespace zq97
variable (N : Nat)
abbrev R : Type := BA
abbrev QQ : Type := St D0 → Option R
abbrev sig : Sig := ⟨[(false, 1)], [], [.i], [(false, 1)], [], [.str]⟩
noncomputable def C : Cfg D0 := ⟨Tryz.prog, T0, 173, 0, 20, 0, [(60, [0, 3], [])], 344400, false, []⟩
def E (N : Nat) : List (Ent Tryz.prog T0) := []
def O : Orc D0 R := orcOf (E N)
def K0 : Ex → QQ := exitK C Tryz.f56.results.toList [(false, [.any])] (decOut sig)
noncomputable def c (p : Nat) : Code := codeAt (Tryz.f56.body.getD .skip) (pathN p)
abbrev t1 : Type := Int → BA → Option R
def s1 (v0 : Int) (v1 : BA) : St D0 := mkSt [(0, .one (.i v0)), (3, .one (.str v1))] []
def K120 (Kn60 : QQ) : Ex → QQ := ((fun up => (onN (fun s => C.tidy 60 s ((onN Kn60 up) .normal)) (onN Kn60 up))) (blockK 0 (onN (tk C (O N) N c 30 31 K0) K0)))
def o1 (N : Nat) (v0 : Int) (v1 : BA) (c1 : t1) : Option R :=
 bif (decide (v0 > 0)) then
  (numsO T0 5 ([((IntKind.wrap .u8) (w64 (48 + (Int.tmod v0 10))))] : List Int)).bind fun r1 =>
  bif (Nat.ble ((strOfNums r1).size + v1.size) 9223372036854775807) then
   c1 (w64 (Int.tdiv v0 10)) ((strOfNums r1) ++ v1)
  else
  none
 else
 bif (Nat.ble ((⟨#[109]⟩ : BA).size + v1.size) 9223372036854775807) then
  some (((⟨#[109]⟩ : BA) ++ v1))
 else
 none
def d1 (v0 : Int) (v1 : BA) (c1 : t1) : Option R := o1 N v0 v1 c1
theorem d1.run (Kn60 : QQ) (v0 : Int) (v1 : BA) : runC C (O N) N (c 120) 120 (s1 v0 v1) (K120 N Kn60) = d1 N v0 v1 ((fun w0 w1 => Kn60 (s1 w0 w1))) := by kernel_rfl
def K60 : Ex → QQ := (blockK 0 (onN (tk C (O N) N c 30 31 K0) K0))
def l1 (N : Nat) : Nat → Int → BA → Option R
  | 0, _, _ => none
  | n + 1, v0, v1 => d1 N v0 v1 ((fun w0 w1 => l1 N n w0 w1))
theorem loop60 (N : Nat) : ∀ n, (∀ (v0 : Int) (v1 : BA), iter (loopF C (O N) N (c 120) 60) n (s1 v0 v1) (K60 N) = l1 N n v0 v1)
  | 0 => (by intros; rfl)
  | n + 1 => (fun v0 v1 => (d1.run N (fun s => iter (loopF C (O N) N (c 120) 60) n s (K60 N)) v0 v1).trans (show _ = d1 N v0 v1 ((fun w0 w1 => l1 N n w0 w1)) from (congr rfl (fx2 ((loop60 N n))))))
def o0 (N : Nat) (a0 : Int) (c1 : t1) : Option R :=
 bif (decide (a0 ≤ 0)) then
  some ((⟨#[109, 48]⟩ : BA))
 else
 c1 a0 (⟨#[]⟩ : BA)
theorem o0.run (H120 : Code) (a0 : Int) : runC C (O N) N (.seq (c 2) (.seq (c 6) (.seq (c 14) (.seq (.block 0 (.loop H120)) (c 31))))) 1 (st0 [.one (.i a0)] [] : St D0) K0 = o0 N a0 ((fun w0 w1 => iter (loopF C (O N) N H120 60) N (s1 w0 w1) (blockK 0 (onN (tk C (O N) N c 30 31 K0) K0)))) := by kernel_rfl
def g (a0 : Int) : Option R := o0 N a0 ((fun w0 w1 => l1 N N w0 w1))
theorem c1_0 : (c 1) = (.seq (c 2) (.seq (c 6) (.seq (c 14) (.seq (.block 0 (.loop (c 120))) (c 31))))) := by kernel_rfl
theorem g.run (a0 : Int) : runC C (O N) N (c 1) 1 (st0 [.one (.i a0)] [] : St D0) K0 = g N a0 := by
  rw [c1_0]; unfold g; exact (o0.run N (c 120) a0).trans (congr rfl (fx2 ((loop60 N N))))
def ent : Ent Tryz.prog T0 := mkEntC C tabOk0 mixed0 56 [(false, [.any])] sig (E N) Tryz.func56 (by kernel_rfl) [(false, [.any])] N (fun t => g N t) (fun _ => by kernel_rfl) (fun t => g.run N t)
end zq97
namespace zq96
variable (N : Nat)
abbrev R : Type := Int × List BA
abbrev QQ : Type := St D0 → Option R
abbrev sig : Sig := ⟨[(false, 1), (false, 1)], [(9, 1)], [.bs 0, .i, .row 9], [(false, 1)], [(9, 1)], [.i, .row 9]⟩
noncomputable def C : Cfg D0 := ⟨Tryz.prog, T0, 563, 0, 20, 1, [(26, [0, 1, 5], [0])], 160960, false, []⟩
def E : List (Ent Tryz.prog T0) := [zq97.ent N]
def O : Orc D0 R := orcOf (E N)
def K0 : Ex → QQ := exitK C Tryz.f30.results.toList [(false, [.any])] (decOut sig)
noncomputable def c (p : Nat) : Code := codeAt (Tryz.f30.body.getD .skip) (pathN p)
abbrev t1 : Type := Nat → Int → Int → (List BA) → Option R
def s1 (v0 : Nat) (v1 v2 : Int) (v3 : List BA) : St D0 := mkSt [(0, .one (.bs 0 v0)), (1, .one (.i v1)), (5, .one (.i v2))] [(0, some (9, [.row 9 v3]))]
def K52 (Kn26 : QQ) : Ex → QQ := ((fun up => (onN (fun s => C.tidy 26 s ((onN Kn26 up) .normal)) (onN Kn26 up))) (blockK 0 (onN (tk C (O N) N c 6 7 K0) K0)))
def o1 (v0 : Nat) (v1 v2 : Int) (v3 : List BA) (c1 : t1) : Option R :=
 bif (decide (v2 < ((v0 : Nat) : Int))) then
  (zq97.g N v1).bind fun r1 =>
  bif (decide (0 ≤ v2)) then
   bif (decide (v2 < ((v0 : Nat) : Int))) then
    (v3[(v2 : Int).toNat]?).bind fun x2 =>
    c1 v0 (w64 (v1 + 1)) (w64 (v2 + 1)) (v3.set (v2 : Int).toNat r1)
   else
   none
  else
  none
 else
 some (v1, v3)
def d1 (v0 : Nat) (v1 v2 : Int) (v3 : List BA) (c1 : t1) : Option R := o1 N v0 v1 v2 v3 c1
theorem d1.run (Kn26 : QQ) (v0 : Nat) (v1 v2 : Int) (v3 : List BA) : runC C (O N) N (c 52) 52 (s1 v0 v1 v2 v3) (K52 N Kn26) = d1 N v0 v1 v2 v3 (Kn26 <| s1 · · · ·) := by kernel_rfl
def K26 : Ex → QQ := (blockK 0 (onN (tk C (O N) N c 6 7 K0) K0))
def l1 (N : Nat) : Nat → Nat → Int → Int → (List BA) → Option R
  | 0, _, _, _, _ => none
  | n + 1, v0, v1, v2, v3 => d1 N v0 v1 v2 v3 (l1 N n · · · ·)
theorem loop26 (N : Nat) : ∀ n, (∀ (v0 : Nat) (v1 v2 : Int) (v3 : List BA), iter (loopF C (O N) N (c 52) 26) n (s1 v0 v1 v2 v3) (K26 N) = l1 N n v0 v1 v2 v3)
  | 0 => (by intros; rfl)
  | n + 1 => (fun v0 v1 v2 v3 => (d1.run N (fun s => iter (loopF C (O N) N (c 52) 26) n s (K26 N)) v0 v1 v2 v3).trans (show _ = d1 N v0 v1 v2 v3 (l1 N n · · · ·) from (congr rfl (fx4 ((loop26 N n))))))
def o0 (N : Nat) (a0 : Nat) (a1 : Int) (b0_0 : List BA) (c1 : t1) : Option R :=
 c1 a0 a1 0 b0_0
theorem o0.run (H52 : Code) (a0 : Nat) (a1 : Int) (b0_0 : List BA) : runC C (O N) N (.seq (c 2) (.seq (.seq (c 12) (.block 0 (.loop H52))) (c 7))) 1 (st0 [.one (.bs 0 a0), .one (.i a1)] [(9, [.row 9 b0_0])] : St D0) K0 = o0 N a0 a1 b0_0 ((fun w0 w1 w2 w3 => iter (loopF C (O N) N H52 26) N (s1 w0 w1 w2 w3) (blockK 0 (onN (tk C (O N) N c 6 7 K0) K0)))) := by kernel_rfl
def g (a0 : Nat) (a1 : Int) (b0_0 : List BA) : Option R := o0 N a0 a1 b0_0 (l1 N N · · · ·)
theorem c1_0 : (c 1) = (.seq (c 2) (.seq (.seq (c 12) (.block 0 (.loop (c 52)))) (c 7))) := by kernel_rfl
theorem g.run (a0 : Nat) (a1 : Int) (b0_0 : List BA) : runC C (O N) N (c 1) 1 (st0 [.one (.bs 0 a0), .one (.i a1)] [(9, [.row 9 b0_0])] : St D0) K0 = g N a0 a1 b0_0 := by
  rw [c1_0]; unfold g; exact (o0.run N (c 52) a0 a1 b0_0).trans (congr rfl (fx4 ((loop26 N N))))
def ent : Ent Tryz.prog T0 := mkEntC C tabOk0 mixed0 30 [(false, [.any]), (false, [.any])] sig (E N) Tryz.func30 (by kernel_rfl) [(false, [.any])] N (fun t => g N t.1 t.2.1 t.2.2) (fun _ => by kernel_rfl) (fun t => g.run N t.1 t.2.1 t.2.2)
end zq96
namespace zq92
variable (N : Nat)
abbrev R : Type := Int
abbrev QQ : Type := St D0 → Option R
abbrev sig : Sig := ⟨[(false, 1), (false, 1)], [], [.sl false 9, .i], [(false, 1)], [], [.i]⟩
noncomputable def C : Cfg D0 := ⟨Tryz.prog, T0, 262707, 0, 22, 0, [(26, [0, 1, 5], [])], 603328, false, []⟩
def E : List (Ent Tryz.prog T0) := [zq97.ent N]
def O : Orc D0 R := orcOf (E N)
def K0 : Ex → QQ := exitK C Tryz.f31.results.toList [(false, [.any])] (decOut sig)
noncomputable def c (p : Nat) : Code := codeAt (Tryz.f31.body.getD .skip) (pathN p)
abbrev t1 : Type := (List BA) → Int → Int → Option R
def s1 (v0 : List BA) (v1 v2 : Int) : St D0 := mkSt [(0, .one (.sl false 9 v0)), (1, .one (.i v1)), (5, .one (.i v2))] []
def K52 (Kn26 : QQ) : Ex → QQ := ((fun up => (onN (fun s => C.tidy 26 s ((onN Kn26 up) .normal)) (onN Kn26 up))) (blockK 0 (onN (tk C (O N) N c 6 7 K0) K0)))
def o1 (v0 : List BA) (v1 v2 : Int) (c1 : t1) : Option R :=
 bif (decide (v2 < (v0.length : Int))) then
  bif (decide (0 ≤ v2)) then
   bif (decide (v2 < (v0.length : Int))) then
    (v0[(v2 : Int).toNat]?).bind fun x1 =>
    (zq97.g N v1).bind fun r2 =>
    bif (!(x1.toList == r2.toList)) then
     some ((-1))
    else
    c1 v0 (w64 (v1 + 1)) (w64 (v2 + 1))
   else
   none
  else
  none
 else
 some (v1)
def d1 (v0 : List BA) (v1 v2 : Int) (c1 : t1) : Option R := o1 N v0 v1 v2 c1
theorem d1.run (Kn26 : QQ) (v0 : List BA) (v1 v2 : Int) : runC C (O N) N (c 52) 52 (s1 v0 v1 v2) (K52 N Kn26) = d1 N v0 v1 v2 (Kn26 <| s1 · · ·) := by kernel_rfl
def K26 : Ex → QQ := (blockK 0 (onN (tk C (O N) N c 6 7 K0) K0))
def l1 (N : Nat) : Nat → (List BA) → Int → Int → Option R
  | 0, _, _, _ => none
  | n + 1, v0, v1, v2 => d1 N v0 v1 v2 (l1 N n · · ·)
theorem loop26 (N : Nat) : ∀ n, (∀ (v0 : List BA) (v1 v2 : Int), iter (loopF C (O N) N (c 52) 26) n (s1 v0 v1 v2) (K26 N) = l1 N n v0 v1 v2)
  | 0 => (by intros; rfl)
  | n + 1 => (fun v0 v1 v2 => (d1.run N (fun s => iter (loopF C (O N) N (c 52) 26) n s (K26 N)) v0 v1 v2).trans (show _ = d1 N v0 v1 v2 (l1 N n · · ·) from (congr rfl (fx3 ((loop26 N n))))))
def o0 (N : Nat) (a0 : List BA) (a1 : Int) (c1 : t1) : Option R :=
 c1 a0 a1 0
theorem o0.run (H52 : Code) (a0 : List BA) (a1 : Int) : runC C (O N) N (.seq (c 2) (.seq (.seq (c 12) (.block 0 (.loop H52))) (c 7))) 1 (st0 [.one (.sl false 9 a0), .one (.i a1)] [] : St D0) K0 = o0 N a0 a1 ((fun w0 w1 w2 => iter (loopF C (O N) N H52 26) N (s1 w0 w1 w2) (blockK 0 (onN (tk C (O N) N c 6 7 K0) K0)))) := by kernel_rfl
def g (a0 : List BA) (a1 : Int) : Option R := o0 N a0 a1 (l1 N N · · ·)
theorem c1_0 : (c 1) = (.seq (c 2) (.seq (.seq (c 12) (.block 0 (.loop (c 52)))) (c 7))) := by kernel_rfl
theorem g.run (a0 : List BA) (a1 : Int) : runC C (O N) N (c 1) 1 (st0 [.one (.sl false 9 a0), .one (.i a1)] [] : St D0) K0 = g N a0 a1 := by
  rw [c1_0]; unfold g; exact (o0.run N (c 52) a0 a1).trans (congr rfl (fx3 ((loop26 N N))))
def ent : Ent Tryz.prog T0 := mkEntC C tabOk0 mixed0 31 [(false, [.ro 9]), (false, [.any])] sig (E N) Tryz.func31 (by kernel_rfl) [(false, [.any])] N (fun t => g N t.1 t.2) (fun _ => by kernel_rfl) (fun t => g.run N t.1 t.2)
end zq92
namespace zq95
variable (N : Nat)
abbrev R : Type := Int
abbrev QQ : Type := St D0 → Option R
abbrev sig : Sig := ⟨[(false, 1), (false, 1)], [], [.sl false 9, .i], [(false, 1)], [], [.i]⟩
noncomputable def C : Cfg D0 := ⟨Tryz.prog, T0, 563, 0, 20, 0, [(26, [0, 1, 5], [])], 160960, false, []⟩
def E : List (Ent Tryz.prog T0) := [zq97.ent N]
def O : Orc D0 R := orcOf (E N)
def K0 : Ex → QQ := exitK C Tryz.f30.results.toList [(false, [.any])] (decOut sig)
noncomputable def c (p : Nat) : Code := codeAt (Tryz.f30.body.getD .skip) (pathN p)
abbrev t1 : Type := (List BA) → Int → Int → Option R
def s1 (v0 : List BA) (v1 v2 : Int) : St D0 := mkSt [(0, .one (.sl false 9 v0)), (1, .one (.i v1)), (5, .one (.i v2))] []
def K52 (Kn26 : QQ) : Ex → QQ := ((fun up => (onN (fun s => C.tidy 26 s ((onN Kn26 up) .normal)) (onN Kn26 up))) (blockK 0 (onN (tk C (O N) N c 6 7 K0) K0)))
def o1 (v0 : List BA) (v1 v2 : Int) : Option R :=
 bif (decide (v2 < (v0.length : Int))) then
  (zq97.g N v1).bind fun r1 =>
  bif (decide (0 ≤ v2)) then
   bif (decide (v2 < (v0.length : Int))) then
    none
   else
   none
  else
  none
 else
 some (v1)
def d1 (v0 : List BA) (v1 v2 : Int) : Option R := o1 N v0 v1 v2
theorem d1.run (Kn26 : QQ) (v0 : List BA) (v1 v2 : Int) : runC C (O N) N (c 52) 52 (s1 v0 v1 v2) (K52 N Kn26) = d1 N v0 v1 v2 := by kernel_rfl
def K26 : Ex → QQ := (blockK 0 (onN (tk C (O N) N c 6 7 K0) K0))
def l1 (N : Nat) : Nat → (List BA) → Int → Int → Option R
  | 0, _, _, _ => none
  | n + 1, v0, v1, v2 => d1 N v0 v1 v2
theorem loop26 (N : Nat) : ∀ n, (∀ (v0 : List BA) (v1 v2 : Int), iter (loopF C (O N) N (c 52) 26) n (s1 v0 v1 v2) (K26 N) = l1 N n v0 v1 v2)
  | 0 => (by intros; rfl)
  | n + 1 => (fun v0 v1 v2 => (d1.run N (fun s => iter (loopF C (O N) N (c 52) 26) n s (K26 N)) v0 v1 v2).trans (show _ = d1 N v0 v1 v2 from rfl))
def o0 (N : Nat) (a0 : List BA) (a1 : Int) (c1 : t1) : Option R :=
 c1 a0 a1 0
theorem o0.run (H52 : Code) (a0 : List BA) (a1 : Int) : runC C (O N) N (.seq (c 2) (.seq (.seq (c 12) (.block 0 (.loop H52))) (c 7))) 1 (st0 [.one (.sl false 9 a0), .one (.i a1)] [] : St D0) K0 = o0 N a0 a1 ((fun w0 w1 w2 => iter (loopF C (O N) N H52 26) N (s1 w0 w1 w2) (blockK 0 (onN (tk C (O N) N c 6 7 K0) K0)))) := by kernel_rfl
def g (a0 : List BA) (a1 : Int) : Option R := o0 N a0 a1 (l1 N N · · ·)
theorem c1_0 : (c 1) = (.seq (c 2) (.seq (.seq (c 12) (.block 0 (.loop (c 52)))) (c 7))) := by kernel_rfl
theorem g.run (a0 : List BA) (a1 : Int) : runC C (O N) N (c 1) 1 (st0 [.one (.sl false 9 a0), .one (.i a1)] [] : St D0) K0 = g N a0 a1 := by
  rw [c1_0]; unfold g; exact (o0.run N (c 52) a0 a1).trans (congr rfl (fx3 ((loop26 N N))))
def ent : Ent Tryz.prog T0 := mkEntC C tabOk0 mixed0 30 [(false, [.ro 9]), (false, [.any])] sig (E N) Tryz.func30 (by kernel_rfl) [(false, [.any])] N (fun t => g N t.1 t.2) (fun _ => by kernel_rfl) (fun t => g.run N t.1 t.2)
end zq95
namespace zq83
variable (N : Nat)
abbrev R : Type := Bool
abbrev sig : Sig := ⟨[(false, 1)], [], [.str], [(false, 1)], [], [.bool]⟩
noncomputable def C : Cfg D0 := ⟨Tryz.prog, T0, 41649299253821974525, 0, 66, 0, [(124, [0, 3, 4, 5, 32], [3]), (32764, [5, 7, 57], [])], 30896424858409797632, true, [(30, true, 3, [0, 4], []), (254, false, 5, [0, 3, 4, 7], [3]), (254, true, 5, [0, 3, 4, 7], [3])]⟩
def E : List (Ent Tryz.prog T0) := [zq122.ent N, zq30.ent N, zq88.ent N, zq92.ent N, zq95.ent N, zq89.ent N, zq96.ent N]
def O : Orc D0 R := orcOf (E N)
def K0 : Ex → St D0 → Option R := exitK C Tryz.f8.results.toList [(false, [.any])] (decOut sig)
noncomputable def c (p : Nat) : Code := codeAt (Tryz.f8.body.getD .skip) (pathN p)
abbrev t1 : Type := BA → Nat → Bool → (List BA) → Bool → (List BA) → Option R
abbrev t2 : Type := BA → (List BA) → Bool → (List BA) → Bool → Option R
abbrev t3 : Type := (List BA) → Int → Bool → Option R
def s1 (v0 : BA) (v1 : Nat) (v2 : Bool) (v3 : List BA) (v4 : Bool) (v5 : List BA) : St D0 := mkSt [(0, .one (.str v0)), (3, .one (.bs 3 v1)), (4, .one (.bool v2)), (5, .one (.sl true 9 v3)), (32, .one (.bool v4))] [(3, some (9, [.row 9 v5]))]
def s2 (v0 : BA) (v1 : List BA) (v2 : Bool) (v3 : List BA) (v4 : Bool) : St D0 := mkSt [(0, .one (.str v0)), (3, .one (.sl true 9 v1)), (4, .one (.bool v2)), (5, .one (.sl true 9 v3)), (32, .one (.bool v4))] [(3, none)]
def s3 (v0 : List BA) (v1 : Int) (v2 : Bool) : St D0 := mkSt [(5, .one (.sl true 9 v0)), (7, .one (.i v1)), (57, .one (.bool v2))] []
def K32765 : Ex → St D0 → Option R := (onN (tk C (O N) N c 16382 16383 K0) K0)
def o3 (v0 : List BA) (v1 : Int) (v2 : Bool) : Option R :=
 bif v2 then
  some (false)
 else
 (zq92.g N v0 1).bind fun r1 =>
 bif (decide (r1 < 0)) then
  some (false)
 else
 bif (r1 != v1) then
  some (false)
 else
 some (true)
def d3 (v0 : List BA) (v1 : Int) (v2 : Bool) : Option R := o3 N v0 v1 v2
theorem d3.run (v0 : List BA) (v1 : Int) (v2 : Bool) : runC C (O N) N (c 32765) 32765 (s3 v0 v1 v2) (K32765 N) = d3 N v0 v1 v2 := by kernel_rfl
def K125 : Ex → St D0 → Option R := (onN (tk C (O N) N c 62 63 K0) K0)
def o1 (v0 : BA) (v1 : Nat) (v2 : Bool) (v3 : List BA) (v4 : Bool) (v5 : List BA) (c3 : t3) : Option R :=
 bif v4 then
  some (false)
 else
 bif (Nat.blt 0 v3.length) then
  (zq96.g N v3.length 1 v3).bind fun r1 =>
  bif (Nat.ble v3.length r1.2.length) then
   (zq92.g N (r1.2.take v3.length) 1).bind fun r2 =>
   bif (decide (r2 < 0)) then
    some (false)
   else
   bif (r2 != r1.1) then
    some (false)
   else
   (zq30.g N v0).bind fun r3 =>
   (zq89.g N r3.1 v1 v5).bind fun r4 =>
   bif (!r4.1) then
    c3 (r1.2.take v3.length) r1.1 true
   else
   c3 (r1.2.take v3.length) r1.1 (!(r3.2 == v2))
  else
  none
 else
 (zq95.g N v3 1).bind fun r5 =>
 (zq92.g N v3 1).bind fun r6 =>
 bif (decide (r6 < 0)) then
  some (false)
 else
 bif (r6 != r5) then
  some (false)
 else
 (zq30.g N v0).bind fun r7 =>
 (zq89.g N r7.1 v1 v5).bind fun r8 =>
 bif (!r8.1) then
  c3 v3 r5 true
 else
 c3 v3 r5 (!(r7.2 == v2))
theorem o1.run (H32765 : Code) (v0 : BA) (v1 : Nat) (v2 : Bool) (v3 : List BA) (v4 : Bool) (v5 : List BA) : runC C (O N) N (c 125) 125 (s1 v0 v1 v2 v3 v4 v5) (onN (fun s => C.tidy 62 s (fun s' => runC C (O N) N (.seq (c 126) (.seq (c 254) (.seq (c 510) (.seq (c 1022) (.seq (c 2046) (.seq (c 4094) (.seq (c 8190) (.seq (.seq (c 32764) H32765) (c 16383))))))))) 63 s' K0)) K0) = o1 N v0 v1 v2 v3 v4 v5 ((fun w0 w1 w2 => runC C (O N) N H32765 32765 (s3 w0 w1 w2) (onN (tk C (O N) N c 16382 16383 K0) K0))) := by kernel_rfl
def d1 (v0 : BA) (v1 : Nat) (v2 : Bool) (v3 : List BA) (v4 : Bool) (v5 : List BA) : Option R := o1 N v0 v1 v2 v3 v4 v5 (d3 N · · ·)
theorem d1.run (v0 : BA) (v1 : Nat) (v2 : Bool) (v3 : List BA) (v4 : Bool) (v5 : List BA) : runC C (O N) N (c 125) 125 (s1 v0 v1 v2 v3 v4 v5) (K125 N) = d1 N v0 v1 v2 v3 v4 v5 := by
  unfold d1; exact (o1.run N (c 32765) v0 v1 v2 v3 v4 v5).trans (congr rfl (fx3 (d3.run N)))
def o2 (v0 : BA) (v1 : List BA) (v2 : Bool) (v3 : List BA) (v4 : Bool) (c3 : t3) : Option R :=
 bif v4 then
  some (false)
 else
 bif (Nat.blt 0 v3.length) then
  none
 else
 (zq95.g N v3 1).bind fun r1 =>
 (zq92.g N v3 1).bind fun r2 =>
 bif (decide (r2 < 0)) then
  some (false)
 else
 bif (r2 != r1) then
  some (false)
 else
 (zq30.g N v0).bind fun r3 =>
 (zq88.g N r3.1 v1).bind fun r4 =>
 bif (!r4) then
  c3 v3 r1 true
 else
 c3 v3 r1 (!(r3.2 == v2))
theorem o2.run (H32765 : Code) (v0 : BA) (v1 : List BA) (v2 : Bool) (v3 : List BA) (v4 : Bool) : runC C (O N) N (c 125) 125 (s2 v0 v1 v2 v3 v4) (onN (fun s => C.tidy 62 s (fun s' => runC C (O N) N (.seq (c 126) (.seq (c 254) (.seq (c 510) (.seq (c 1022) (.seq (c 2046) (.seq (c 4094) (.seq (c 8190) (.seq (.seq (c 32764) H32765) (c 16383))))))))) 63 s' K0)) K0) = o2 N v0 v1 v2 v3 v4 ((fun w0 w1 w2 => runC C (O N) N H32765 32765 (s3 w0 w1 w2) (onN (tk C (O N) N c 16382 16383 K0) K0))) := by kernel_rfl
def d2 (v0 : BA) (v1 : List BA) (v2 : Bool) (v3 : List BA) (v4 : Bool) : Option R := o2 N v0 v1 v2 v3 v4 (d3 N · · ·)
theorem d2.run (v0 : BA) (v1 : List BA) (v2 : Bool) (v3 : List BA) (v4 : Bool) : runC C (O N) N (c 125) 125 (s2 v0 v1 v2 v3 v4) (K125 N) = d2 N v0 v1 v2 v3 v4 := by
  unfold d2; exact (o2.run N (c 32765) v0 v1 v2 v3 v4).trans (congr rfl (fx3 (d3.run N)))
def o0 (a0 : BA) (c1 : t1) (c2 : t2) : Option R :=
 bif (decide ((a0.size : Int) > 1048576)) then
  some (true)
 else
 (zq122.g N a0).bind fun r1 =>
 bif (Nat.blt 0 r1.1.length) then
  (zq30.g N a0).bind fun r2 =>
  (zq89.g N r2.1 r1.1.length r1.1).bind fun r3 =>
  bif (!r3.1) then
   c1 a0 r1.1.length r1.2 r2.1 true r3.2
  else
  c1 a0 r1.1.length r1.2 r2.1 (!(r2.2 == r1.2)) r3.2
 else
 (zq30.g N a0).bind fun r4 =>
 (zq88.g N r4.1 r1.1).bind fun r5 =>
 bif (!r5) then
  c2 a0 r1.1 r1.2 r4.1 true
 else
 c2 a0 r1.1 r1.2 r4.1 (!(r4.2 == r1.2))
theorem o0.run (H125 : Code) (a0 : BA) : runC C (O N) N (.seq (c 2) (.seq (c 6) (.seq (c 14) (.seq (c 30) (.seq (.seq (c 124) H125) (c 63)))))) 1 (st0 [.one (.str a0)] [] : St D0) K0 = o0 N a0 ((fun w0 w1 w2 w3 w4 w5 => runC C (O N) N H125 125 (s1 w0 w1 w2 w3 w4 w5) (onN (tk C (O N) N c 62 63 K0) K0))) ((fun w0 w1 w2 w3 w4 => runC C (O N) N H125 125 (s2 w0 w1 w2 w3 w4) (onN (tk C (O N) N c 62 63 K0) K0))) := by kernel_rfl
def g (a0 : BA) : Option R := o0 N a0 (d1 N · · · · · ·) (d2 N · · · · ·)
theorem c1_0 : (c 1) = (.seq (c 2) (.seq (c 6) (.seq (c 14) (.seq (c 30) (.seq (.seq (c 124) (c 125)) (c 63)))))) := by kernel_rfl
theorem g.run (a0 : BA) : runC C (O N) N (c 1) 1 (st0 [.one (.str a0)] [] : St D0) K0 = g N a0 := by
  rw [c1_0]; unfold g; exact (o0.run N (c 125) a0).trans (congr (congr rfl (fx6 (d1.run N))) (fx5 (d2.run N)))
theorem good (a0 : BA) (r : R) (h : g N a0 = some r) : Go.PM.Good Tryz.prog T0 8 [.one (.str a0)] [] (sig.ret r) (sig.bs r) :=
  good_fnC C tabOk0 mixed0 sig (E N) Tryz.func8 (by kernel_rfl) (by kernel_rfl) [(false, [.any])] (by kernel_rfl) rfl rfl ((g.run N a0).trans h)
def ent : Ent Tryz.prog T0 := mkEnt 8 [(false, [.any])] sig (fun t => g N t) (fun t r h => good N t r h)
end zq83
def FnExactRunScript.Pure : Prop := ∀ (y0 : ByteArray), (y0.size ≤ 140737488351232) → ∃ N, zq83.g N y0 = some true
namespace zq87
variable (N : Nat)
abbrev R : Type := Bool × List Int
abbrev QQ : Type := St D0 → Option R
abbrev sig : Sig := ⟨[(false, 1), (false, 1)], [(3, 1)], [.sl false 3, .bs 0, .row 3], [(false, 1)], [(3, 1)], [.bool, .row 3]⟩
noncomputable def C : Cfg D0 := ⟨Tryz.prog, T0, 33571891, 0, 26, 1, [(58, [0, 1, 5], [0])], 6723904, false, []⟩
def E (N : Nat) : List (Ent Tryz.prog T0) := []
def O : Orc D0 R := orcOf (E N)
def K0 : Ex → QQ := exitK C Tryz.f32.results.toList [(false, [.any])] (decOut sig)
noncomputable def c (p : Nat) : Code := codeAt (Tryz.f32.body.getD .skip) (pathN p)
abbrev t1 : Type := (List Int) → Nat → Int → (List Int) → Option R
def s1 (v0 : List Int) (v1 : Nat) (v2 : Int) (v3 : List Int) : St D0 := mkSt [(0, .one (.sl false 3 v0)), (1, .one (.bs 0 v1)), (5, .one (.i v2))] [(0, some (3, [.row 3 v3]))]
def K116 (Kn58 : QQ) : Ex → QQ := ((fun up => (onN (fun s => C.tidy 58 s ((onN Kn58 up) .normal)) (onN Kn58 up))) (blockK 0 (onN (tk C (O N) N c 14 15 K0) K0)))
def o1 (N : Nat) (v0 : List Int) (v1 : Nat) (v2 : Int) (v3 : List Int) (c1 : t1) : Option R :=
 bif (decide (v2 < (v0.length : Int))) then
  bif (decide (0 ≤ v2)) then
   bif (decide (v2 < (v0.length : Int))) then
    (v0[(v2 : Int).toNat]?).bind fun x1 =>
    bif (decide (0 ≤ v2)) then
     bif (decide (v2 < ((v1 : Nat) : Int))) then
      (v3[(v2 : Int).toNat]?).bind fun x2 =>
      bif (x1 != x2) then
       some (false, v3)
      else
      c1 v0 v1 (w64 (v2 + 1)) v3
     else
     none
    else
    none
   else
   none
  else
  none
 else
 some (true, v3)
def d1 (v0 : List Int) (v1 : Nat) (v2 : Int) (v3 : List Int) (c1 : t1) : Option R := o1 N v0 v1 v2 v3 c1
theorem d1.run (Kn58 : QQ) (v0 : List Int) (v1 : Nat) (v2 : Int) (v3 : List Int) : runC C (O N) N (c 116) 116 (s1 v0 v1 v2 v3) (K116 N Kn58) = d1 N v0 v1 v2 v3 (Kn58 <| s1 · · · ·) := by kernel_rfl
def K58 : Ex → QQ := (blockK 0 (onN (tk C (O N) N c 14 15 K0) K0))
def l1 (N : Nat) : Nat → (List Int) → Nat → Int → (List Int) → Option R
  | 0, _, _, _, _ => none
  | n + 1, v0, v1, v2, v3 => d1 N v0 v1 v2 v3 (l1 N n · · · ·)
theorem loop58 (N : Nat) : ∀ n, (∀ (v0 : List Int) (v1 : Nat) (v2 : Int) (v3 : List Int), iter (loopF C (O N) N (c 116) 58) n (s1 v0 v1 v2 v3) (K58 N) = l1 N n v0 v1 v2 v3)
  | 0 => (by intros; rfl)
  | n + 1 => (fun v0 v1 v2 v3 => (d1.run N (fun s => iter (loopF C (O N) N (c 116) 58) n s (K58 N)) v0 v1 v2 v3).trans (show _ = d1 N v0 v1 v2 v3 (l1 N n · · · ·) from (congr rfl (fx4 ((loop58 N n))))))
def o0 (N : Nat) (a0 : List Int) (a1 : Nat) (b0_0 : List Int) (c1 : t1) : Option R :=
 bif ((a0.length : Int) != ((a1 : Nat) : Int)) then
  some (false, b0_0)
 else
 c1 a0 a1 0 b0_0
theorem o0.run (H116 : Code) (a0 : List Int) (a1 : Nat) (b0_0 : List Int) : runC C (O N) N (.seq (c 2) (.seq (c 6) (.seq (.seq (c 28) (.block 0 (.loop H116))) (c 15)))) 1 (st0 [.one (.sl false 3 a0), .one (.bs 0 a1)] [(3, [.row 3 b0_0])] : St D0) K0 = o0 N a0 a1 b0_0 ((fun w0 w1 w2 w3 => iter (loopF C (O N) N H116 58) N (s1 w0 w1 w2 w3) (blockK 0 (onN (tk C (O N) N c 14 15 K0) K0)))) := by kernel_rfl
def g (a0 : List Int) (a1 : Nat) (b0_0 : List Int) : Option R := o0 N a0 a1 b0_0 (l1 N N · · · ·)
theorem c1_0 : (c 1) = (.seq (c 2) (.seq (c 6) (.seq (.seq (c 28) (.block 0 (.loop (c 116)))) (c 15)))) := by kernel_rfl
theorem g.run (a0 : List Int) (a1 : Nat) (b0_0 : List Int) : runC C (O N) N (c 1) 1 (st0 [.one (.sl false 3 a0), .one (.bs 0 a1)] [(3, [.row 3 b0_0])] : St D0) K0 = g N a0 a1 b0_0 := by
  rw [c1_0]; unfold g; exact (o0.run N (c 116) a0 a1 b0_0).trans (congr rfl (fx4 ((loop58 N N))))
def ent : Ent Tryz.prog T0 := mkEntC C tabOk0 mixed0 32 [(false, [.ro 3]), (false, [.any])] sig (E N) Tryz.func32 (by kernel_rfl) [(false, [.any])] N (fun t => g N t.1 t.2.1 t.2.2) (fun _ => by kernel_rfl) (fun t => g.run N t.1 t.2.1 t.2.2)
end zq87
namespace zq86
variable (N : Nat)
abbrev R : Type := Bool
abbrev QQ : Type := St D0 → Option R
abbrev sig : Sig := ⟨[(false, 1), (false, 1)], [], [.sl false 3, .sl false 3], [(false, 1)], [], [.bool]⟩
noncomputable def C : Cfg D0 := ⟨Tryz.prog, T0, 33571891, 0, 26, 0, [(58, [0, 1, 5], [])], 6723904, false, []⟩
def E (N : Nat) : List (Ent Tryz.prog T0) := []
def O : Orc D0 R := orcOf (E N)
def K0 : Ex → QQ := exitK C Tryz.f32.results.toList [(false, [.any])] (decOut sig)
noncomputable def c (p : Nat) : Code := codeAt (Tryz.f32.body.getD .skip) (pathN p)
abbrev t1 : Type := (List Int) → (List Int) → Int → Option R
def s1 (v0 v1 : List Int) (v2 : Int) : St D0 := mkSt [(0, .one (.sl false 3 v0)), (1, .one (.sl false 3 v1)), (5, .one (.i v2))] []
def K116 (Kn58 : QQ) : Ex → QQ := ((fun up => (onN (fun s => C.tidy 58 s ((onN Kn58 up) .normal)) (onN Kn58 up))) (blockK 0 (onN (tk C (O N) N c 14 15 K0) K0)))
def o1 (N : Nat) (v0 v1 : List Int) (v2 : Int) (c1 : t1) : Option R :=
 bif (decide (v2 < (v0.length : Int))) then
  bif (decide (0 ≤ v2)) then
   bif (decide (v2 < (v0.length : Int))) then
    (v0[(v2 : Int).toNat]?).bind fun x1 =>
    bif (decide (0 ≤ v2)) then
     bif (decide (v2 < (v1.length : Int))) then
      (v1[(v2 : Int).toNat]?).bind fun x2 =>
      bif (x1 != x2) then
       some (false)
      else
      c1 v0 v1 (w64 (v2 + 1))
     else
     none
    else
    none
   else
   none
  else
  none
 else
 some (true)
def d1 (v0 v1 : List Int) (v2 : Int) (c1 : t1) : Option R := o1 N v0 v1 v2 c1
theorem d1.run (Kn58 : QQ) (v0 v1 : List Int) (v2 : Int) : runC C (O N) N (c 116) 116 (s1 v0 v1 v2) (K116 N Kn58) = d1 N v0 v1 v2 (Kn58 <| s1 · · ·) := by kernel_rfl
def K58 : Ex → QQ := (blockK 0 (onN (tk C (O N) N c 14 15 K0) K0))
def l1 (N : Nat) : Nat → (List Int) → (List Int) → Int → Option R
  | 0, _, _, _ => none
  | n + 1, v0, v1, v2 => d1 N v0 v1 v2 (l1 N n · · ·)
theorem loop58 (N : Nat) : ∀ n, (∀ (v0 v1 : List Int) (v2 : Int), iter (loopF C (O N) N (c 116) 58) n (s1 v0 v1 v2) (K58 N) = l1 N n v0 v1 v2)
  | 0 => (by intros; rfl)
  | n + 1 => (fun v0 v1 v2 => (d1.run N (fun s => iter (loopF C (O N) N (c 116) 58) n s (K58 N)) v0 v1 v2).trans (show _ = d1 N v0 v1 v2 (l1 N n · · ·) from (congr rfl (fx3 ((loop58 N n))))))
def o0 (N : Nat) (a0 a1 : List Int) (c1 : t1) : Option R :=
 bif ((a0.length : Int) != (a1.length : Int)) then
  some (false)
 else
 c1 a0 a1 0
theorem o0.run (H116 : Code) (a0 a1 : List Int) : runC C (O N) N (.seq (c 2) (.seq (c 6) (.seq (.seq (c 28) (.block 0 (.loop H116))) (c 15)))) 1 (st0 [.one (.sl false 3 a0), .one (.sl false 3 a1)] [] : St D0) K0 = o0 N a0 a1 ((fun w0 w1 w2 => iter (loopF C (O N) N H116 58) N (s1 w0 w1 w2) (blockK 0 (onN (tk C (O N) N c 14 15 K0) K0)))) := by kernel_rfl
def g (a0 a1 : List Int) : Option R := o0 N a0 a1 (l1 N N · · ·)
theorem c1_0 : (c 1) = (.seq (c 2) (.seq (c 6) (.seq (.seq (c 28) (.block 0 (.loop (c 116)))) (c 15)))) := by kernel_rfl
theorem g.run (a0 a1 : List Int) : runC C (O N) N (c 1) 1 (st0 [.one (.sl false 3 a0), .one (.sl false 3 a1)] [] : St D0) K0 = g N a0 a1 := by
  rw [c1_0]; unfold g; exact (o0.run N (c 116) a0 a1).trans (congr rfl (fx3 ((loop58 N N))))
def ent : Ent Tryz.prog T0 := mkEntC C tabOk0 mixed0 32 [(false, [.ro 3]), (false, [.ro 3])] sig (E N) Tryz.func32 (by kernel_rfl) [(false, [.any])] N (fun t => g N t.1 t.2) (fun _ => by kernel_rfl) (fun t => g.run N t.1 t.2)
end zq86
namespace zq94
variable (N : Nat)
abbrev R : Type := Int × List Int
abbrev QQ : Type := St D0 → Option R
abbrev sig : Sig := ⟨[(false, 1), (false, 1)], [(3, 1)], [.bs 0, .i, .row 3], [(false, 1)], [(3, 1)], [.i, .row 3]⟩
noncomputable def C : Cfg D0 := ⟨Tryz.prog, T0, 563, 0, 19, 1, [(26, [0, 1, 5], [0])], 79040, false, []⟩
def E (N : Nat) : List (Ent Tryz.prog T0) := []
def O : Orc D0 R := orcOf (E N)
def K0 : Ex → QQ := exitK C Tryz.f33.results.toList [(false, [.any])] (decOut sig)
noncomputable def c (p : Nat) : Code := codeAt (Tryz.f33.body.getD .skip) (pathN p)
abbrev t1 : Type := Nat → Int → Int → (List Int) → Option R
def s1 (v0 : Nat) (v1 v2 : Int) (v3 : List Int) : St D0 := mkSt [(0, .one (.bs 0 v0)), (1, .one (.i v1)), (5, .one (.i v2))] [(0, some (3, [.row 3 v3]))]
def K52 (Kn26 : QQ) : Ex → QQ := ((fun up => (onN (fun s => C.tidy 26 s ((onN Kn26 up) .normal)) (onN Kn26 up))) (blockK 0 (onN (tk C (O N) N c 6 7 K0) K0)))
def o1 (N : Nat) (v0 : Nat) (v1 v2 : Int) (v3 : List Int) (c1 : t1) : Option R :=
 bif (decide (v2 < ((v0 : Nat) : Int))) then
  bif (decide (0 ≤ v2)) then
   bif (decide (v2 < ((v0 : Nat) : Int))) then
    (v3[(v2 : Int).toNat]?).bind fun x1 =>
    c1 v0 (w64 (v1 + 1)) (w64 (v2 + 1)) (v3.set (v2 : Int).toNat v1)
   else
   none
  else
  none
 else
 some (v1, v3)
def d1 (v0 : Nat) (v1 v2 : Int) (v3 : List Int) (c1 : t1) : Option R := o1 N v0 v1 v2 v3 c1
theorem d1.run (Kn26 : QQ) (v0 : Nat) (v1 v2 : Int) (v3 : List Int) : runC C (O N) N (c 52) 52 (s1 v0 v1 v2 v3) (K52 N Kn26) = d1 N v0 v1 v2 v3 (Kn26 <| s1 · · · ·) := by kernel_rfl
def K26 : Ex → QQ := (blockK 0 (onN (tk C (O N) N c 6 7 K0) K0))
def l1 (N : Nat) : Nat → Nat → Int → Int → (List Int) → Option R
  | 0, _, _, _, _ => none
  | n + 1, v0, v1, v2, v3 => d1 N v0 v1 v2 v3 (l1 N n · · · ·)
theorem loop26 (N : Nat) : ∀ n, (∀ (v0 : Nat) (v1 v2 : Int) (v3 : List Int), iter (loopF C (O N) N (c 52) 26) n (s1 v0 v1 v2 v3) (K26 N) = l1 N n v0 v1 v2 v3)
  | 0 => (by intros; rfl)
  | n + 1 => (fun v0 v1 v2 v3 => (d1.run N (fun s => iter (loopF C (O N) N (c 52) 26) n s (K26 N)) v0 v1 v2 v3).trans (show _ = d1 N v0 v1 v2 v3 (l1 N n · · · ·) from (congr rfl (fx4 ((loop26 N n))))))
def o0 (N : Nat) (a0 : Nat) (a1 : Int) (b0_0 : List Int) (c1 : t1) : Option R :=
 c1 a0 a1 0 b0_0
theorem o0.run (H52 : Code) (a0 : Nat) (a1 : Int) (b0_0 : List Int) : runC C (O N) N (.seq (c 2) (.seq (.seq (c 12) (.block 0 (.loop H52))) (c 7))) 1 (st0 [.one (.bs 0 a0), .one (.i a1)] [(3, [.row 3 b0_0])] : St D0) K0 = o0 N a0 a1 b0_0 ((fun w0 w1 w2 w3 => iter (loopF C (O N) N H52 26) N (s1 w0 w1 w2 w3) (blockK 0 (onN (tk C (O N) N c 6 7 K0) K0)))) := by kernel_rfl
def g (a0 : Nat) (a1 : Int) (b0_0 : List Int) : Option R := o0 N a0 a1 b0_0 (l1 N N · · · ·)
theorem c1_0 : (c 1) = (.seq (c 2) (.seq (.seq (c 12) (.block 0 (.loop (c 52)))) (c 7))) := by kernel_rfl
theorem g.run (a0 : Nat) (a1 : Int) (b0_0 : List Int) : runC C (O N) N (c 1) 1 (st0 [.one (.bs 0 a0), .one (.i a1)] [(3, [.row 3 b0_0])] : St D0) K0 = g N a0 a1 b0_0 := by
  rw [c1_0]; unfold g; exact (o0.run N (c 52) a0 a1 b0_0).trans (congr rfl (fx4 ((loop26 N N))))
def ent : Ent Tryz.prog T0 := mkEntC C tabOk0 mixed0 33 [(false, [.any]), (false, [.any])] sig (E N) Tryz.func33 (by kernel_rfl) [(false, [.any])] N (fun t => g N t.1 t.2.1 t.2.2) (fun _ => by kernel_rfl) (fun t => g.run N t.1 t.2.1 t.2.2)
end zq94
namespace zq91
variable (N : Nat)
abbrev R : Type := Int
abbrev QQ : Type := St D0 → Option R
abbrev sig : Sig := ⟨[(false, 1), (false, 1)], [], [.sl false 3, .i], [(false, 1)], [], [.i]⟩
noncomputable def C : Cfg D0 := ⟨Tryz.prog, T0, 131635, 0, 21, 0, [(26, [0, 1, 5], [])], 341184, false, []⟩
def E (N : Nat) : List (Ent Tryz.prog T0) := []
def O : Orc D0 R := orcOf (E N)
def K0 : Ex → QQ := exitK C Tryz.f34.results.toList [(false, [.any])] (decOut sig)
noncomputable def c (p : Nat) : Code := codeAt (Tryz.f34.body.getD .skip) (pathN p)
abbrev t1 : Type := (List Int) → Int → Int → Option R
def s1 (v0 : List Int) (v1 v2 : Int) : St D0 := mkSt [(0, .one (.sl false 3 v0)), (1, .one (.i v1)), (5, .one (.i v2))] []
def K52 (Kn26 : QQ) : Ex → QQ := ((fun up => (onN (fun s => C.tidy 26 s ((onN Kn26 up) .normal)) (onN Kn26 up))) (blockK 0 (onN (tk C (O N) N c 6 7 K0) K0)))
def o1 (N : Nat) (v0 : List Int) (v1 v2 : Int) (c1 : t1) : Option R :=
 bif (decide (v2 < (v0.length : Int))) then
  bif (decide (0 ≤ v2)) then
   bif (decide (v2 < (v0.length : Int))) then
    (v0[(v2 : Int).toNat]?).bind fun x1 =>
    bif (x1 != v1) then
     some ((-1))
    else
    c1 v0 (w64 (v1 + 1)) (w64 (v2 + 1))
   else
   none
  else
  none
 else
 some (v1)
def d1 (v0 : List Int) (v1 v2 : Int) (c1 : t1) : Option R := o1 N v0 v1 v2 c1
theorem d1.run (Kn26 : QQ) (v0 : List Int) (v1 v2 : Int) : runC C (O N) N (c 52) 52 (s1 v0 v1 v2) (K52 N Kn26) = d1 N v0 v1 v2 (Kn26 <| s1 · · ·) := by kernel_rfl
def K26 : Ex → QQ := (blockK 0 (onN (tk C (O N) N c 6 7 K0) K0))
def l1 (N : Nat) : Nat → (List Int) → Int → Int → Option R
  | 0, _, _, _ => none
  | n + 1, v0, v1, v2 => d1 N v0 v1 v2 (l1 N n · · ·)
theorem loop26 (N : Nat) : ∀ n, (∀ (v0 : List Int) (v1 v2 : Int), iter (loopF C (O N) N (c 52) 26) n (s1 v0 v1 v2) (K26 N) = l1 N n v0 v1 v2)
  | 0 => (by intros; rfl)
  | n + 1 => (fun v0 v1 v2 => (d1.run N (fun s => iter (loopF C (O N) N (c 52) 26) n s (K26 N)) v0 v1 v2).trans (show _ = d1 N v0 v1 v2 (l1 N n · · ·) from (congr rfl (fx3 ((loop26 N n))))))
def o0 (N : Nat) (a0 : List Int) (a1 : Int) (c1 : t1) : Option R :=
 c1 a0 a1 0
theorem o0.run (H52 : Code) (a0 : List Int) (a1 : Int) : runC C (O N) N (.seq (c 2) (.seq (.seq (c 12) (.block 0 (.loop H52))) (c 7))) 1 (st0 [.one (.sl false 3 a0), .one (.i a1)] [] : St D0) K0 = o0 N a0 a1 ((fun w0 w1 w2 => iter (loopF C (O N) N H52 26) N (s1 w0 w1 w2) (blockK 0 (onN (tk C (O N) N c 6 7 K0) K0)))) := by kernel_rfl
def g (a0 : List Int) (a1 : Int) : Option R := o0 N a0 a1 (l1 N N · · ·)
theorem c1_0 : (c 1) = (.seq (c 2) (.seq (.seq (c 12) (.block 0 (.loop (c 52)))) (c 7))) := by kernel_rfl
theorem g.run (a0 : List Int) (a1 : Int) : runC C (O N) N (c 1) 1 (st0 [.one (.sl false 3 a0), .one (.i a1)] [] : St D0) K0 = g N a0 a1 := by
  rw [c1_0]; unfold g; exact (o0.run N (c 52) a0 a1).trans (congr rfl (fx3 ((loop26 N N))))
def ent : Ent Tryz.prog T0 := mkEntC C tabOk0 mixed0 34 [(false, [.ro 3]), (false, [.any])] sig (E N) Tryz.func34 (by kernel_rfl) [(false, [.any])] N (fun t => g N t.1 t.2) (fun _ => by kernel_rfl) (fun t => g.run N t.1 t.2)
end zq91
namespace zq93
variable (N : Nat)
abbrev R : Type := Int
abbrev QQ : Type := St D0 → Option R
abbrev sig : Sig := ⟨[(false, 1), (false, 1)], [], [.sl false 3, .i], [(false, 1)], [], [.i]⟩
noncomputable def C : Cfg D0 := ⟨Tryz.prog, T0, 563, 0, 19, 0, [(26, [0, 1, 5], [])], 79040, false, []⟩
def E (N : Nat) : List (Ent Tryz.prog T0) := []
def O : Orc D0 R := orcOf (E N)
def K0 : Ex → QQ := exitK C Tryz.f33.results.toList [(false, [.any])] (decOut sig)
noncomputable def c (p : Nat) : Code := codeAt (Tryz.f33.body.getD .skip) (pathN p)
abbrev t1 : Type := (List Int) → Int → Int → Option R
def s1 (v0 : List Int) (v1 v2 : Int) : St D0 := mkSt [(0, .one (.sl false 3 v0)), (1, .one (.i v1)), (5, .one (.i v2))] []
def K52 (Kn26 : QQ) : Ex → QQ := ((fun up => (onN (fun s => C.tidy 26 s ((onN Kn26 up) .normal)) (onN Kn26 up))) (blockK 0 (onN (tk C (O N) N c 6 7 K0) K0)))
def o1 (N : Nat) (v0 : List Int) (v1 v2 : Int) : Option R :=
 bif (decide (v2 < (v0.length : Int))) then
  bif (decide (0 ≤ v2)) then
   bif (decide (v2 < (v0.length : Int))) then
    none
   else
   none
  else
  none
 else
 some (v1)
def d1 (v0 : List Int) (v1 v2 : Int) : Option R := o1 N v0 v1 v2
theorem d1.run (Kn26 : QQ) (v0 : List Int) (v1 v2 : Int) : runC C (O N) N (c 52) 52 (s1 v0 v1 v2) (K52 N Kn26) = d1 N v0 v1 v2 := by kernel_rfl
def K26 : Ex → QQ := (blockK 0 (onN (tk C (O N) N c 6 7 K0) K0))
def l1 (N : Nat) : Nat → (List Int) → Int → Int → Option R
  | 0, _, _, _ => none
  | n + 1, v0, v1, v2 => d1 N v0 v1 v2
theorem loop26 (N : Nat) : ∀ n, (∀ (v0 : List Int) (v1 v2 : Int), iter (loopF C (O N) N (c 52) 26) n (s1 v0 v1 v2) (K26 N) = l1 N n v0 v1 v2)
  | 0 => (by intros; rfl)
  | n + 1 => (fun v0 v1 v2 => (d1.run N (fun s => iter (loopF C (O N) N (c 52) 26) n s (K26 N)) v0 v1 v2).trans (show _ = d1 N v0 v1 v2 from rfl))
def o0 (N : Nat) (a0 : List Int) (a1 : Int) (c1 : t1) : Option R :=
 c1 a0 a1 0
theorem o0.run (H52 : Code) (a0 : List Int) (a1 : Int) : runC C (O N) N (.seq (c 2) (.seq (.seq (c 12) (.block 0 (.loop H52))) (c 7))) 1 (st0 [.one (.sl false 3 a0), .one (.i a1)] [] : St D0) K0 = o0 N a0 a1 ((fun w0 w1 w2 => iter (loopF C (O N) N H52 26) N (s1 w0 w1 w2) (blockK 0 (onN (tk C (O N) N c 6 7 K0) K0)))) := by kernel_rfl
def g (a0 : List Int) (a1 : Int) : Option R := o0 N a0 a1 (l1 N N · · ·)
theorem c1_0 : (c 1) = (.seq (c 2) (.seq (.seq (c 12) (.block 0 (.loop (c 52)))) (c 7))) := by kernel_rfl
theorem g.run (a0 : List Int) (a1 : Int) : runC C (O N) N (c 1) 1 (st0 [.one (.sl false 3 a0), .one (.i a1)] [] : St D0) K0 = g N a0 a1 := by
  rw [c1_0]; unfold g; exact (o0.run N (c 52) a0 a1).trans (congr rfl (fx3 ((loop26 N N))))
def ent : Ent Tryz.prog T0 := mkEntC C tabOk0 mixed0 33 [(false, [.ro 3]), (false, [.any])] sig (E N) Tryz.func33 (by kernel_rfl) [(false, [.any])] N (fun t => g N t.1 t.2) (fun _ => by kernel_rfl) (fun t => g.run N t.1 t.2)
end zq93
namespace zq82
variable (N : Nat)
abbrev R : Type := Bool
abbrev sig : Sig := ⟨[(false, 1)], [], [.str], [(false, 1)], [], [.bool]⟩
noncomputable def C : Cfg D0 := ⟨Tryz.prog, T0, 41649299253821974525, 0, 66, 0, [(124, [0, 3, 4, 5, 32], [3]), (32764, [5, 7, 57], [])], 30896424858409797632, true, [(30, true, 3, [0, 4], []), (254, false, 5, [0, 3, 4, 7], [3]), (254, true, 5, [0, 3, 4, 7], [3])]⟩
def E : List (Ent Tryz.prog T0) := [zq113.ent N, zq11.ent N, zq86.ent N, zq91.ent N, zq93.ent N, zq87.ent N, zq94.ent N]
def O : Orc D0 R := orcOf (E N)
def K0 : Ex → St D0 → Option R := exitK C Tryz.f9.results.toList [(false, [.any])] (decOut sig)
noncomputable def c (p : Nat) : Code := codeAt (Tryz.f9.body.getD .skip) (pathN p)
abbrev t1 : Type := BA → Nat → Bool → (List Int) → Bool → (List Int) → Option R
abbrev t2 : Type := BA → (List Int) → Bool → (List Int) → Bool → Option R
abbrev t3 : Type := (List Int) → Int → Bool → Option R
def s1 (v0 : BA) (v1 : Nat) (v2 : Bool) (v3 : List Int) (v4 : Bool) (v5 : List Int) : St D0 := mkSt [(0, .one (.str v0)), (3, .one (.bs 3 v1)), (4, .one (.bool v2)), (5, .one (.sl true 3 v3)), (32, .one (.bool v4))] [(3, some (3, [.row 3 v5]))]
def s2 (v0 : BA) (v1 : List Int) (v2 : Bool) (v3 : List Int) (v4 : Bool) : St D0 := mkSt [(0, .one (.str v0)), (3, .one (.sl true 3 v1)), (4, .one (.bool v2)), (5, .one (.sl true 3 v3)), (32, .one (.bool v4))] [(3, none)]
def s3 (v0 : List Int) (v1 : Int) (v2 : Bool) : St D0 := mkSt [(5, .one (.sl true 3 v0)), (7, .one (.i v1)), (57, .one (.bool v2))] []
def K32765 : Ex → St D0 → Option R := (onN (tk C (O N) N c 16382 16383 K0) K0)
def o3 (v0 : List Int) (v1 : Int) (v2 : Bool) : Option R :=
 bif v2 then
  some (false)
 else
 (zq91.g N v0 1).bind fun r1 =>
 bif (decide (r1 < 0)) then
  some (false)
 else
 bif (r1 != v1) then
  some (false)
 else
 some (true)
def d3 (v0 : List Int) (v1 : Int) (v2 : Bool) : Option R := o3 N v0 v1 v2
theorem d3.run (v0 : List Int) (v1 : Int) (v2 : Bool) : runC C (O N) N (c 32765) 32765 (s3 v0 v1 v2) (K32765 N) = d3 N v0 v1 v2 := by kernel_rfl
def K125 : Ex → St D0 → Option R := (onN (tk C (O N) N c 62 63 K0) K0)
def o1 (v0 : BA) (v1 : Nat) (v2 : Bool) (v3 : List Int) (v4 : Bool) (v5 : List Int) (c3 : t3) : Option R :=
 bif v4 then
  some (false)
 else
 bif (Nat.blt 0 v3.length) then
  (zq94.g N v3.length 1 v3).bind fun r1 =>
  bif (Nat.ble v3.length r1.2.length) then
   (zq91.g N (r1.2.take v3.length) 1).bind fun r2 =>
   bif (decide (r2 < 0)) then
    some (false)
   else
   bif (r2 != r1.1) then
    some (false)
   else
   (zq11.g N v0).bind fun r3 =>
   (zq87.g N r3.1 v1 v5).bind fun r4 =>
   bif (!r4.1) then
    c3 (r1.2.take v3.length) r1.1 true
   else
   c3 (r1.2.take v3.length) r1.1 (!(r3.2 == v2))
  else
  none
 else
 (zq93.g N v3 1).bind fun r5 =>
 (zq91.g N v3 1).bind fun r6 =>
 bif (decide (r6 < 0)) then
  some (false)
 else
 bif (r6 != r5) then
  some (false)
 else
 (zq11.g N v0).bind fun r7 =>
 (zq87.g N r7.1 v1 v5).bind fun r8 =>
 bif (!r8.1) then
  c3 v3 r5 true
 else
 c3 v3 r5 (!(r7.2 == v2))
theorem o1.run (H32765 : Code) (v0 : BA) (v1 : Nat) (v2 : Bool) (v3 : List Int) (v4 : Bool) (v5 : List Int) : runC C (O N) N (c 125) 125 (s1 v0 v1 v2 v3 v4 v5) (onN (fun s => C.tidy 62 s (fun s' => runC C (O N) N (.seq (c 126) (.seq (c 254) (.seq (c 510) (.seq (c 1022) (.seq (c 2046) (.seq (c 4094) (.seq (c 8190) (.seq (.seq (c 32764) H32765) (c 16383))))))))) 63 s' K0)) K0) = o1 N v0 v1 v2 v3 v4 v5 ((fun w0 w1 w2 => runC C (O N) N H32765 32765 (s3 w0 w1 w2) (onN (tk C (O N) N c 16382 16383 K0) K0))) := by kernel_rfl
def d1 (v0 : BA) (v1 : Nat) (v2 : Bool) (v3 : List Int) (v4 : Bool) (v5 : List Int) : Option R := o1 N v0 v1 v2 v3 v4 v5 (d3 N · · ·)
theorem d1.run (v0 : BA) (v1 : Nat) (v2 : Bool) (v3 : List Int) (v4 : Bool) (v5 : List Int) : runC C (O N) N (c 125) 125 (s1 v0 v1 v2 v3 v4 v5) (K125 N) = d1 N v0 v1 v2 v3 v4 v5 := by
  unfold d1; exact (o1.run N (c 32765) v0 v1 v2 v3 v4 v5).trans (congr rfl (fx3 (d3.run N)))
def o2 (v0 : BA) (v1 : List Int) (v2 : Bool) (v3 : List Int) (v4 : Bool) (c3 : t3) : Option R :=
 bif v4 then
  some (false)
 else
 bif (Nat.blt 0 v3.length) then
  none
 else
 (zq93.g N v3 1).bind fun r1 =>
 (zq91.g N v3 1).bind fun r2 =>
 bif (decide (r2 < 0)) then
  some (false)
 else
 bif (r2 != r1) then
  some (false)
 else
 (zq11.g N v0).bind fun r3 =>
 (zq86.g N r3.1 v1).bind fun r4 =>
 bif (!r4) then
  c3 v3 r1 true
 else
 c3 v3 r1 (!(r3.2 == v2))
theorem o2.run (H32765 : Code) (v0 : BA) (v1 : List Int) (v2 : Bool) (v3 : List Int) (v4 : Bool) : runC C (O N) N (c 125) 125 (s2 v0 v1 v2 v3 v4) (onN (fun s => C.tidy 62 s (fun s' => runC C (O N) N (.seq (c 126) (.seq (c 254) (.seq (c 510) (.seq (c 1022) (.seq (c 2046) (.seq (c 4094) (.seq (c 8190) (.seq (.seq (c 32764) H32765) (c 16383))))))))) 63 s' K0)) K0) = o2 N v0 v1 v2 v3 v4 ((fun w0 w1 w2 => runC C (O N) N H32765 32765 (s3 w0 w1 w2) (onN (tk C (O N) N c 16382 16383 K0) K0))) := by kernel_rfl
def d2 (v0 : BA) (v1 : List Int) (v2 : Bool) (v3 : List Int) (v4 : Bool) : Option R := o2 N v0 v1 v2 v3 v4 (d3 N · · ·)
theorem d2.run (v0 : BA) (v1 : List Int) (v2 : Bool) (v3 : List Int) (v4 : Bool) : runC C (O N) N (c 125) 125 (s2 v0 v1 v2 v3 v4) (K125 N) = d2 N v0 v1 v2 v3 v4 := by
  unfold d2; exact (o2.run N (c 32765) v0 v1 v2 v3 v4).trans (congr rfl (fx3 (d3.run N)))
def o0 (a0 : BA) (c1 : t1) (c2 : t2) : Option R :=
 bif (decide ((a0.size : Int) > 1048576)) then
  some (true)
 else
 (zq113.g N a0).bind fun r1 =>
 bif (Nat.blt 0 r1.1.length) then
  (zq11.g N a0).bind fun r2 =>
  (zq87.g N r2.1 r1.1.length r1.1).bind fun r3 =>
  bif (!r3.1) then
   c1 a0 r1.1.length r1.2 r2.1 true r3.2
  else
  c1 a0 r1.1.length r1.2 r2.1 (!(r2.2 == r1.2)) r3.2
 else
 (zq11.g N a0).bind fun r4 =>
 (zq86.g N r4.1 r1.1).bind fun r5 =>
 bif (!r5) then
  c2 a0 r1.1 r1.2 r4.1 true
 else
 c2 a0 r1.1 r1.2 r4.1 (!(r4.2 == r1.2))
theorem o0.run (H125 : Code) (a0 : BA) : runC C (O N) N (.seq (c 2) (.seq (c 6) (.seq (c 14) (.seq (c 30) (.seq (.seq (c 124) H125) (c 63)))))) 1 (st0 [.one (.str a0)] [] : St D0) K0 = o0 N a0 ((fun w0 w1 w2 w3 w4 w5 => runC C (O N) N H125 125 (s1 w0 w1 w2 w3 w4 w5) (onN (tk C (O N) N c 62 63 K0) K0))) ((fun w0 w1 w2 w3 w4 => runC C (O N) N H125 125 (s2 w0 w1 w2 w3 w4) (onN (tk C (O N) N c 62 63 K0) K0))) := by kernel_rfl
def g (a0 : BA) : Option R := o0 N a0 (d1 N · · · · · ·) (d2 N · · · · ·)
theorem c1_0 : (c 1) = (.seq (c 2) (.seq (c 6) (.seq (c 14) (.seq (c 30) (.seq (.seq (c 124) (c 125)) (c 63)))))) := by kernel_rfl
theorem g.run (a0 : BA) : runC C (O N) N (c 1) 1 (st0 [.one (.str a0)] [] : St D0) K0 = g N a0 := by
  rw [c1_0]; unfold g; exact (o0.run N (c 125) a0).trans (congr (congr rfl (fx6 (d1.run N))) (fx5 (d2.run N)))
theorem good (a0 : BA) (r : R) (h : g N a0 = some r) : Go.PM.Good Tryz.prog T0 9 [.one (.str a0)] [] (sig.ret r) (sig.bs r) :=
  good_fnC C tabOk0 mixed0 sig (E N) Tryz.func9 (by kernel_rfl) (by kernel_rfl) [(false, [.any])] (by kernel_rfl) rfl rfl ((g.run N a0).trans h)
def ent : Ent Tryz.prog T0 := mkEnt 9 [(false, [.any])] sig (fun t => g N t) (fun t r h => good N t r h)
end zq82
def FnExactFailedLines.Pure : Prop := ∀ (y0 : ByteArray), (y0.size ≤ 140737488351232) → ∃ N, zq82.g N y0 = some true
end Go.Proofs.YtdidghlibfopgaaGreatDoor.M
end
