/- What the program's functions compute, walked by the machine (part 3). No conditions but those stated. -/
import Derived.Test.YtdidghlibfopgaaGreatDoorFnFnExactFailedLines2
import Derived.Test.YtdidghlibfopgaaGreatDoorShelf
import Derived.Lib.IndexBytes
import Derived.WalkKit
import Derived.Lib.Walk
import Derived.OwnWalk
import Derived.MapKept
noncomputable section
namespace Go.Proofs.YtdidghlibfopgaaGreatDoor.M
open Go Go.PM Go.Proofs.YtdidghlibfopgaaGreatDoor.P
set_option linter.unusedVariables false
set_option maxRecDepth 100000
namespace zq138
variable (N : Nat)
abbrev R : Type := BA
abbrev QQ : Type := St D0 → Option R
abbrev sig : Sig := ⟨[(false, 1)], [], [.sl false 9], [(false, 1)], [], [.str]⟩
noncomputable def C : Cfg D0 := ⟨Tryz.prog, T0, 123181, 0, 25, 0, [(122, [3, 13, 14, 15], [])], 1577536, false, []⟩
def E (N : Nat) : List (Ent Tryz.prog T0) := []
def O : Orc D0 R := orcOf (E N)
def K0 : Ex → QQ := exitK C Tryz.f143.results.toList [(false, [.any])] (decOut sig)
noncomputable def c (p : Nat) : Code := codeAt (Tryz.f143.body.getD .skip) (pathN p)
abbrev t1 : Type := BA → (List BA) → Int → Int → Option R
def s1 (v0 : BA) (v1 : List BA) (v2 v3 : Int) : St D0 := mkSt [(3, .one (.str v0)), (13, .one (.sl false 9 v1)), (14, .one (.i v2)), (15, .one (.i v3))] []
def K244 (Kn122 : QQ) : Ex → QQ := ((fun up => (onN (fun s => C.tidy 122 s ((onN Kn122 up) .normal)) (onN Kn122 up))) (blockK 0 (onN (tk C (O N) N c 30 31 K0) K0)))
def o1 (N : Nat) (v0 : BA) (v1 : List BA) (v2 v3 : Int) (c1 : t1) : Option R :=
 bif (decide (v3 < v2)) then
  bif (decide (0 ≤ v3)) then
   bif (decide (v3 < (v1.length : Int))) then
    (v1[(v3 : Int).toNat]?).bind fun x1 =>
    bif (Nat.ble ((⟨#[44]⟩ : BA).size + x1.size) 9223372036854775807) then
     bif (Nat.ble (v0.size + ((⟨#[44]⟩ : BA) ++ x1).size) 9223372036854775807) then
      c1 (v0 ++ ((⟨#[44]⟩ : BA) ++ x1)) v1 v2 (w64 (v3 + 1))
     else
     none
    else
    none
   else
   none
  else
  none
 else
 some (v0)
def d1 (v0 : BA) (v1 : List BA) (v2 v3 : Int) (c1 : t1) : Option R := o1 N v0 v1 v2 v3 c1
theorem d1.run (Kn122 : QQ) (v0 : BA) (v1 : List BA) (v2 v3 : Int) : runC C (O N) N (c 244) 244 (s1 v0 v1 v2 v3) (K244 N Kn122) = d1 N v0 v1 v2 v3 (Kn122 <| s1 · · · ·) := by kernel_rfl
def K122 : Ex → QQ := (blockK 0 (onN (tk C (O N) N c 30 31 K0) K0))
def l1 (N : Nat) : Nat → BA → (List BA) → Int → Int → Option R
  | 0, _, _, _, _ => none
  | n + 1, v0, v1, v2, v3 => d1 N v0 v1 v2 v3 (l1 N n · · · ·)
theorem loop122 (N : Nat) : ∀ n, (∀ (v0 : BA) (v1 : List BA) (v2 v3 : Int), iter (loopF C (O N) N (c 244) 122) n (s1 v0 v1 v2 v3) (K122 N) = l1 N n v0 v1 v2 v3)
  | 0 => (by intros; rfl)
  | n + 1 => (fun v0 v1 v2 v3 => (d1.run N (fun s => iter (loopF C (O N) N (c 244) 122) n s (K122 N)) v0 v1 v2 v3).trans (show _ = d1 N v0 v1 v2 v3 (l1 N n · · · ·) from (congr rfl (fx4 ((loop122 N n))))))
def o0 (N : Nat) (a0 : List BA) (c1 : t1) : Option R :=
 bif ((a0.length : Int) == 0) then
  some ((⟨#[45]⟩ : BA))
 else
 bif (decide (0 < (a0.length : Int))) then
  (a0[(0 : Int).toNat]?).bind fun x1 =>
  bif (decide (0 ≤ (a0.length : Int))) then
   bif (decide ((a0.length : Int) ≤ (a0.length : Int))) then
    bif (decide (1 ≤ (a0.length : Int))) then
     c1 x1 ((a0.take ((a0.length : Int) : Int).toNat).drop (1 : Int).toNat) (((a0.take ((a0.length : Int) : Int).toNat).drop (1 : Int).toNat).length : Int) 0
    else
    none
   else
   none
  else
  none
 else
 none
theorem o0.run (H244 : Code) (a0 : List BA) : runC C (O N) N (.seq (c 2) (.seq (c 6) (.seq (c 14) (.seq (.seq (c 60) (.block 0 (.loop H244))) (c 31))))) 1 (st0 [.one (.sl false 9 a0)] [] : St D0) K0 = o0 N a0 ((fun w0 w1 w2 w3 => iter (loopF C (O N) N H244 122) N (s1 w0 w1 w2 w3) (blockK 0 (onN (tk C (O N) N c 30 31 K0) K0)))) := by kernel_rfl
def g (a0 : List BA) : Option R := o0 N a0 (l1 N N · · · ·)
theorem c1_0 : (c 1) = (.seq (c 2) (.seq (c 6) (.seq (c 14) (.seq (.seq (c 60) (.block 0 (.loop (c 244)))) (c 31))))) := by kernel_rfl
theorem g.run (a0 : List BA) : runC C (O N) N (c 1) 1 (st0 [.one (.sl false 9 a0)] [] : St D0) K0 = g N a0 := by
  rw [c1_0]; unfold g; exact (o0.run N (c 244) a0).trans (congr rfl (fx4 ((loop122 N N))))
def ent : Ent Tryz.prog T0 := mkEntC C tabOk0 mixed0 143 [(false, [.ro 9])] sig (E N) Tryz.func143 (by kernel_rfl) [(false, [.any])] N (fun t => g N t) (fun _ => by kernel_rfl) (fun t => g.run N t)
end zq138
namespace zq140
variable (N : Nat)
abbrev R : Type := BA
abbrev QQ : Type := St D0 → Option R
abbrev sig : Sig := ⟨[(false, 1), (false, 1)], [], [.sl false 25, .bool], [(false, 1)], [], [.str]⟩
noncomputable def C : Cfg D0 := ⟨Tryz.prog, T0, 16051, 0, 24, 0, [(122, [5, 10, 11, 12], [])], 4194560, false, []⟩
def E : List (Ent Tryz.prog T0) := [zq139.ent N, zq138.ent N]
def O : Orc D0 R := orcOf (E N)
def K0 : Ex → QQ := exitK C Tryz.f132.results.toList [(false, [.any])] (decOut sig)
noncomputable def c (p : Nat) : Code := codeAt (Tryz.f132.body.getD .skip) (pathN p)
abbrev t1 : Type := (List S25) → Int → Int → Option R
abbrev t2 : Type := (List BA) → (List S25) → Int → Int → Option R
def s1 (v0 : List S25) (v1 v2 : Int) : St D0 := mkSt [(5, .one (.nl)), (10, .one (.sl false 25 v0)), (11, .one (.i v1)), (12, .one (.i v2))] []
def s2 (v0 : List BA) (v1 : List S25) (v2 v3 : Int) : St D0 := mkSt [(5, .one (.sl true 9 v0)), (10, .one (.sl false 25 v1)), (11, .one (.i v2)), (12, .one (.i v3))] []
def K244 (Kn122 : QQ) : Ex → QQ := ((fun up => (onN (fun s => C.tidy 122 s ((onN Kn122 up) .normal)) (onN Kn122 up))) (blockK 0 (onN (tk C (O N) N c 30 31 K0) K0)))
def o1 (v0 : List S25) (v1 v2 : Int) (c2 : t2) : Option R :=
 bif (decide (v2 < v1)) then
  bif (decide (0 ≤ v2)) then
   bif (decide (v2 < (v0.length : Int))) then
    (v0[(v2 : Int).toNat]?).bind fun x1 =>
    (zq139.g N x1.f0 x1.f1 true).bind fun r2 =>
    bif (Nat.blt (([] : List BA).length + ([r2] : List BA).length) 8796093022208) then
     c2 (([] : List BA) ++ ([r2] : List BA)) v0 v1 (w64 (v2 + 1))
    else
    none
   else
   none
  else
  none
 else
 (zq138.g N ([] : List BA)).bind fun r3 =>
 some (r3)
def d1 (v0 : List S25) (v1 v2 : Int) (c2 : t2) : Option R := o1 N v0 v1 v2 c2
theorem d1.run (Kn122 : QQ) (v0 : List S25) (v1 v2 : Int) : runC C (O N) N (c 244) 244 (s1 v0 v1 v2) (K244 N Kn122) = d1 N v0 v1 v2 (Kn122 <| s2 · · · ·) := by kernel_rfl
def o2 (v0 : List BA) (v1 : List S25) (v2 v3 : Int) (c2 : t2) : Option R :=
 bif (decide (v3 < v2)) then
  bif (decide (0 ≤ v3)) then
   bif (decide (v3 < (v1.length : Int))) then
    (v1[(v3 : Int).toNat]?).bind fun x1 =>
    (zq139.g N x1.f0 x1.f1 true).bind fun r2 =>
    bif (Nat.blt (v0.length + ([r2] : List BA).length) 8796093022208) then
     c2 (v0 ++ ([r2] : List BA)) v1 v2 (w64 (v3 + 1))
    else
    none
   else
   none
  else
  none
 else
 (zq138.g N v0).bind fun r3 =>
 some (r3)
def d2 (v0 : List BA) (v1 : List S25) (v2 v3 : Int) (c2 : t2) : Option R := o2 N v0 v1 v2 v3 c2
theorem d2.run (Kn122 : QQ) (v0 : List BA) (v1 : List S25) (v2 v3 : Int) : runC C (O N) N (c 244) 244 (s2 v0 v1 v2 v3) (K244 N Kn122) = d2 N v0 v1 v2 v3 (Kn122 <| s2 · · · ·) := by kernel_rfl
def K122 : Ex → QQ := (blockK 0 (onN (tk C (O N) N c 30 31 K0) K0))
mutual
def l1 (N : Nat) : Nat → (List S25) → Int → Int → Option R
  | 0, _, _, _ => none
  | n + 1, v0, v1, v2 => d1 N v0 v1 v2 (l2 N n · · · ·)
def l2 (N : Nat) : Nat → (List BA) → (List S25) → Int → Int → Option R
  | 0, _, _, _, _ => none
  | n + 1, v0, v1, v2, v3 => d2 N v0 v1 v2 v3 (l2 N n · · · ·)
end
theorem loop122 (N : Nat) : ∀ n, (∀ (v0 : List S25) (v1 v2 : Int), iter (loopF C (O N) N (c 244) 122) n (s1 v0 v1 v2) (K122 N) = l1 N n v0 v1 v2) ∧ (∀ (v0 : List BA) (v1 : List S25) (v2 v3 : Int), iter (loopF C (O N) N (c 244) 122) n (s2 v0 v1 v2 v3) (K122 N) = l2 N n v0 v1 v2 v3)
  | 0 => ⟨(by intros; rfl), (by intros; rfl)⟩
  | n + 1 => ⟨(fun v0 v1 v2 => (d1.run N (fun s => iter (loopF C (O N) N (c 244) 122) n s (K122 N)) v0 v1 v2).trans (show _ = d1 N v0 v1 v2 (l2 N n · · · ·) from (congr rfl (fx4 ((loop122 N n).2))))), (fun v0 v1 v2 v3 => (d2.run N (fun s => iter (loopF C (O N) N (c 244) 122) n s (K122 N)) v0 v1 v2 v3).trans (show _ = d2 N v0 v1 v2 v3 (l2 N n · · · ·) from (congr rfl (fx4 ((loop122 N n).2)))))⟩
def o0 (N : Nat) (a0 : List S25) (a1 : Bool) (c1 : t1) : Option R :=
 bif (!a1) then
  some ((⟨#[110, 111]⟩ : BA))
 else
 c1 a0 (a0.length : Int) 0
theorem o0.run (H244 : Code) (a0 : List S25) (a1 : Bool) : runC C (O N) N (.seq (c 2) (.seq (c 6) (.seq (c 14) (.seq (.seq (c 60) (.block 0 (.loop H244))) (c 31))))) 1 (st0 [.one (.sl false 25 a0), .one (.bool a1)] [] : St D0) K0 = o0 N a0 a1 ((fun w0 w1 w2 => iter (loopF C (O N) N H244 122) N (s1 w0 w1 w2) (blockK 0 (onN (tk C (O N) N c 30 31 K0) K0)))) := by kernel_rfl
def g (a0 : List S25) (a1 : Bool) : Option R := o0 N a0 a1 (l1 N N · · ·)
theorem c1_0 : (c 1) = (.seq (c 2) (.seq (c 6) (.seq (c 14) (.seq (.seq (c 60) (.block 0 (.loop (c 244)))) (c 31))))) := by kernel_rfl
theorem g.run (a0 : List S25) (a1 : Bool) : runC C (O N) N (c 1) 1 (st0 [.one (.sl false 25 a0), .one (.bool a1)] [] : St D0) K0 = g N a0 a1 := by
  rw [c1_0]; unfold g; exact (o0.run N (c 244) a0 a1).trans (congr rfl (fx3 ((loop122 N N).1)))
def ent : Ent Tryz.prog T0 := mkEntC C tabOk0 mixed0 132 [(false, [.ro 25]), (false, [.any])] sig (E N) Tryz.func132 (by kernel_rfl) [(false, [.any])] N (fun t => g N t.1 t.2) (fun _ => by kernel_rfl) (fun t => g.run N t.1 t.2)
end zq140
namespace zq47
variable (N : Nat)
abbrev R : Type := BA × Bool
abbrev QQ : Type := St D0 → Option R
abbrev sig : Sig := ⟨[(false, 1), (false, 1), (false, 1)], [], [.i, .i, .i], [(false, 1), (false, 1)], [], [.str, .bool]⟩
noncomputable def C : Cfg D0 := ⟨Tryz.prog, T0, 31463367, 0, 44, 0, [(122, [9, 10, 21, 22, 23], [])], 2207881740288, false, []⟩
def E : List (Ent Tryz.prog T0) := [zq5.ent N, zq184.ent N, zq65.ent N]
def O : Orc D0 R := orcOf (E N)
def K0 : Ex → QQ := exitK C Tryz.f114.results.toList [(false, [.any]), (false, [.any])] (decOut sig)
noncomputable def c (p : Nat) : Code := codeAt (Tryz.f114.body.getD .skip) (pathN p)
abbrev t1 : Type := Bool → (List BA) → (List ((List Int))) → Int → Int → Option R
def s1 (v0 : Bool) (v1 : List BA) (v2 : List ((List Int))) (v3 v4 : Int) : St D0 := mkSt [(9, .one (.bool v0)), (10, .one (.sl true 9 v1)), (21, .one (.sl true 43 v2)), (22, .one (.i v3)), (23, .one (.i v4))] []
def K244 (Kn122 : QQ) : Ex → QQ := ((fun up => (onN (fun s => C.tidy 122 s ((onN Kn122 up) .normal)) (onN Kn122 up))) (blockK 0 (onN (tk C (O N) N c 30 31 K0) K0)))
def o1 (v0 : Bool) (v1 : List BA) (v2 : List ((List Int))) (v3 v4 : Int) (c1 : t1) : Option R :=
 bif (decide (v4 < v3)) then
  bif (decide (0 ≤ v4)) then
   bif (decide (v4 < (v2.length : Int))) then
    (v2[(v4 : Int).toNat]?).bind fun x1 =>
    bif (decide (0 < (x1.length : Int))) then
     (x1[(0 : Int).toNat]?).bind fun x2 =>
     (zq184.g N x2).bind fun r3 =>
     bif (Nat.ble (r3.size + (⟨#[47]⟩ : BA).size) 9223372036854775807) then
      bif (decide (1 < (x1.length : Int))) then
       (x1[(1 : Int).toNat]?).bind fun x4 =>
       (zq184.g N x4).bind fun r5 =>
       bif (Nat.ble ((r3 ++ (⟨#[47]⟩ : BA)).size + r5.size) 9223372036854775807) then
        bif (Nat.blt (v1.length + ([((r3 ++ (⟨#[47]⟩ : BA)) ++ r5)] : List BA).length) 8796093022208) then
         c1 v0 (v1 ++ ([((r3 ++ (⟨#[47]⟩ : BA)) ++ r5)] : List BA)) v2 v3 (w64 (v4 + 1))
        else
        none
       else
       none
      else
      none
     else
     none
    else
    none
   else
   none
  else
  none
 else
 (zq65.g N v1).bind fun r6 =>
 some (r6, v0)
def d1 (v0 : Bool) (v1 : List BA) (v2 : List ((List Int))) (v3 v4 : Int) (c1 : t1) : Option R := o1 N v0 v1 v2 v3 v4 c1
theorem d1.run (Kn122 : QQ) (v0 : Bool) (v1 : List BA) (v2 : List ((List Int))) (v3 v4 : Int) : runC C (O N) N (c 244) 244 (s1 v0 v1 v2 v3 v4) (K244 N Kn122) = d1 N v0 v1 v2 v3 v4 (Kn122 <| s1 · · · · ·) := by kernel_rfl
def K122 : Ex → QQ := (blockK 0 (onN (tk C (O N) N c 30 31 K0) K0))
def l1 (N : Nat) : Nat → Bool → (List BA) → (List ((List Int))) → Int → Int → Option R
  | 0, _, _, _, _, _ => none
  | n + 1, v0, v1, v2, v3, v4 => d1 N v0 v1 v2 v3 v4 (l1 N n · · · · ·)
theorem loop122 (N : Nat) : ∀ n, (∀ (v0 : Bool) (v1 : List BA) (v2 : List ((List Int))) (v3 v4 : Int), iter (loopF C (O N) N (c 244) 122) n (s1 v0 v1 v2 v3 v4) (K122 N) = l1 N n v0 v1 v2 v3 v4)
  | 0 => (by intros; rfl)
  | n + 1 => (fun v0 v1 v2 v3 v4 => (d1.run N (fun s => iter (loopF C (O N) N (c 244) 122) n s (K122 N)) v0 v1 v2 v3 v4).trans (show _ = d1 N v0 v1 v2 v3 v4 (l1 N n · · · · ·) from (congr rfl (fx5 ((loop122 N n))))))
def o0 (a0 a1 a2 : Int) (c1 : t1) : Option R :=
 (zq5.g N a0 a1 a2).bind fun r1 =>
 c1 r1.2 ([] : List BA) r1.1 (r1.1.length : Int) 0
theorem o0.run (H244 : Code) (a0 a1 a2 : Int) : runC C (O N) N (.seq (c 2) (.seq (c 6) (.seq (c 14) (.seq (.seq (c 60) (.block 0 (.loop H244))) (c 31))))) 1 (st0 [.one (.i a0), .one (.i a1), .one (.i a2)] [] : St D0) K0 = o0 N a0 a1 a2 ((fun w0 w1 w2 w3 w4 => iter (loopF C (O N) N H244 122) N (s1 w0 w1 w2 w3 w4) (blockK 0 (onN (tk C (O N) N c 30 31 K0) K0)))) := by kernel_rfl
def g (a0 a1 a2 : Int) : Option R := o0 N a0 a1 a2 (l1 N N · · · · ·)
theorem c1_0 : (c 1) = (.seq (c 2) (.seq (c 6) (.seq (c 14) (.seq (.seq (c 60) (.block 0 (.loop (c 244)))) (c 31))))) := by kernel_rfl
theorem g.run (a0 a1 a2 : Int) : runC C (O N) N (c 1) 1 (st0 [.one (.i a0), .one (.i a1), .one (.i a2)] [] : St D0) K0 = g N a0 a1 a2 := by
  rw [c1_0]; unfold g; exact (o0.run N (c 244) a0 a1 a2).trans (congr rfl (fx5 ((loop122 N N))))
def ent : Ent Tryz.prog T0 := mkEntC C tabOk0 mixed0 114 [(false, [.any]), (false, [.any]), (false, [.any])] sig (E N) Tryz.func114 (by kernel_rfl) [(false, [.any]), (false, [.any])] N (fun t => g N t.1 t.2.1 t.2.2) (fun _ => by kernel_rfl) (fun t => g.run N t.1 t.2.1 t.2.2)
end zq47
namespace zq66
variable (N : Nat)
abbrev R : Type := BA × Bool
abbrev sig : Sig := ⟨[(false, 1)], [], [.i], [(false, 1), (false, 1)], [], [.str, .bool]⟩
noncomputable def C : Cfg D0 := ⟨Tryz.prog, T0, 4157, 0, 15, 0, [], 256, false, []⟩
def E : List (Ent Tryz.prog T0) := [zq17.ent N]
def O : Orc D0 R := orcOf (E N)
def K0 : Ex → St D0 → Option R := exitK C Tryz.f113.results.toList [(false, [.any]), (false, [.any])] (decOut sig)
noncomputable def c (p : Nat) : Code := codeAt (Tryz.f113.body.getD .skip) (pathN p)
def o0 (a0 : Int) : Option R :=
 (zq17.g N 4 100 400 a0).bind fun r1 =>
 bif r1.1 then
  some ((⟨#[121, 101, 115]⟩ : BA), r1.2)
 else
 some ((⟨#[110, 111, 116]⟩ : BA), r1.2)
def g (a0 : Int) : Option R := o0 N a0
theorem g.run (a0 : Int) : runC C (O N) N (c 1) 1 (st0 [.one (.i a0)] [] : St D0) K0 = g N a0 := by kernel_rfl
def ent : Ent Tryz.prog T0 := mkEntC C tabOk0 mixed0 113 [(false, [.any])] sig (E N) Tryz.func113 (by kernel_rfl) [(false, [.any]), (false, [.any])] N (fun t => g N t) (fun _ => by kernel_rfl) (fun t => g.run N t)
end zq66
namespace zq131
variable (N : Nat)
abbrev R : Type := Int × Int × Bool × Int × Int × Int × Int × Int × Int × Int × BA × Int × Int × List Int
abbrev sig : Sig := ⟨[(false, 1)], [(104, 11)], [.ptr 0 0, .i, .i, .i, .i, .i, .i, .i, .str, .i, .i, .sl true 3], [(true, 2), (false, 1)], [(104, 11)], [.i, .i, .bool, .i, .i, .i, .i, .i, .i, .i, .str, .i, .i, .sl true 3]⟩
noncomputable def C : Cfg D0 := ⟨Tryz.prog, T0, 13, 0, 19, 1, [], 394256, false, []⟩
def E : List (Ent Tryz.prog T0) := [zq119.ent N]
def O : Orc D0 R := orcOf (E N)
def K0 : Ex → St D0 → Option R := exitK C Tryz.f122.results.toList [(true, [.any, .any]), (false, [.any])] (decOut sig)
noncomputable def c (p : Nat) : Code := codeAt (Tryz.f122.body.getD .skip) (pathN p)
def o0 (b0_0 b0_1 b0_2 b0_3 b0_4 b0_5 b0_6 : Int) (b0_7 : BA) (b0_8 b0_9 : Int) (b0_10 : List Int) : Option R :=
 bif (decide (0 < (b0_10.length : Int))) then
  (b0_10[(0 : Int).toNat]?).bind fun x1 =>
  bif (decide (1 < (b0_10.length : Int))) then
   (b0_10[(1 : Int).toNat]?).bind fun x2 =>
   (zq119.g N x1 x2).bind fun r3 =>
   some (r3.1, r3.2.1, r3.2.2, b0_0, b0_1, b0_2, b0_3, b0_4, b0_5, b0_6, b0_7, b0_8, b0_9, b0_10)
  else
  none
 else
 none
def g (b0_0 b0_1 b0_2 b0_3 b0_4 b0_5 b0_6 : Int) (b0_7 : BA) (b0_8 b0_9 : Int) (b0_10 : List Int) : Option R := o0 N b0_0 b0_1 b0_2 b0_3 b0_4 b0_5 b0_6 b0_7 b0_8 b0_9 b0_10
theorem g.run (b0_0 b0_1 b0_2 b0_3 b0_4 b0_5 b0_6 : Int) (b0_7 : BA) (b0_8 b0_9 : Int) (b0_10 : List Int) : runC C (O N) N (c 1) 1 (st0 [.one (.ptr 0 0)] [(104, [.i b0_0, .i b0_1, .i b0_2, .i b0_3, .i b0_4, .i b0_5, .i b0_6, .str b0_7, .i b0_8, .i b0_9, .sl true 3 b0_10])] : St D0) K0 = g N b0_0 b0_1 b0_2 b0_3 b0_4 b0_5 b0_6 b0_7 b0_8 b0_9 b0_10 := by kernel_rfl
def ent : Ent Tryz.prog T0 := mkEntC C tabOk0 mixed0 122 [(false, [.any])] sig (E N) Tryz.func122 (by kernel_rfl) [(true, [.any, .any]), (false, [.any])] N (fun t => g N t.2.1 t.2.2.1 t.2.2.2.1 t.2.2.2.2.1 t.2.2.2.2.2.1 t.2.2.2.2.2.2.1 t.2.2.2.2.2.2.2.1 t.2.2.2.2.2.2.2.2.1 t.2.2.2.2.2.2.2.2.2.1 t.2.2.2.2.2.2.2.2.2.2.1 t.2.2.2.2.2.2.2.2.2.2.2) (fun _ => by kernel_rfl) (fun t => g.run N t.2.1 t.2.2.1 t.2.2.2.1 t.2.2.2.2.1 t.2.2.2.2.2.1 t.2.2.2.2.2.2.1 t.2.2.2.2.2.2.2.1 t.2.2.2.2.2.2.2.2.1 t.2.2.2.2.2.2.2.2.2.1 t.2.2.2.2.2.2.2.2.2.2.1 t.2.2.2.2.2.2.2.2.2.2.2)
end zq131
namespace zq129
variable (N : Nat)
abbrev R : Type := BA × Int × Int × Int × Int × Int × Int × Int × BA × Int × Int × List Int
abbrev QQ : Type := St D0 → Option R
abbrev sig : Sig := ⟨[(false, 1), (false, 1)], [(104, 11)], [.ptr 0 0, .str, .i, .i, .i, .i, .i, .i, .i, .str, .i, .i, .sl true 3], [(false, 1)], [(104, 11)], [.str, .i, .i, .i, .i, .i, .i, .i, .str, .i, .i, .sl true 3]⟩
noncomputable def C : Cfg D0 := ⟨Tryz.prog, T0, 12161884625465431724725762432730734338507939197070207350771, 0, 211, 1, [(1018, [18, 189, 190, 191], [0])], 826066932045095000404492311065662602368460996281234667847286784, false, []⟩
def E : List (Ent Tryz.prog T0) := [zq154.ent N, zq139.ent N, zq118.ent N, zq106.ent N, zq124.ent N, zq131.ent N, zq127.ent N, zq140.ent N, zq123.ent N, zq105.ent N, zq115.ent N, zq136.ent N, zq121.ent N, zq108.ent N, zq175.ent N, zq125.ent N, zq116.ent N, zq107.ent N, zq138.ent N]
def O : Orc D0 R := orcOf (E N)
def K0 : Ex → QQ := exitK C Tryz.f76.results.toList [(false, [.any])] (decOut sig)
noncomputable def c (p : Nat) : Code := codeAt (Tryz.f76.body.getD .skip) (pathN p)
abbrev t1 : Type := (List ((List Int))) → Int → Int → Int → Int → Int → Int → Int → Int → Int → BA → Int → Int → (List Int) → Option R
abbrev t2 : Type := (List BA) → (List ((List Int))) → Int → Int → Int → Int → Int → Int → Int → Int → Int → BA → Int → Int → (List Int) → Option R
def s1 (v0 : List ((List Int))) (v1 v2 v3 v4 v5 v6 v7 v8 v9 : Int) (v10 : BA) (v11 v12 : Int) (v13 : List Int) : St D0 := mkSt [(18, .one (.nl)), (189, .one (.sl false 43 v0)), (190, .one (.i v1)), (191, .one (.i v2))] [(0, some (104, [.i v3, .i v4, .i v5, .i v6, .i v7, .i v8, .i v9, .str v10, .i v11, .i v12, .sl true 3 v13]))]
def s2 (v0 : List BA) (v1 : List ((List Int))) (v2 v3 v4 v5 v6 v7 v8 v9 v10 : Int) (v11 : BA) (v12 v13 : Int) (v14 : List Int) : St D0 := mkSt [(18, .one (.sl true 9 v0)), (189, .one (.sl false 43 v1)), (190, .one (.i v2)), (191, .one (.i v3))] [(0, some (104, [.i v4, .i v5, .i v6, .i v7, .i v8, .i v9, .i v10, .str v11, .i v12, .i v13, .sl true 3 v14]))]
def K2036 (Kn1018 : QQ) : Ex → QQ := ((fun up => (onN (fun s => C.tidy 1018 s ((onN Kn1018 up) .normal)) (onN Kn1018 up))) (blockK 2 (onN (tk C (O N) N c 254 255 K0) K0)))
def o1 (v0 : List ((List Int))) (v1 v2 v3 v4 v5 v6 v7 v8 v9 : Int) (v10 : BA) (v11 v12 : Int) (v13 : List Int) (c2 : t2) : Option R :=
 bif (decide (v2 < v1)) then
  bif (decide (0 ≤ v2)) then
   bif (decide (v2 < (v0.length : Int))) then
    (v0[(v2 : Int).toNat]?).bind fun x1 =>
    bif (decide (0 < (x1.length : Int))) then
     (x1[(0 : Int).toNat]?).bind fun x2 =>
     (zq175.g N x2).bind fun r3 =>
     bif (Nat.ble (r3.size + (⟨#[47]⟩ : BA).size) 9223372036854775807) then
      bif (decide (1 < (x1.length : Int))) then
       (x1[(1 : Int).toNat]?).bind fun x4 =>
       (zq175.g N x4).bind fun r5 =>
       bif (Nat.ble ((r3 ++ (⟨#[47]⟩ : BA)).size + r5.size) 9223372036854775807) then
        bif (Nat.blt (([] : List BA).length + ([((r3 ++ (⟨#[47]⟩ : BA)) ++ r5)] : List BA).length) 8796093022208) then
         c2 (([] : List BA) ++ ([((r3 ++ (⟨#[47]⟩ : BA)) ++ r5)] : List BA)) v0 v1 (w64 (v2 + 1)) v3 v4 v5 v6 v7 v8 v9 v10 v11 v12 v13
        else
        none
       else
       none
      else
      none
     else
     none
    else
    none
   else
   none
  else
  none
 else
 (zq138.g N ([] : List BA)).bind fun r6 =>
 some (r6, v3, v4, v5, v6, v7, v8, v9, v10, v11, v12, v13)
def d1 (v0 : List ((List Int))) (v1 v2 v3 v4 v5 v6 v7 v8 v9 : Int) (v10 : BA) (v11 v12 : Int) (v13 : List Int) (c2 : t2) : Option R := o1 N v0 v1 v2 v3 v4 v5 v6 v7 v8 v9 v10 v11 v12 v13 c2
theorem d1.run (Kn1018 : QQ) (v0 : List ((List Int))) (v1 v2 v3 v4 v5 v6 v7 v8 v9 : Int) (v10 : BA) (v11 v12 : Int) (v13 : List Int) : runC C (O N) N (c 2036) 2036 (s1 v0 v1 v2 v3 v4 v5 v6 v7 v8 v9 v10 v11 v12 v13) (K2036 N Kn1018) = d1 N v0 v1 v2 v3 v4 v5 v6 v7 v8 v9 v10 v11 v12 v13 (Kn1018 <| s2 · · · · · · · · · · · · · · ·) := by kernel_rfl
def o2 (v0 : List BA) (v1 : List ((List Int))) (v2 v3 v4 v5 v6 v7 v8 v9 v10 : Int) (v11 : BA) (v12 v13 : Int) (v14 : List Int) (c2 : t2) : Option R :=
 bif (decide (v3 < v2)) then
  bif (decide (0 ≤ v3)) then
   bif (decide (v3 < (v1.length : Int))) then
    (v1[(v3 : Int).toNat]?).bind fun x1 =>
    bif (decide (0 < (x1.length : Int))) then
     (x1[(0 : Int).toNat]?).bind fun x2 =>
     (zq175.g N x2).bind fun r3 =>
     bif (Nat.ble (r3.size + (⟨#[47]⟩ : BA).size) 9223372036854775807) then
      bif (decide (1 < (x1.length : Int))) then
       (x1[(1 : Int).toNat]?).bind fun x4 =>
       (zq175.g N x4).bind fun r5 =>
       bif (Nat.ble ((r3 ++ (⟨#[47]⟩ : BA)).size + r5.size) 9223372036854775807) then
        bif (Nat.blt (v0.length + ([((r3 ++ (⟨#[47]⟩ : BA)) ++ r5)] : List BA).length) 8796093022208) then
         c2 (v0 ++ ([((r3 ++ (⟨#[47]⟩ : BA)) ++ r5)] : List BA)) v1 v2 (w64 (v3 + 1)) v4 v5 v6 v7 v8 v9 v10 v11 v12 v13 v14
        else
        none
       else
       none
      else
      none
     else
     none
    else
    none
   else
   none
  else
  none
 else
 (zq138.g N v0).bind fun r6 =>
 some (r6, v4, v5, v6, v7, v8, v9, v10, v11, v12, v13, v14)
def d2 (v0 : List BA) (v1 : List ((List Int))) (v2 v3 v4 v5 v6 v7 v8 v9 v10 : Int) (v11 : BA) (v12 v13 : Int) (v14 : List Int) (c2 : t2) : Option R := o2 N v0 v1 v2 v3 v4 v5 v6 v7 v8 v9 v10 v11 v12 v13 v14 c2
theorem d2.run (Kn1018 : QQ) (v0 : List BA) (v1 : List ((List Int))) (v2 v3 v4 v5 v6 v7 v8 v9 v10 : Int) (v11 : BA) (v12 v13 : Int) (v14 : List Int) : runC C (O N) N (c 2036) 2036 (s2 v0 v1 v2 v3 v4 v5 v6 v7 v8 v9 v10 v11 v12 v13 v14) (K2036 N Kn1018) = d2 N v0 v1 v2 v3 v4 v5 v6 v7 v8 v9 v10 v11 v12 v13 v14 (Kn1018 <| s2 · · · · · · · · · · · · · · ·) := by kernel_rfl
def K1018 : Ex → QQ := (blockK 2 (onN (tk C (O N) N c 254 255 K0) K0))
mutual
def l1 (N : Nat) : Nat → (List ((List Int))) → Int → Int → Int → Int → Int → Int → Int → Int → Int → BA → Int → Int → (List Int) → Option R
  | 0, _, _, _, _, _, _, _, _, _, _, _, _, _, _ => none
  | n + 1, v0, v1, v2, v3, v4, v5, v6, v7, v8, v9, v10, v11, v12, v13 => d1 N v0 v1 v2 v3 v4 v5 v6 v7 v8 v9 v10 v11 v12 v13 (l2 N n · · · · · · · · · · · · · · ·)
def l2 (N : Nat) : Nat → (List BA) → (List ((List Int))) → Int → Int → Int → Int → Int → Int → Int → Int → Int → BA → Int → Int → (List Int) → Option R
  | 0, _, _, _, _, _, _, _, _, _, _, _, _, _, _, _ => none
  | n + 1, v0, v1, v2, v3, v4, v5, v6, v7, v8, v9, v10, v11, v12, v13, v14 => d2 N v0 v1 v2 v3 v4 v5 v6 v7 v8 v9 v10 v11 v12 v13 v14 (l2 N n · · · · · · · · · · · · · · ·)
end
theorem loop1018 (N : Nat) : ∀ n, (∀ (v0 : List ((List Int))) (v1 v2 v3 v4 v5 v6 v7 v8 v9 : Int) (v10 : BA) (v11 v12 : Int) (v13 : List Int), iter (loopF C (O N) N (c 2036) 1018) n (s1 v0 v1 v2 v3 v4 v5 v6 v7 v8 v9 v10 v11 v12 v13) (K1018 N) = l1 N n v0 v1 v2 v3 v4 v5 v6 v7 v8 v9 v10 v11 v12 v13) ∧ (∀ (v0 : List BA) (v1 : List ((List Int))) (v2 v3 v4 v5 v6 v7 v8 v9 v10 : Int) (v11 : BA) (v12 v13 : Int) (v14 : List Int), iter (loopF C (O N) N (c 2036) 1018) n (s2 v0 v1 v2 v3 v4 v5 v6 v7 v8 v9 v10 v11 v12 v13 v14) (K1018 N) = l2 N n v0 v1 v2 v3 v4 v5 v6 v7 v8 v9 v10 v11 v12 v13 v14)
  | 0 => ⟨(by intros; rfl), (by intros; rfl)⟩
  | n + 1 => ⟨(fun v0 v1 v2 v3 v4 v5 v6 v7 v8 v9 v10 v11 v12 v13 => (d1.run N (fun s => iter (loopF C (O N) N (c 2036) 1018) n s (K1018 N)) v0 v1 v2 v3 v4 v5 v6 v7 v8 v9 v10 v11 v12 v13).trans (show _ = d1 N v0 v1 v2 v3 v4 v5 v6 v7 v8 v9 v10 v11 v12 v13 (l2 N n · · · · · · · · · · · · · · ·) from (congr rfl (fx15 ((loop1018 N n).2))))), (fun v0 v1 v2 v3 v4 v5 v6 v7 v8 v9 v10 v11 v12 v13 v14 => (d2.run N (fun s => iter (loopF C (O N) N (c 2036) 1018) n s (K1018 N)) v0 v1 v2 v3 v4 v5 v6 v7 v8 v9 v10 v11 v12 v13 v14).trans (show _ = d2 N v0 v1 v2 v3 v4 v5 v6 v7 v8 v9 v10 v11 v12 v13 v14 (l2 N n · · · · · · · · · · · · · · ·) from (congr rfl (fx15 ((loop1018 N n).2)))))⟩
def o0 (a1 : BA) (b0_0 b0_1 b0_2 b0_3 b0_4 b0_5 b0_6 : Int) (b0_7 : BA) (b0_8 b0_9 : Int) (b0_10 : List Int) (c1 : t1) : Option R :=
 bif (a1.toList == (⟨#[115, 104, 111, 119]⟩ : BA).toList) then
  (zq154.g N b0_0 b0_1 b0_2).bind fun r1 =>
  some (r1, b0_0, b0_1, b0_2, b0_3, b0_4, b0_5, b0_6, b0_7, b0_8, b0_9, b0_10)
 else
 bif (a1.toList == (⟨#[119, 104, 101, 114, 101]⟩ : BA).toList) then
  (zq139.g N b0_1 b0_2 true).bind fun r2 =>
  some (r2, b0_0, b0_1, b0_2, b0_3, b0_4, b0_5, b0_6, b0_7, b0_8, b0_9, b0_10)
 else
 bif (a1.toList == (⟨#[108, 111, 110, 103]⟩ : BA).toList) then
  (zq118.g N b0_0 b0_1 b0_2).bind fun r3 =>
  (zq139.g N r3.1 r3.2.1 r3.2.2).bind fun r4 =>
  some (r4, b0_0, b0_1, b0_2, b0_3, b0_4, b0_5, b0_6, b0_7, b0_8, b0_9, b0_10)
 else
 bif (a1.toList == (⟨#[97, 110, 103, 108, 101]⟩ : BA).toList) then
  (zq106.g N b0_0 b0_1 b0_2).bind fun r5 =>
  (zq139.g N r5.1 r5.2.1 r5.2.2).bind fun r6 =>
  some (r6, b0_0, b0_1, b0_2, b0_3, b0_4, b0_5, b0_6, b0_7, b0_8, b0_9, b0_10)
 else
 bif (a1.toList == (⟨#[115, 109, 97, 108, 108]⟩ : BA).toList) then
  (zq124.g N b0_0 b0_1 b0_2).bind fun r7 =>
  (zq139.g N r7.1 r7.2.1 r7.2.2).bind fun r8 =>
  some (r8, b0_0, b0_1, b0_2, b0_3, b0_4, b0_5, b0_6, b0_7, b0_8, b0_9, b0_10)
 else
 bif (a1.toList == (⟨#[119, 105, 116, 104]⟩ : BA).toList) then
  (zq131.g N b0_0 b0_1 b0_2 b0_3 b0_4 b0_5 b0_6 b0_7 b0_8 b0_9 b0_10).bind fun r9 =>
  bif (!r9.2.2.1) then
   some ((⟨#[110, 111]⟩ : BA), r9.2.2.2.1, r9.2.2.2.2.1, r9.2.2.2.2.2.1, r9.2.2.2.2.2.2.1, r9.2.2.2.2.2.2.2.1, r9.2.2.2.2.2.2.2.2.1, r9.2.2.2.2.2.2.2.2.2.1, r9.2.2.2.2.2.2.2.2.2.2.1, r9.2.2.2.2.2.2.2.2.2.2.2.1, r9.2.2.2.2.2.2.2.2.2.2.2.2.1, r9.2.2.2.2.2.2.2.2.2.2.2.2.2)
  else
  (zq127.g N b0_0 r9.1 r9.2.1).bind fun r10 =>
  (zq140.g N r10.1 r10.2).bind fun r11 =>
  some (r11, r9.2.2.2.1, r9.2.2.2.2.1, r9.2.2.2.2.2.1, r9.2.2.2.2.2.2.1, r9.2.2.2.2.2.2.2.1, r9.2.2.2.2.2.2.2.2.1, r9.2.2.2.2.2.2.2.2.2.1, r9.2.2.2.2.2.2.2.2.2.2.1, r9.2.2.2.2.2.2.2.2.2.2.2.1, r9.2.2.2.2.2.2.2.2.2.2.2.2.1, r9.2.2.2.2.2.2.2.2.2.2.2.2.2)
 else
 bif (a1.toList == (⟨#[115, 104, 111, 119, 110]⟩ : BA).toList) then
  (zq123.g N b0_3 b0_4 b0_5 b0_6 b0_8 b0_9).bind fun r12 =>
  (zq139.g N r12.1 r12.2.1 r12.2.2).bind fun r13 =>
  some (r13, b0_0, b0_1, b0_2, b0_3, b0_4, b0_5, b0_6, b0_7, b0_8, b0_9, b0_10)
 else
 bif (a1.toList == (⟨#[97, 104, 101, 97, 100]⟩ : BA).toList) then
  (zq105.g N b0_3 b0_4 b0_5 b0_6 b0_8 b0_9).bind fun r14 =>
  (zq139.g N r14.1 r14.2.1 r14.2.2).bind fun r15 =>
  some (r15, b0_0, b0_1, b0_2, b0_3, b0_4, b0_5, b0_6, b0_7, b0_8, b0_9, b0_10)
 else
 bif (a1.toList == (⟨#[114, 105, 103, 104, 116]⟩ : BA).toList) then
  (zq115.g N b0_3 b0_4 b0_5 b0_6).bind fun r16 =>
  (zq136.g N r16.1 r16.2.1 r16.2.2).bind fun r17 =>
  some (r17, b0_0, b0_1, b0_2, b0_3, b0_4, b0_5, b0_6, b0_7, b0_8, b0_9, b0_10)
 else
 bif (a1.toList == (⟨#[101, 118, 101, 114, 121]⟩ : BA).toList) then
  (zq121.g N b0_3 b0_4 b0_5 b0_6).bind fun r18 =>
  (zq136.g N r18.1 r18.2.1 r18.2.2).bind fun r19 =>
  some (r19, b0_0, b0_1, b0_2, b0_3, b0_4, b0_5, b0_6, b0_7, b0_8, b0_9, b0_10)
 else
 bif (a1.toList == (⟨#[117, 110, 115, 117, 114, 101]⟩ : BA).toList) then
  (zq108.g N b0_0).bind fun r20 =>
  (zq175.g N r20.1).bind fun r21 =>
  some (r21, b0_0, b0_1, b0_2, b0_3, b0_4, b0_5, b0_6, b0_7, b0_8, b0_9, b0_10)
 else
 bif (a1.toList == (⟨#[111, 116, 104, 101, 114]⟩ : BA).toList) then
  bif (decide (0 < (b0_10.length : Int))) then
   (b0_10[(0 : Int).toNat]?).bind fun x22 =>
   (zq125.g N b0_0 x22 b0_1 b0_2).bind fun r23 =>
   bif (!r23.2) then
    some ((⟨#[110, 111]⟩ : BA), b0_0, b0_1, b0_2, b0_3, b0_4, b0_5, b0_6, b0_7, b0_8, b0_9, b0_10)
   else
   some (r23.1, b0_0, b0_1, b0_2, b0_3, b0_4, b0_5, b0_6, b0_7, b0_8, b0_9, b0_10)
  else
  none
 else
 bif (a1.toList == (⟨#[108, 101, 97, 112]⟩ : BA).toList) then
  bif (decide (0 < (b0_10.length : Int))) then
   (b0_10[(0 : Int).toNat]?).bind fun x24 =>
   (zq116.g N 4 100 400 x24).bind fun r25 =>
   bif (!r25.2) then
    some ((⟨#[110, 111]⟩ : BA), b0_0, b0_1, b0_2, b0_3, b0_4, b0_5, b0_6, b0_7, b0_8, b0_9, b0_10)
   else
   bif r25.1 then
    some ((⟨#[121, 101, 115]⟩ : BA), b0_0, b0_1, b0_2, b0_3, b0_4, b0_5, b0_6, b0_7, b0_8, b0_9, b0_10)
   else
   some ((⟨#[110, 111, 116]⟩ : BA), b0_0, b0_1, b0_2, b0_3, b0_4, b0_5, b0_6, b0_7, b0_8, b0_9, b0_10)
  else
  none
 else
 bif (decide (0 < (b0_10.length : Int))) then
  (b0_10[(0 : Int).toNat]?).bind fun x26 =>
  bif (decide (1 < (b0_10.length : Int))) then
   (b0_10[(1 : Int).toNat]?).bind fun x27 =>
   bif (decide (2 < (b0_10.length : Int))) then
    (b0_10[(2 : Int).toNat]?).bind fun x28 =>
    (zq107.g N x26 x27 x28).bind fun r29 =>
    bif (!r29.2) then
     some ((⟨#[110, 111]⟩ : BA), b0_0, b0_1, b0_2, b0_3, b0_4, b0_5, b0_6, b0_7, b0_8, b0_9, b0_10)
    else
    c1 r29.1 (r29.1.length : Int) 0 b0_0 b0_1 b0_2 b0_3 b0_4 b0_5 b0_6 b0_7 b0_8 b0_9 b0_10
   else
   none
  else
  none
 else
 none
theorem o0.run (H2036 : Code) (a1 : BA) (b0_0 b0_1 b0_2 b0_3 b0_4 b0_5 b0_6 : Int) (b0_7 : BA) (b0_8 b0_9 : Int) (b0_10 : List Int) : runC C (O N) N (.seq (c 2) (.seq (c 6) (.seq (c 14) (.seq (c 30) (.seq (c 62) (.seq (c 126) (.seq (.seq (c 508) (.block 2 (.loop H2036))) (c 255)))))))) 1 (st0 [.one (.ptr 0 0), .one (.str a1)] [(104, [.i b0_0, .i b0_1, .i b0_2, .i b0_3, .i b0_4, .i b0_5, .i b0_6, .str b0_7, .i b0_8, .i b0_9, .sl true 3 b0_10])] : St D0) K0 = o0 N a1 b0_0 b0_1 b0_2 b0_3 b0_4 b0_5 b0_6 b0_7 b0_8 b0_9 b0_10 ((fun w0 w1 w2 w3 w4 w5 w6 w7 w8 w9 w10 w11 w12 w13 => iter (loopF C (O N) N H2036 1018) N (s1 w0 w1 w2 w3 w4 w5 w6 w7 w8 w9 w10 w11 w12 w13) (blockK 2 (onN (tk C (O N) N c 254 255 K0) K0)))) := by kernel_rfl
def g (a1 : BA) (b0_0 b0_1 b0_2 b0_3 b0_4 b0_5 b0_6 : Int) (b0_7 : BA) (b0_8 b0_9 : Int) (b0_10 : List Int) : Option R := o0 N a1 b0_0 b0_1 b0_2 b0_3 b0_4 b0_5 b0_6 b0_7 b0_8 b0_9 b0_10 (l1 N N · · · · · · · · · · · · · ·)
theorem c1_0 : (c 1) = (.seq (c 2) (.seq (c 6) (.seq (c 14) (.seq (c 30) (.seq (c 62) (.seq (c 126) (.seq (.seq (c 508) (.block 2 (.loop (c 2036)))) (c 255)))))))) := by kernel_rfl
theorem g.run (a1 : BA) (b0_0 b0_1 b0_2 b0_3 b0_4 b0_5 b0_6 : Int) (b0_7 : BA) (b0_8 b0_9 : Int) (b0_10 : List Int) : runC C (O N) N (c 1) 1 (st0 [.one (.ptr 0 0), .one (.str a1)] [(104, [.i b0_0, .i b0_1, .i b0_2, .i b0_3, .i b0_4, .i b0_5, .i b0_6, .str b0_7, .i b0_8, .i b0_9, .sl true 3 b0_10])] : St D0) K0 = g N a1 b0_0 b0_1 b0_2 b0_3 b0_4 b0_5 b0_6 b0_7 b0_8 b0_9 b0_10 := by
  rw [c1_0]; unfold g; exact (o0.run N (c 2036) a1 b0_0 b0_1 b0_2 b0_3 b0_4 b0_5 b0_6 b0_7 b0_8 b0_9 b0_10).trans (congr rfl (fx14 ((loop1018 N N).1)))
def ent : Ent Tryz.prog T0 := mkEntC C tabOk0 mixed0 76 [(false, [.any]), (false, [.any])] sig (E N) Tryz.func76 (by kernel_rfl) [(false, [.any])] N (fun t => g N t.2.1 t.2.2.1 t.2.2.2.1 t.2.2.2.2.1 t.2.2.2.2.2.1 t.2.2.2.2.2.2.1 t.2.2.2.2.2.2.2.1 t.2.2.2.2.2.2.2.2.1 t.2.2.2.2.2.2.2.2.2.1 t.2.2.2.2.2.2.2.2.2.2.1 t.2.2.2.2.2.2.2.2.2.2.2.1 t.2.2.2.2.2.2.2.2.2.2.2.2) (fun _ => by kernel_rfl) (fun t => g.run N t.2.1 t.2.2.1 t.2.2.2.1 t.2.2.2.2.1 t.2.2.2.2.2.1 t.2.2.2.2.2.2.1 t.2.2.2.2.2.2.2.1 t.2.2.2.2.2.2.2.2.1 t.2.2.2.2.2.2.2.2.2.1 t.2.2.2.2.2.2.2.2.2.2.1 t.2.2.2.2.2.2.2.2.2.2.2.1 t.2.2.2.2.2.2.2.2.2.2.2.2)
end zq129
end Go.Proofs.YtdidghlibfopgaaGreatDoor.M
namespace Go.Proofs.YtdidghlibfopgaaGreatDoor.M
open Go Go.PM Go.Proofs.YtdidghlibfopgaaGreatDoor.P
set_option linter.unusedVariables false
set_option maxRecDepth 100000
open Go.RowKit Go.Lib
theorem zq188.asd {p : Prop} (h : p) : Aside p := h
abbrev zq188.R : Type := List ByteArray
abbrev zq188.sig : Sig := ⟨[(false, 1), (false, 1)], [], [.str, .str], [(false, 1)], [], [.sl true 9]⟩
noncomputable def zq188.g (N : Nat) (a0 : ByteArray) (a1 : ByteArray) : Option zq188.R := match a1.data.toList with
  | [_] => bif decide (a0.size < 4294967281) then some (Lib.splitB a1 0 (Lib.countB a0 a1) a0) else none
  | _ => none
set_option maxHeartbeats 1000000 in
theorem zq188.walk (a0 : ByteArray) (ch : UInt8) (w : World) (hs : a0.size < 4294967281) :
    Calls Tryz.prog 67 #[.string a0, .string ⟨#[ch]⟩] w fun e w' => ∃ v', e = .returned v' ∧ w'.ownsRow w.heap.size 9 1 v' (Lib.splitB ⟨#[ch]⟩ 0 (Lib.countB a0 ⟨#[ch]⟩) a0).length ((Lib.splitB ⟨#[ch]⟩ 0 (Lib.countB a0 ⟨#[ch]⟩) a0).map Value.string) ∧ Below w.heap.size w w' := by
  have h1 : 1 ≤ (⟨#[ch]⟩ : ByteArray).size := Nat.le_refl 1
  have hle := Lib.countB_le ⟨#[ch]⟩ h1 a0.size a0 (Nat.le_refl _)
  have hlen := Lib.splitB_all ⟨#[ch]⟩ h1 0 _ a0 rfl
  have hI : ∀ (x : ByteArray) (c : Array Value), x.size ≤ a0.size → Calls Tryz.prog 66 #[.string x, .string ⟨#[ch]⟩] (w.alloc (.cells c 9)) fun e w' => e = .returned (.int .i64 (Lib.indexB x ⟨#[ch]⟩)) ∧ w' = w.alloc (.cells c 9) := by
    intro x c hx
    refine (Tryz.strings_Index_one x ch _).mono ?_
    rintro e w' ⟨rfl, rfl⟩
    exact ⟨by rw [show Lib.indexB x ⟨#[ch]⟩ = Lib.index x.data.toList [ch] from rfl, Lib.index_one], rfl⟩
  have hC : Calls Tryz.prog 150 #[.string a0, .string ⟨#[ch]⟩] w fun e w' => e = .returned (.int .i64 (Lib.countB a0 ⟨#[ch]⟩)) ∧ w' = w := by
    refine (Tryz.strings_Count_one a0 ch w).mono ?_
    rintro e w' ⟨rfl, rfl⟩
    exact ⟨by rw [show Lib.countB a0 ⟨#[ch]⟩ = Lib.count a0.data.toList [ch] from rfl, Lib.count_one]; rfl, rfl⟩
  have c := Go.Proofs.Any.strings_genSplit_core Tryz.lays221 (by kernel_rfl) a0 ⟨#[ch]⟩ 0 (-1) (Lib.countB a0 ⟨#[ch]⟩ + 1) w hs h1 (Nat.zero_le _) hI hC (by decide) (by decide) (by rw [if_pos (by decide)]; omega)
  rw [Nat.add_sub_cancel, hlen] at c
  have e2 : Lib.cellsOf (Lib.splitB ⟨#[ch]⟩ 0 (Lib.countB a0 ⟨#[ch]⟩) a0) (Lib.countB a0 ⟨#[ch]⟩ + 1) = ((Lib.splitB ⟨#[ch]⟩ 0 (Lib.countB a0 ⟨#[ch]⟩) a0).map Value.string).toArray := by rw [← hlen]; exact Lib.cellsOf_full _
  rw [e2] at c
  have HC := zq188.asd (show Calls Tryz.prog 91 #[.string a0, .string ⟨#[ch]⟩, .int .i64 0, .int .i64 (-1)] w _ from c)
  have HL := zq188.asd hlen
  have HLE := zq188.asd hle
  clear c hI hC e2 hlen hle
  go_enter Tryz.func67, Tryz.ntmps67
  go_wp2_with (go_at_call 91; refine HC.out.mono ?_; rintro e w' ⟨rfl, hw⟩; have HW := zq188.asd hw; clear hw)
  go_ret
  have hw := HW.out
  have hlen := HL.out
  have hle := HLE.out
  subst hw
  refine ⟨_, rfl, ?_, (Below.refl _ _).alloc (Nat.le_refl _) _⟩
  have ho := World.ownsRow_lit (base := w.heap.size) (e := 9) (size := 1) w ((Lib.splitB ⟨#[ch]⟩ 0 (Lib.countB a0 ⟨#[ch]⟩) a0).map Value.string).toArray (Lib.countB a0 ⟨#[ch]⟩ + 1) (Nat.le_refl _) (by unfold maxLen; omega) (by simp [hlen])
  rw [hlen]
  simp at ho
  exact ho
theorem zq188.good (N : Nat) (a0 : ByteArray) (a1 : ByteArray) (r : zq188.R) (h : zq188.g N a0 a1 = some r) : Go.PM.Good Tryz.prog T0 67 [.one (.str a0), .one (.str a1)] [] (zq188.sig.ret r) (zq188.sig.bs r) := by
  obtain ⟨⟨l⟩⟩ := a1
  match l, h with
  | [ch], h =>
    obtain ⟨hc, h⟩ := bif_some (show (bif decide (a0.size < 4294967281) then some (Lib.splitB ⟨#[ch]⟩ 0 (Lib.countB a0 ⟨#[ch]⟩) a0) else none) = some r from h)
    have hc := of_decide_eq_true hc
    cases Option.some.inj h
    refine good_new tabOk0 9 ⟨_, Tryz.func67, by kernel_rfl, rfl⟩ [.one (.str a0), .one (.str ⟨#[ch]⟩)] (Lib.splitB ⟨#[ch]⟩ 0 (Lib.countB a0 ⟨#[ch]⟩) a0) ?_
    intro w C blk vargs hsz hrep hag
    have ev : vargs = #[.string a0, .string ⟨#[ch]⟩] := (args2 hsz).trans (by rw [rep_str (hrep 0), rep_str (hrep 1)])
    rw [ev]
    exact ⟨_, row_str (T := T0) (e := 9) (fun x => x) rfl (fun x => rfl), zq188.walk a0 ch w hc⟩
noncomputable def zq188.ent (N : Nat) : Ent Tryz.prog T0 := mkEnt 67 [(false, [.any]), (false, [.any])] zq188.sig (fun t => zq188.g N t.1 t.2) (fun t r h => zq188.good N t.1 t.2 r h)
end Go.Proofs.YtdidghlibfopgaaGreatDoor.M
namespace Go.Proofs.YtdidghlibfopgaaGreatDoor.M
open Go Go.PM Go.Proofs.YtdidghlibfopgaaGreatDoor.P
set_option linter.unusedVariables false
set_option maxRecDepth 100000
open Go.RowKit Go.Lib Go.Proofs
abbrev zq53.R : Type := ByteArray × Bool
abbrev zq53.sig : Sig := ⟨[(false, 1)], [], [.str], [(false, 1), (false, 1)], [], [.str, .bool]⟩
noncomputable def zq53.tab : List (ByteArray × ByteArray) := [(⟨#[100, 105, 97, 108]⟩, ⟨#[78]⟩), (⟨#[115, 101, 116]⟩, ⟨#[84]⟩), (⟨#[116, 117, 114, 110]⟩, ⟨#[78, 78]⟩), (⟨#[111, 110]⟩, ⟨#[78, 78]⟩), (⟨#[111, 102, 102]⟩, ⟨#[78, 78]⟩), (⟨#[109, 105, 114, 114, 111, 114]⟩, ⟨#[]⟩), (⟨#[115, 119, 97, 112]⟩, ⟨#[]⟩), (⟨#[99, 108, 111, 99, 107]⟩, ⟨#[78, 78]⟩), (⟨#[115, 104, 111, 119]⟩, ⟨#[]⟩), (⟨#[119, 104, 101, 114, 101]⟩, ⟨#[]⟩), (⟨#[108, 111, 110, 103]⟩, ⟨#[]⟩), (⟨#[97, 110, 103, 108, 101]⟩, ⟨#[]⟩), (⟨#[115, 109, 97, 108, 108]⟩, ⟨#[]⟩), (⟨#[119, 105, 116, 104]⟩, ⟨#[78, 78]⟩), (⟨#[115, 104, 111, 119, 110]⟩, ⟨#[83]⟩), (⟨#[97, 104, 101, 97, 100]⟩, ⟨#[83]⟩), (⟨#[114, 105, 103, 104, 116]⟩, ⟨#[]⟩), (⟨#[101, 118, 101, 114, 121]⟩, ⟨#[]⟩), (⟨#[117, 110, 115, 117, 114, 101]⟩, ⟨#[]⟩), (⟨#[111, 116, 104, 101, 114]⟩, ⟨#[78]⟩), (⟨#[108, 101, 97, 112]⟩, ⟨#[78]⟩), (⟨#[98, 101, 115, 116]⟩, ⟨#[78, 78, 78]⟩)]
noncomputable def zq53.es (l : List (ByteArray × ByteArray)) (i : Nat) : List MapEntry := match l with
  | [] => []
  | (k, v) :: l => { key := .string k, val := .string v, born := i } :: zq53.es l (i + 1)
noncomputable def zq53.wm (w : World) (n : Nat) : World := w.alloc (.map (zq53.es (zq53.tab.take n) 0).toArray n)
noncomputable def zq53.look (s : ByteArray) : List (ByteArray × ByteArray) → Option ByteArray
  | [] => none
  | (k, v) :: l => bif s == k then some v else zq53.look s l
set_option maxHeartbeats 4000000 in
theorem zq53.walk0 (s r : ByteArray) (b : Bool) (g : Nat) (w w0 w1 w2 w3 w4 w5 w6 w7 w8 w9 w10 w11 w12 w13 w14 w15 w16 w17 w18 w19 w20 w21 w22 : World) (hm : (Instr.makeMap 118 none).run Tryz.prog w = .ok (.map (some g)) w0) (h1 : (Instr.mapUpdate 118 (.map (some g)) (.string ⟨#[100, 105, 97, 108]⟩) (.string ⟨#[78]⟩)).run Tryz.prog w0 = .ok () w1) (h2 : (Instr.mapUpdate 118 (.map (some g)) (.string ⟨#[115, 101, 116]⟩) (.string ⟨#[84]⟩)).run Tryz.prog w1 = .ok () w2) (h3 : (Instr.mapUpdate 118 (.map (some g)) (.string ⟨#[116, 117, 114, 110]⟩) (.string ⟨#[78, 78]⟩)).run Tryz.prog w2 = .ok () w3) (h4 : (Instr.mapUpdate 118 (.map (some g)) (.string ⟨#[111, 110]⟩) (.string ⟨#[78, 78]⟩)).run Tryz.prog w3 = .ok () w4) (h5 : (Instr.mapUpdate 118 (.map (some g)) (.string ⟨#[111, 102, 102]⟩) (.string ⟨#[78, 78]⟩)).run Tryz.prog w4 = .ok () w5) (h6 : (Instr.mapUpdate 118 (.map (some g)) (.string ⟨#[109, 105, 114, 114, 111, 114]⟩) (.string ⟨#[]⟩)).run Tryz.prog w5 = .ok () w6) (h7 : (Instr.mapUpdate 118 (.map (some g)) (.string ⟨#[115, 119, 97, 112]⟩) (.string ⟨#[]⟩)).run Tryz.prog w6 = .ok () w7) (h8 : (Instr.mapUpdate 118 (.map (some g)) (.string ⟨#[99, 108, 111, 99, 107]⟩) (.string ⟨#[78, 78]⟩)).run Tryz.prog w7 = .ok () w8) (h9 : (Instr.mapUpdate 118 (.map (some g)) (.string ⟨#[115, 104, 111, 119]⟩) (.string ⟨#[]⟩)).run Tryz.prog w8 = .ok () w9) (h10 : (Instr.mapUpdate 118 (.map (some g)) (.string ⟨#[119, 104, 101, 114, 101]⟩) (.string ⟨#[]⟩)).run Tryz.prog w9 = .ok () w10) (h11 : (Instr.mapUpdate 118 (.map (some g)) (.string ⟨#[108, 111, 110, 103]⟩) (.string ⟨#[]⟩)).run Tryz.prog w10 = .ok () w11) (h12 : (Instr.mapUpdate 118 (.map (some g)) (.string ⟨#[97, 110, 103, 108, 101]⟩) (.string ⟨#[]⟩)).run Tryz.prog w11 = .ok () w12) (h13 : (Instr.mapUpdate 118 (.map (some g)) (.string ⟨#[115, 109, 97, 108, 108]⟩) (.string ⟨#[]⟩)).run Tryz.prog w12 = .ok () w13) (h14 : (Instr.mapUpdate 118 (.map (some g)) (.string ⟨#[119, 105, 116, 104]⟩) (.string ⟨#[78, 78]⟩)).run Tryz.prog w13 = .ok () w14) (h15 : (Instr.mapUpdate 118 (.map (some g)) (.string ⟨#[115, 104, 111, 119, 110]⟩) (.string ⟨#[83]⟩)).run Tryz.prog w14 = .ok () w15) (h16 : (Instr.mapUpdate 118 (.map (some g)) (.string ⟨#[97, 104, 101, 97, 100]⟩) (.string ⟨#[83]⟩)).run Tryz.prog w15 = .ok () w16) (h17 : (Instr.mapUpdate 118 (.map (some g)) (.string ⟨#[114, 105, 103, 104, 116]⟩) (.string ⟨#[]⟩)).run Tryz.prog w16 = .ok () w17) (h18 : (Instr.mapUpdate 118 (.map (some g)) (.string ⟨#[101, 118, 101, 114, 121]⟩) (.string ⟨#[]⟩)).run Tryz.prog w17 = .ok () w18) (h19 : (Instr.mapUpdate 118 (.map (some g)) (.string ⟨#[117, 110, 115, 117, 114, 101]⟩) (.string ⟨#[]⟩)).run Tryz.prog w18 = .ok () w19) (h20 : (Instr.mapUpdate 118 (.map (some g)) (.string ⟨#[111, 116, 104, 101, 114]⟩) (.string ⟨#[78]⟩)).run Tryz.prog w19 = .ok () w20) (h21 : (Instr.mapUpdate 118 (.map (some g)) (.string ⟨#[108, 101, 97, 112]⟩) (.string ⟨#[78]⟩)).run Tryz.prog w20 = .ok () w21) (h22 : (Instr.mapUpdate 118 (.map (some g)) (.string ⟨#[98, 101, 115, 116]⟩) (.string ⟨#[78, 78, 78]⟩)).run Tryz.prog w21 = .ok () w22) (hl : (Instr.lookup 118 (.map (some g)) (.string s) true).run Tryz.prog w22 = .ok (.tuple #[.string r, .bool b]) w22) : Calls Tryz.prog 68 #[.string s] w fun e w' => e = .returned (.tuple #[.string r, .bool b]) ∧ w' = w22 := by
  go_enter Tryz.func68, Tryz.ntmps68
  go_wp2
  go_ret2
  exact ⟨rfl, rfl⟩
theorem zq53.at (w : World) (o : Obj) : (w.alloc o).heap[w.heap.size]? = some o := by
  show (w.heap.push o)[w.heap.size]? = some o
  rw [Array.getElem?_push, if_pos rfl]
theorem zq53.setAt (w : World) (o o' : Obj) : (w.alloc o).heap.setIfInBounds w.heap.size o' = (w.alloc o').heap := by
  show (w.heap.push o).setIfInBounds w.heap.size o' = w.heap.push o'
  apply Array.ext_getElem?
  intro i
  rw [Array.getElem?_setIfInBounds, Array.getElem?_push, Array.getElem?_push, Array.size_push]
  by_cases h : w.heap.size = i
  · subst h; rw [if_pos rfl, if_pos (by omega), if_pos rfl]
  · rw [if_neg h, if_neg (fun e => h e.symm), if_neg (fun e => h e.symm)]
theorem zq53.upd {t kt et : TypeId} (ht : Tryz.prog.underlying t = some (.map kt et)) (hk : Tryz.prog.underlying kt = some .string) (w : World) (es : Array MapEntry) (c : Nat) (k v : ByteArray)
    (hf : Instr.findNow .string (.string k) es.toList 0 = some none) :
    (Instr.mapUpdate t (.map (some w.heap.size)) (.string k) (.string v)).run Tryz.prog (w.alloc (.map es c)) = .ok () (w.alloc (.map (es.push { key := .string k, val := .string v, born := c }) (c + 1))) := by
  simp [Instr.mapUpdate, run_underlying ht, MapKept.run_getObj_map (zq53.at w _), MapKept.run_checkKey hk (show MapKept.IsKey .string (.string k) from trivial), MapKept.run_findKey hk hf, MapKept.run_setObj_map _ (zq53.at w _), Result.andThen]
  rw [zq53.setAt]; rfl
noncomputable def zq53.ov : Option (Nat × Value) → Value
  | some (_, v) => .tuple #[v, .bool true]
  | none => .tuple #[.string ⟨#[]⟩, .bool false]
theorem zq53.lk {t kt et : TypeId} (ht : Tryz.prog.underlying t = some (.map kt et)) (hk : Tryz.prog.underlying kt = some .string) (hz : ∀ W, (zeroValue et).run Tryz.prog W = .ok (.string ⟨#[]⟩) W) (w : World) (es : Array MapEntry) (c : Nat) (k : ByteArray) (r : Option (Nat × Value))
    (hf : Instr.findNow .string (.string k) es.toList 0 = some r) :
    (Instr.lookup t (.map (some w.heap.size)) (.string k) true).run Tryz.prog (w.alloc (.map es c)) = .ok (zq53.ov r) (w.alloc (.map es c)) := by
  cases r with
  | none => simp [Instr.lookup, run_underlying ht, MapKept.run_getObj_map (zq53.at w _), MapKept.run_checkKey hk (show MapKept.IsKey .string (.string k) from trivial), MapKept.run_findKey hk hf, hz, Result.andThen, zq53.ov]
  | some p => simp [Instr.lookup, run_underlying ht, MapKept.run_getObj_map (zq53.at w _), MapKept.run_checkKey hk (show MapKept.IsKey .string (.string k) from trivial), MapKept.run_findKey hk hf, Result.andThen, zq53.ov]
theorem zq53.find (s : ByteArray) : ∀ (l : List (ByteArray × ByteArray)) (i j : Nat), ∃ r, Instr.findNow .string (.string s) (zq53.es l i) j = some r ∧ (match r with | some (_, v) => ∃ x, v = .string x ∧ zq53.look s l = some x | none => zq53.look s l = none)
  | [], i, j => ⟨none, rfl, rfl⟩
  | (k, v) :: l, i, j => by
    unfold zq53.es Instr.findNow zq53.look
    show ∃ r, (match some (s == k) with | some true => some (some (j, Value.string v)) | some false => Instr.findNow .string (.string s) (zq53.es l (i + 1)) (j + 1) | none => none) = some r ∧ _
    cases s == k with
    | true => exact ⟨some (j, .string v), rfl, v, rfl, rfl⟩
    | false => exact zq53.find s l (i + 1) (j + 1)
noncomputable def zq53.val (s : ByteArray) : ByteArray × Bool := match zq53.look s zq53.tab with | some v => (v, true) | none => (⟨#[]⟩, false)
set_option maxHeartbeats 4000000 in
theorem zq53.walk (s : ByteArray) (w : World) : Calls Tryz.prog 68 #[.string s] w fun e w' => e = .returned (.tuple #[.string (zq53.val s).1, .bool (zq53.val s).2]) ∧ w' = zq53.wm w 22 := by
  have ht : Tryz.prog.underlying 118 = some (.map 9 9) := Tryz.underlying118
  have hk : Tryz.prog.underlying 9 = some .string := Tryz.underlying9
  have hz : ∀ W, (zeroValue 9).run Tryz.prog W = .ok (.string ⟨#[]⟩) W := by
    intro W
    have HI : (Tryz.prog.info? 9).map (fun i => (i.zero, i.size, i.bytes)) = some (some (.string ⟨#[]⟩), 1, 16) := by kernel_rfl
    obtain ⟨i0, hi0, hz0, hz1, hz2⟩ := info_parts HI
    simp [zeroValue, typeInfo, hi0, hz0, Result.andThen]
  obtain ⟨r, hr, hv⟩ := zq53.find s zq53.tab 0 0
  have hL := zq53.lk ht hk hz w (zq53.es zq53.tab 0).toArray 22 s r (by simpa using hr)
  have hv' : zq53.ov r = .tuple #[.string (zq53.val s).1, .bool (zq53.val s).2] := by
    unfold zq53.val
    cases r with
    | none => rw [show zq53.look s zq53.tab = none from hv]; rfl
    | some p =>
      obtain ⟨x, e1, e2⟩ := hv
      obtain ⟨i, v⟩ := p
      dsimp only at e1
      subst e1
      rw [e2]; rfl
  rw [hv'] at hL
  exact zq53.walk0 s (zq53.val s).1 (zq53.val s).2 w.heap.size w (zq53.wm w 0) (zq53.wm w 1) (zq53.wm w 2) (zq53.wm w 3) (zq53.wm w 4) (zq53.wm w 5) (zq53.wm w 6) (zq53.wm w 7) (zq53.wm w 8) (zq53.wm w 9) (zq53.wm w 10) (zq53.wm w 11) (zq53.wm w 12) (zq53.wm w 13) (zq53.wm w 14) (zq53.wm w 15) (zq53.wm w 16) (zq53.wm w 17) (zq53.wm w 18) (zq53.wm w 19) (zq53.wm w 20) (zq53.wm w 21) (zq53.wm w 22) rfl
    (zq53.upd ht hk w _ _ _ _ (by kernel_rfl))
    (zq53.upd ht hk w _ _ _ _ (by kernel_rfl))
    (zq53.upd ht hk w _ _ _ _ (by kernel_rfl))
    (zq53.upd ht hk w _ _ _ _ (by kernel_rfl))
    (zq53.upd ht hk w _ _ _ _ (by kernel_rfl))
    (zq53.upd ht hk w _ _ _ _ (by kernel_rfl))
    (zq53.upd ht hk w _ _ _ _ (by kernel_rfl))
    (zq53.upd ht hk w _ _ _ _ (by kernel_rfl))
    (zq53.upd ht hk w _ _ _ _ (by kernel_rfl))
    (zq53.upd ht hk w _ _ _ _ (by kernel_rfl))
    (zq53.upd ht hk w _ _ _ _ (by kernel_rfl))
    (zq53.upd ht hk w _ _ _ _ (by kernel_rfl))
    (zq53.upd ht hk w _ _ _ _ (by kernel_rfl))
    (zq53.upd ht hk w _ _ _ _ (by kernel_rfl))
    (zq53.upd ht hk w _ _ _ _ (by kernel_rfl))
    (zq53.upd ht hk w _ _ _ _ (by kernel_rfl))
    (zq53.upd ht hk w _ _ _ _ (by kernel_rfl))
    (zq53.upd ht hk w _ _ _ _ (by kernel_rfl))
    (zq53.upd ht hk w _ _ _ _ (by kernel_rfl))
    (zq53.upd ht hk w _ _ _ _ (by kernel_rfl))
    (zq53.upd ht hk w _ _ _ _ (by kernel_rfl))
    (zq53.upd ht hk w _ _ _ _ (by kernel_rfl))
    hL
theorem zq53.below (w : World) : Below w.heap.size w (zq53.wm w 22) := ⟨rfl, rfl, rfl, by show w.heap.size ≤ (w.heap.push _).size; simp, fun k hk => by show (w.heap.push _)[k]? = _; rw [Array.getElem?_push, if_neg (by omega)]⟩
noncomputable def zq53.g (N : Nat) (a0 : ByteArray) : Option zq53.R := some (zq53.val a0)
theorem zq53.good (N : Nat) (a0 : ByteArray) (r : zq53.R) (h : zq53.g N a0 = some r) : Go.PM.Good Tryz.prog T0 68 [.one (.str a0)] [] (zq53.sig.ret r) (zq53.sig.bs r) := by
  cases Option.some.inj h
  refine good_still (T := T0) ⟨_, Tryz.func68, by kernel_rfl, rfl⟩ [.one (.str a0)] (ret := zq53.sig.ret (zq53.val a0)) rfl rfl ?_
  intro w C blk vargs hsz hrep hag
  have ev : vargs = #[.string a0] := (args1 hsz).trans (by rw [rep_str (hrep 0)])
  rw [ev]
  refine (zq53.walk a0 w).mono ?_
  rintro e w' ⟨rfl, rfl⟩
  exact ⟨_, rfl, ⟨_, rfl, .cons (crep1 (ERep.str _)) (.cons (crep1 (ERep.bool _)) .nil)⟩, zq53.below w⟩
noncomputable def zq53.ent (N : Nat) : Ent Tryz.prog T0 := mkEnt 68 [(false, [.any])] zq53.sig (fun t => zq53.g N t) (fun t r h => zq53.good N t r h)
end Go.Proofs.YtdidghlibfopgaaGreatDoor.M
namespace Go.Proofs.YtdidghlibfopgaaGreatDoor.M
open Go Go.PM Go.Proofs.YtdidghlibfopgaaGreatDoor.P
set_option linter.unusedVariables false
set_option maxRecDepth 100000
namespace zq68
variable (N : Nat)
abbrev R : Type := List Int × Int × Int × BA × Bool
abbrev QQ : Type := St D0 → Option R
abbrev sig : Sig := ⟨[(false, 1), (false, 1)], [], [.str, .sl false 9], [(true, 4), (false, 1)], [], [.sl true 3, .i, .i, .str, .bool]⟩
noncomputable def C : Cfg D0 := ⟨Tryz.prog, T0, 70506202068979, 562954248388608, 50, 0, [(58, [0, 4, 6, 12, 13, 14], [4, 6]), (14950, [0, 4, 6, 9, 12, 13, 14], [4, 6])], 36284019507200, false, []⟩
def E : List (Ent Tryz.prog T0) := [zq69.ent N, zq27.ent N]
def O : Orc D0 R := orcOf (E N)
def K0 : Ex → QQ := exitK C Tryz.f69.results.toList [(true, [.own 3, .any, .any, .any]), (false, [.any])] (decOut sig)
noncomputable def c (p : Nat) : Code := codeAt (Tryz.f69.body.getD .skip) (pathN p)
abbrev t1 : Type := BA → (List BA) → Int → Int → Int → Int → BA → Int → Int → BA → Option R
abbrev t2 : Type := BA → Bool → (List BA) → Int → Int → Int → Int → BA → (List Int) → Int → Int → BA → Option R
abbrev t3 : Type := BA → Bool → (List BA) → Int → Int → Int → Int → BA → Int → Int → BA → Option R
abbrev t4 : Type := BA → (List BA) → Int → Int → Int → Int → BA → (List Int) → Int → Int → BA → Option R
def s1 (v0 : BA) (v1 : List BA) (v2 v3 v4 v5 : Int) (v6 : BA) (v7 v8 : Int) (v9 : BA) : St D0 := mkSt [(0, .one (.str v0)), (4, .one (.ptr 4 0)), (6, .one (.ptr 6 0)), (12, .one (.sl false 9 v1)), (13, .one (.i v2)), (14, .one (.i v3))] [(4, some (97, [.nl, .i v4, .i v5, .str v6])), (6, some (97, [.nl, .i v7, .i v8, .str v9]))]
def s2 (v0 : BA) (v1 : Bool) (v2 : List BA) (v3 v4 v5 v6 : Int) (v7 : BA) (v8 : List Int) (v9 v10 : Int) (v11 : BA) : St D0 := mkSt [(0, .one (.str v0)), (4, .one (.ptr 4 0)), (6, .one (.ptr 6 0)), (9, .one (.bool v1)), (12, .one (.sl false 9 v2)), (13, .one (.i v3)), (14, .one (.i v4))] [(4, some (97, [.nl, .i v5, .i v6, .str v7])), (6, some (97, [.sl true 3 v8, .i v9, .i v10, .str v11]))]
def s3 (v0 : BA) (v1 : Bool) (v2 : List BA) (v3 v4 v5 v6 : Int) (v7 : BA) (v8 v9 : Int) (v10 : BA) : St D0 := mkSt [(0, .one (.str v0)), (4, .one (.ptr 4 0)), (6, .one (.ptr 6 0)), (9, .one (.bool v1)), (12, .one (.sl false 9 v2)), (13, .one (.i v3)), (14, .one (.i v4))] [(4, some (97, [.nl, .i v5, .i v6, .str v7])), (6, some (97, [.nl, .i v8, .i v9, .str v10]))]
def s4 (v0 : BA) (v1 : List BA) (v2 v3 v4 v5 : Int) (v6 : BA) (v7 : List Int) (v8 v9 : Int) (v10 : BA) : St D0 := mkSt [(0, .one (.str v0)), (4, .one (.ptr 4 0)), (6, .one (.ptr 6 0)), (12, .one (.sl false 9 v1)), (13, .one (.i v2)), (14, .one (.i v3))] [(4, some (97, [.nl, .i v4, .i v5, .str v6])), (6, some (97, [.sl true 3 v7, .i v8, .i v9, .str v10]))]
def K14951 (Kn58 : QQ) : Ex → QQ := (blockK 1 ((fun up => (onN (tk C (O N) N c 934 935 up) up)) ((fun up => (onN (fun s => C.tidy 58 s ((onN Kn58 up) .normal)) (onN Kn58 up))) (blockK 0 (onN (tk C (O N) N c 14 15 K0) K0)))))
def o2 (N : Nat) (v0 : BA) (v1 : Bool) (v2 : List BA) (v3 v4 v5 v6 : Int) (v7 : BA) (v8 : List Int) (v9 v10 : Int) (v11 : BA) (c4 : t4) : Option R :=
 bif (!v1) then
  some (([] : List Int), 0, 0, ⟨#[]⟩, false)
 else
 c4 v0 v2 v3 (w64 (v4 + 1)) v5 v6 v7 v8 v9 v10 v11
def d2 (v0 : BA) (v1 : Bool) (v2 : List BA) (v3 v4 v5 v6 : Int) (v7 : BA) (v8 : List Int) (v9 v10 : Int) (v11 : BA) (c4 : t4) : Option R := o2 N v0 v1 v2 v3 v4 v5 v6 v7 v8 v9 v10 v11 c4
theorem d2.run (Kn58 : QQ) (v0 : BA) (v1 : Bool) (v2 : List BA) (v3 v4 v5 v6 : Int) (v7 : BA) (v8 : List Int) (v9 v10 : Int) (v11 : BA) : runC C (O N) N (c 14951) 14951 (s2 v0 v1 v2 v3 v4 v5 v6 v7 v8 v9 v10 v11) (K14951 N Kn58) = d2 N v0 v1 v2 v3 v4 v5 v6 v7 v8 v9 v10 v11 (Kn58 <| s4 · · · · · · · · · · ·) := by kernel_rfl
def o3 (N : Nat) (v0 : BA) (v1 : Bool) (v2 : List BA) (v3 v4 v5 v6 : Int) (v7 : BA) (v8 v9 : Int) (v10 : BA) (c1 : t1) : Option R :=
 bif (!v1) then
  some (([] : List Int), 0, 0, ⟨#[]⟩, false)
 else
 c1 v0 v2 v3 (w64 (v4 + 1)) v5 v6 v7 v8 v9 v10
def d3 (v0 : BA) (v1 : Bool) (v2 : List BA) (v3 v4 v5 v6 : Int) (v7 : BA) (v8 v9 : Int) (v10 : BA) (c1 : t1) : Option R := o3 N v0 v1 v2 v3 v4 v5 v6 v7 v8 v9 v10 c1
theorem d3.run (Kn58 : QQ) (v0 : BA) (v1 : Bool) (v2 : List BA) (v3 v4 v5 v6 : Int) (v7 : BA) (v8 v9 : Int) (v10 : BA) : runC C (O N) N (c 14951) 14951 (s3 v0 v1 v2 v3 v4 v5 v6 v7 v8 v9 v10) (K14951 N Kn58) = d3 N v0 v1 v2 v3 v4 v5 v6 v7 v8 v9 v10 (Kn58 <| s1 · · · · · · · · · ·) := by kernel_rfl
def K116 (Kn58 : QQ) : Ex → QQ := ((fun up => (onN (fun s => C.tidy 58 s ((onN Kn58 up) .normal)) (onN Kn58 up))) (blockK 0 (onN (tk C (O N) N c 14 15 K0) K0)))
def o1 (v0 : BA) (v1 : List BA) (v2 v3 v4 v5 : Int) (v6 : BA) (v7 v8 : Int) (v9 : BA) (c2 : t2) (c3 : t3) : Option R :=
 bif (decide (v3 < v2)) then
  bif (decide (0 ≤ v3)) then
   bif (decide (v3 < (v1.length : Int))) then
    (v1[(v3 : Int).toNat]?).bind fun x1 =>
    bif (decide (0 ≤ v3)) then
     bif (decide (v3 < (v0.size : Int))) then
      bif ((bt v0 v3) == 78) then
       (zq69.g N x1 999999).bind fun r2 =>
       bif (Nat.blt (([] : List Int).length + ([r2.1] : List Int).length) 17592186044416) then
        c2 v0 r2.2 v1 v2 v3 v4 v5 v6 (([] : List Int) ++ ([r2.1] : List Int)) v7 v8 v9
       else
       none
      else
      bif ((bt v0 v3) == 83) then
       (zq27.g N x1).bind fun r3 =>
       c3 v0 r3.2.2 v1 v2 v3 v4 v5 v6 r3.1 r3.2.1 v9
      else
      c3 v0 true v1 v2 v3 v4 v5 v6 v7 v8 x1
     else
     none
    else
    none
   else
   none
  else
  none
 else
 some (([] : List Int), v7, v8, v9, true)
theorem o1.run (Kn58 : QQ) (H14951 : Code) (v0 : BA) (v1 : List BA) (v2 v3 v4 v5 : Int) (v6 : BA) (v7 v8 : Int) (v9 : BA) : runC C (O N) N (.seq (c 232) (.seq (c 466) (.seq (.block 1 (.seq (c 3736) (.seq (c 7474) (.seq (c 14950) H14951)))) (c 935)))) 116 (s1 v0 v1 v2 v3 v4 v5 v6 v7 v8 v9) ((fun up => (onN (fun s => C.tidy 58 s ((onN Kn58 up) .normal)) (onN Kn58 up))) (blockK 0 (onN (tk C (O N) N c 14 15 K0) K0))) = o1 N v0 v1 v2 v3 v4 v5 v6 v7 v8 v9 ((fun w0 w1 w2 w3 w4 w5 w6 w7 w8 w9 w10 w11 => runC C (O N) N H14951 14951 (s2 w0 w1 w2 w3 w4 w5 w6 w7 w8 w9 w10 w11) (blockK 1 ((fun up => (onN (tk C (O N) N c 934 935 up) up)) ((fun up => (onN (fun s => C.tidy 58 s ((onN Kn58 up) .normal)) (onN Kn58 up))) (blockK 0 (onN (tk C (O N) N c 14 15 K0) K0))))))) ((fun w0 w1 w2 w3 w4 w5 w6 w7 w8 w9 w10 => runC C (O N) N H14951 14951 (s3 w0 w1 w2 w3 w4 w5 w6 w7 w8 w9 w10) (blockK 1 ((fun up => (onN (tk C (O N) N c 934 935 up) up)) ((fun up => (onN (fun s => C.tidy 58 s ((onN Kn58 up) .normal)) (onN Kn58 up))) (blockK 0 (onN (tk C (O N) N c 14 15 K0) K0))))))) := by kernel_rfl
def d1 (v0 : BA) (v1 : List BA) (v2 v3 v4 v5 : Int) (v6 : BA) (v7 v8 : Int) (v9 : BA) (c1 : t1) (c4 : t4) : Option R := o1 N v0 v1 v2 v3 v4 v5 v6 v7 v8 v9 (d2 N · · · · · · · · · · · · c4) (d3 N · · · · · · · · · · · c1)
theorem c116_1 : (c 116) = (.seq (c 232) (.seq (c 466) (.seq (.block 1 (.seq (c 3736) (.seq (c 7474) (.seq (c 14950) (c 14951))))) (c 935)))) := by kernel_rfl
theorem d1.run (Kn58 : QQ) (v0 : BA) (v1 : List BA) (v2 v3 v4 v5 : Int) (v6 : BA) (v7 v8 : Int) (v9 : BA) : runC C (O N) N (c 116) 116 (s1 v0 v1 v2 v3 v4 v5 v6 v7 v8 v9) (K116 N Kn58) = d1 N v0 v1 v2 v3 v4 v5 v6 v7 v8 v9 (Kn58 <| s1 · · · · · · · · · ·) (Kn58 <| s4 · · · · · · · · · · ·) := by
  rw [c116_1]; unfold d1; exact (o1.run N Kn58 (c 14951) v0 v1 v2 v3 v4 v5 v6 v7 v8 v9).trans (congr (congr rfl (fx12 (d2.run N Kn58))) (fx11 (d3.run N Kn58)))
def o4 (v0 : BA) (v1 : List BA) (v2 v3 v4 v5 : Int) (v6 : BA) (v7 : List Int) (v8 v9 : Int) (v10 : BA) (c2 : t2) : Option R :=
 bif (decide (v3 < v2)) then
  bif (decide (0 ≤ v3)) then
   bif (decide (v3 < (v1.length : Int))) then
    (v1[(v3 : Int).toNat]?).bind fun x1 =>
    bif (decide (0 ≤ v3)) then
     bif (decide (v3 < (v0.size : Int))) then
      bif ((bt v0 v3) == 78) then
       (zq69.g N x1 999999).bind fun r2 =>
       bif (Nat.blt (v7.length + ([r2.1] : List Int).length) 17592186044416) then
        c2 v0 r2.2 v1 v2 v3 v4 v5 v6 (v7 ++ ([r2.1] : List Int)) v8 v9 v10
       else
       none
      else
      bif ((bt v0 v3) == 83) then
       (zq27.g N x1).bind fun r3 =>
       c2 v0 r3.2.2 v1 v2 v3 v4 v5 v6 v7 r3.1 r3.2.1 v10
      else
      c2 v0 true v1 v2 v3 v4 v5 v6 v7 v8 v9 x1
     else
     none
    else
    none
   else
   none
  else
  none
 else
 some (v7, v8, v9, v10, true)
theorem o4.run (Kn58 : QQ) (H14951 : Code) (v0 : BA) (v1 : List BA) (v2 v3 v4 v5 : Int) (v6 : BA) (v7 : List Int) (v8 v9 : Int) (v10 : BA) : runC C (O N) N (.seq (c 232) (.seq (c 466) (.seq (.block 1 (.seq (c 3736) (.seq (c 7474) (.seq (c 14950) H14951)))) (c 935)))) 116 (s4 v0 v1 v2 v3 v4 v5 v6 v7 v8 v9 v10) ((fun up => (onN (fun s => C.tidy 58 s ((onN Kn58 up) .normal)) (onN Kn58 up))) (blockK 0 (onN (tk C (O N) N c 14 15 K0) K0))) = o4 N v0 v1 v2 v3 v4 v5 v6 v7 v8 v9 v10 ((fun w0 w1 w2 w3 w4 w5 w6 w7 w8 w9 w10 w11 => runC C (O N) N H14951 14951 (s2 w0 w1 w2 w3 w4 w5 w6 w7 w8 w9 w10 w11) (blockK 1 ((fun up => (onN (tk C (O N) N c 934 935 up) up)) ((fun up => (onN (fun s => C.tidy 58 s ((onN Kn58 up) .normal)) (onN Kn58 up))) (blockK 0 (onN (tk C (O N) N c 14 15 K0) K0))))))) := by kernel_rfl
def d4 (v0 : BA) (v1 : List BA) (v2 v3 v4 v5 : Int) (v6 : BA) (v7 : List Int) (v8 v9 : Int) (v10 : BA) (c4 : t4) : Option R := o4 N v0 v1 v2 v3 v4 v5 v6 v7 v8 v9 v10 (d2 N · · · · · · · · · · · · c4)
theorem c116_4 : (c 116) = (.seq (c 232) (.seq (c 466) (.seq (.block 1 (.seq (c 3736) (.seq (c 7474) (.seq (c 14950) (c 14951))))) (c 935)))) := by kernel_rfl
theorem d4.run (Kn58 : QQ) (v0 : BA) (v1 : List BA) (v2 v3 v4 v5 : Int) (v6 : BA) (v7 : List Int) (v8 v9 : Int) (v10 : BA) : runC C (O N) N (c 116) 116 (s4 v0 v1 v2 v3 v4 v5 v6 v7 v8 v9 v10) (K116 N Kn58) = d4 N v0 v1 v2 v3 v4 v5 v6 v7 v8 v9 v10 (Kn58 <| s4 · · · · · · · · · · ·) := by
  rw [c116_4]; unfold d4; exact (o4.run N Kn58 (c 14951) v0 v1 v2 v3 v4 v5 v6 v7 v8 v9 v10).trans (congr rfl (fx12 (d2.run N Kn58)))
def K58 : Ex → QQ := (blockK 0 (onN (tk C (O N) N c 14 15 K0) K0))
mutual
def l1 (N : Nat) : Nat → BA → (List BA) → Int → Int → Int → Int → BA → Int → Int → BA → Option R
  | 0, _, _, _, _, _, _, _, _, _, _ => none
  | n + 1, v0, v1, v2, v3, v4, v5, v6, v7, v8, v9 => d1 N v0 v1 v2 v3 v4 v5 v6 v7 v8 v9 (l1 N n · · · · · · · · · ·) (l4 N n · · · · · · · · · · ·)
def l4 (N : Nat) : Nat → BA → (List BA) → Int → Int → Int → Int → BA → (List Int) → Int → Int → BA → Option R
  | 0, _, _, _, _, _, _, _, _, _, _, _ => none
  | n + 1, v0, v1, v2, v3, v4, v5, v6, v7, v8, v9, v10 => d4 N v0 v1 v2 v3 v4 v5 v6 v7 v8 v9 v10 (l4 N n · · · · · · · · · · ·)
end
theorem loop58 (N : Nat) : ∀ n, (∀ (v0 : BA) (v1 : List BA) (v2 v3 v4 v5 : Int) (v6 : BA) (v7 v8 : Int) (v9 : BA), iter (loopF C (O N) N (c 116) 58) n (s1 v0 v1 v2 v3 v4 v5 v6 v7 v8 v9) (K58 N) = l1 N n v0 v1 v2 v3 v4 v5 v6 v7 v8 v9) ∧ (∀ (v0 : BA) (v1 : List BA) (v2 v3 v4 v5 : Int) (v6 : BA) (v7 : List Int) (v8 v9 : Int) (v10 : BA), iter (loopF C (O N) N (c 116) 58) n (s4 v0 v1 v2 v3 v4 v5 v6 v7 v8 v9 v10) (K58 N) = l4 N n v0 v1 v2 v3 v4 v5 v6 v7 v8 v9 v10)
  | 0 => ⟨(by intros; rfl), (by intros; rfl)⟩
  | n + 1 => ⟨(fun v0 v1 v2 v3 v4 v5 v6 v7 v8 v9 => (d1.run N (fun s => iter (loopF C (O N) N (c 116) 58) n s (K58 N)) v0 v1 v2 v3 v4 v5 v6 v7 v8 v9).trans (show _ = d1 N v0 v1 v2 v3 v4 v5 v6 v7 v8 v9 (l1 N n · · · · · · · · · ·) (l4 N n · · · · · · · · · · ·) from (congr (congr rfl (fx10 ((loop58 N n).1))) (fx11 ((loop58 N n).2))))), (fun v0 v1 v2 v3 v4 v5 v6 v7 v8 v9 v10 => (d4.run N (fun s => iter (loopF C (O N) N (c 116) 58) n s (K58 N)) v0 v1 v2 v3 v4 v5 v6 v7 v8 v9 v10).trans (show _ = d4 N v0 v1 v2 v3 v4 v5 v6 v7 v8 v9 v10 (l4 N n · · · · · · · · · · ·) from (congr rfl (fx11 ((loop58 N n).2)))))⟩
def o0 (N : Nat) (a0 : BA) (a1 : List BA) (c1 : t1) : Option R :=
 c1 a0 a1 (a1.length : Int) 0 0 0 ⟨#[]⟩ 0 0 ⟨#[]⟩
theorem o0.run (H116 : Code) (a0 : BA) (a1 : List BA) : runC C (O N) N (.seq (c 2) (.seq (c 6) (.seq (.seq (c 28) (.block 0 (.loop H116))) (c 15)))) 1 (st0 [.one (.str a0), .one (.sl false 9 a1)] [] : St D0) K0 = o0 N a0 a1 ((fun w0 w1 w2 w3 w4 w5 w6 w7 w8 w9 => iter (loopF C (O N) N H116 58) N (s1 w0 w1 w2 w3 w4 w5 w6 w7 w8 w9) (blockK 0 (onN (tk C (O N) N c 14 15 K0) K0)))) := by kernel_rfl
def g (a0 : BA) (a1 : List BA) : Option R := o0 N a0 a1 (l1 N N · · · · · · · · · ·)
theorem c1_0 : (c 1) = (.seq (c 2) (.seq (c 6) (.seq (.seq (c 28) (.block 0 (.loop (c 116)))) (c 15)))) := by kernel_rfl
theorem g.run (a0 : BA) (a1 : List BA) : runC C (O N) N (c 1) 1 (st0 [.one (.str a0), .one (.sl false 9 a1)] [] : St D0) K0 = g N a0 a1 := by
  rw [c1_0]; unfold g; exact (o0.run N (c 116) a0 a1).trans (congr rfl (fx10 ((loop58 N N).1)))
def ent : Ent Tryz.prog T0 := mkEntC C tabOk0 mixed0 69 [(false, [.any]), (false, [.ro 9])] sig (E N) Tryz.func69 (by kernel_rfl) [(true, [.own 3, .any, .any, .any]), (false, [.any])] N (fun t => g N t.1 t.2) (fun _ => by kernel_rfl) (fun t => g.run N t.1 t.2)
end zq68
namespace zq26
variable (N : Nat)
abbrev R : Type := Int × Int × Bool
abbrev sig : Sig := ⟨[(true, 2)], [], [.i, .i], [(true, 2), (false, 1)], [], [.i, .i, .bool]⟩
noncomputable def C : Cfg D0 := ⟨Tryz.prog, T0, 79, 0, 10, 0, [], 0, false, []⟩
def E : List (Ent Tryz.prog T0) := [zq20.ent N, zq41.ent N]
def O : Orc D0 R := orcOf (E N)
def K0 : Ex → St D0 → Option R := exitK C Tryz.f98.results.toList [(true, [.any, .any]), (false, [.any])] (decOut sig)
noncomputable def c (p : Nat) : Code := codeAt (Tryz.f98.body.getD .skip) (pathN p)
def o0 (a0_0 a0_1 : Int) : Option R :=
 (zq20.g N a0_0 a0_1).bind fun r1 =>
 bif (!r1) then
  some (0, 0, false)
 else
 (zq41.g N a0_0 a0_1).bind fun r2 =>
 some (r2.1, r2.2, true)
def g (a0_0 a0_1 : Int) : Option R := o0 N a0_0 a0_1
theorem g.run (a0_0 a0_1 : Int) : runC C (O N) N (c 1) 1 (st0 [.agg [.i a0_0, .i a0_1]] [] : St D0) K0 = g N a0_0 a0_1 := by kernel_rfl
def ent : Ent Tryz.prog T0 := mkEntC C tabOk0 mixed0 98 [(true, [.any, .any])] sig (E N) Tryz.func98 (by kernel_rfl) [(true, [.any, .any]), (false, [.any])] N (fun t => g N t.1 t.2) (fun _ => by kernel_rfl) (fun t => g.run N t.1 t.2)
end zq26
namespace zq15
variable (N : Nat)
abbrev R : Type := Bool
abbrev sig : Sig := ⟨[(true, 7)], [], [.i, .i, .i, .i, .i, .i, .i], [(false, 1)], [], [.bool]⟩
noncomputable def C : Cfg D0 := ⟨Tryz.prog, T0, 7, 0, 13, 0, [], 0, false, []⟩
def E : List (Ent Tryz.prog T0) := [zq62.ent N, zq14.ent N]
def O : Orc D0 R := orcOf (E N)
def K0 : Ex → St D0 → Option R := exitK C Tryz.f14.results.toList [(false, [.any])] (decOut sig)
noncomputable def c (p : Nat) : Code := codeAt (Tryz.f14.body.getD .skip) (pathN p)
def o0 (a0_0 a0_1 a0_2 a0_3 a0_4 a0_5 a0_6 : Int) : Option R :=
 (zq62.g N a0_0 a0_1 a0_2).bind fun r1 =>
 bif r1 then
  (zq14.g N a0_3 a0_4 a0_5 a0_6).bind fun r2 =>
  some (r2)
 else
 some (false)
def g (a0_0 a0_1 a0_2 a0_3 a0_4 a0_5 a0_6 : Int) : Option R := o0 N a0_0 a0_1 a0_2 a0_3 a0_4 a0_5 a0_6
theorem g.run (a0_0 a0_1 a0_2 a0_3 a0_4 a0_5 a0_6 : Int) : runC C (O N) N (c 1) 1 (st0 [.agg [.i a0_0, .i a0_1, .i a0_2, .i a0_3, .i a0_4, .i a0_5, .i a0_6]] [] : St D0) K0 = g N a0_0 a0_1 a0_2 a0_3 a0_4 a0_5 a0_6 := by kernel_rfl
def ent : Ent Tryz.prog T0 := mkEntC C tabOk0 mixed0 14 [(true, [.any, .any, .any, .any, .any, .any, .any])] sig (E N) Tryz.func14 (by kernel_rfl) [(false, [.any])] N (fun t => g N t.1 t.2.1 t.2.2.1 t.2.2.2.1 t.2.2.2.2.1 t.2.2.2.2.2.1 t.2.2.2.2.2.2) (fun _ => by kernel_rfl) (fun t => g.run N t.1 t.2.1 t.2.2.1 t.2.2.2.1 t.2.2.2.2.1 t.2.2.2.2.2.1 t.2.2.2.2.2.2)
end zq15
namespace zq49
variable (N : Nat)
abbrev R : Type := Int × Int × Int × Int × Int × Int × Int × Bool × Bool
abbrev QQ : Type := St D0 → Option R
abbrev sig : Sig := ⟨[(true, 7), (false, 1), (true, 4)], [], [.i, .i, .i, .i, .i, .i, .i, .str, .sl false 3, .i, .i, .str], [(true, 7), (false, 1), (false, 1)], [], [.i, .i, .i, .i, .i, .i, .i, .bool, .bool]⟩
noncomputable def C : Cfg D0 := ⟨Tryz.prog, T0, 2536541560711016683249067886575, 0, 121, 0, [(30, [1, 3, 5, 6, 9, 10], [3, 5, 6, 10]), (60, [1, 3, 5, 6, 9, 10, 21], [3, 5, 6, 10]), (62, [3, 6, 9], [3, 6])], 30065332224, false, []⟩
def E : List (Ent Tryz.prog T0) := [zq25.ent N, zq28.ent N, zq2.ent N, zq23.ent N, zq26.ent N, zq10.ent N, zq15.ent N]
def O : Orc D0 R := orcOf (E N)
def K0 : Ex → QQ := exitK C Tryz.f70.results.toList [(true, [.any, .any, .any, .any, .any, .any, .any]), (false, [.any]), (false, [.any])] (decOut sig)
noncomputable def c (p : Nat) : Code := codeAt (Tryz.f70.body.getD .skip) (pathN p)
abbrev t1 : Type := BA → Bool → Bool → Int → Int → Int → Int → Int → Int → Int → (List Int) → Int → Int → BA → Int → Int → Int → Int → Int → Int → Int → Int → Int → Option R
abbrev t2 : Type := BA → Bool → Int → Int → Int → Int → Int → Int → Int → (List Int) → Int → Int → BA → Int → Int → Int → Int → Int → Int → Int → Int → Int → Option R
abbrev t3 : Type := Bool → Int → Int → Int → Int → Int → Int → Int → Int → Int → Int → Int → Int → Int → Int → Option R
def s1 (v0 : BA) (v1 v2 : Bool) (v3 v4 v5 v6 v7 v8 v9 : Int) (v10 : List Int) (v11 v12 : Int) (v13 : BA) (v14 v15 v16 v17 v18 v19 v20 v21 v22 : Int) : St D0 := mkSt [(1, .one (.str v0)), (3, .one (.ptr 3 0)), (5, .one (.ptr 5 0)), (6, .one (.ptr 6 0)), (9, .one (.bool v1)), (10, .one (.ptr 10 0)), (21, .one (.bool v2))] [(3, some (29, [.i v3, .i v4, .i v5, .i v6, .i v7, .i v8, .i v9])), (5, some (97, [.sl false 3 v10, .i v11, .i v12, .str v13])), (6, some (29, [.i v14, .i v15, .i v16, .i v17, .i v18, .i v19, .i v20])), (10, some (25, [.i v21, .i v22]))]
def s2 (v0 : BA) (v1 : Bool) (v2 v3 v4 v5 v6 v7 v8 : Int) (v9 : List Int) (v10 v11 : Int) (v12 : BA) (v13 v14 v15 v16 v17 v18 v19 v20 v21 : Int) : St D0 := mkSt [(1, .one (.str v0)), (3, .one (.ptr 3 0)), (5, .one (.ptr 5 0)), (6, .one (.ptr 6 0)), (9, .one (.bool v1)), (10, .one (.ptr 10 0))] [(3, some (29, [.i v2, .i v3, .i v4, .i v5, .i v6, .i v7, .i v8])), (5, some (97, [.sl false 3 v9, .i v10, .i v11, .str v12])), (6, some (29, [.i v13, .i v14, .i v15, .i v16, .i v17, .i v18, .i v19])), (10, some (25, [.i v20, .i v21]))]
def s3 (v0 : Bool) (v1 v2 v3 v4 v5 v6 v7 v8 v9 v10 v11 v12 v13 v14 : Int) : St D0 := mkSt [(3, .one (.ptr 3 0)), (6, .one (.ptr 6 0)), (9, .one (.bool v0))] [(3, some (29, [.i v1, .i v2, .i v3, .i v4, .i v5, .i v6, .i v7])), (6, some (29, [.i v8, .i v9, .i v10, .i v11, .i v12, .i v13, .i v14]))]
def K63 (N : Nat) : Ex → QQ := K0
def o3 (v0 : Bool) (v1 v2 v3 v4 v5 v6 v7 v8 v9 v10 v11 v12 v13 v14 : Int) : Option R :=
 bif v0 then
  (zq15.g N v1 v2 v3 v4 v5 v6 v7).bind fun r1 =>
  some (v1, v2, v3, v4, v5, v6, v7, r1, true)
 else
 some (v1, v2, v3, v4, v5, v6, v7, false, true)
def d3 (v0 : Bool) (v1 v2 v3 v4 v5 v6 v7 v8 v9 v10 v11 v12 v13 v14 : Int) : Option R := o3 N v0 v1 v2 v3 v4 v5 v6 v7 v8 v9 v10 v11 v12 v13 v14
theorem d3.run (v0 : Bool) (v1 v2 v3 v4 v5 v6 v7 v8 v9 v10 v11 v12 v13 v14 : Int) : runC C (O N) N (c 63) 63 (s3 v0 v1 v2 v3 v4 v5 v6 v7 v8 v9 v10 v11 v12 v13 v14) (K63 N) = d3 N v0 v1 v2 v3 v4 v5 v6 v7 v8 v9 v10 v11 v12 v13 v14 := by kernel_rfl
def K31 (N : Nat) : Ex → QQ := K0
def o2 (v0 : BA) (v1 : Bool) (v2 v3 v4 v5 v6 v7 v8 : Int) (v9 : List Int) (v10 v11 : Int) (v12 : BA) (v13 v14 v15 v16 v17 v18 v19 v20 v21 : Int) (c3 : t3) : Option R :=
 bif (v0.toList == (⟨#[100, 105, 97, 108]⟩ : BA).toList) then
  bif (decide (0 < (v9.length : Int))) then
   (v9[(0 : Int).toNat]?).bind fun x1 =>
   c3 v1 x1 v3 v4 v5 v6 v7 v8 v13 v14 v15 v16 v17 v18 v19
  else
  none
 else
 bif (v0.toList == (⟨#[115, 101, 116]⟩ : BA).toList) then
  (zq28.g N v2 v12).bind fun r2 =>
  c3 r2.2.2 v2 r2.1 r2.2.1 v5 v6 v7 v8 v13 v14 v15 v16 v17 v18 v19
 else
 bif (v0.toList == (⟨#[116, 117, 114, 110]⟩ : BA).toList) then
  c3 v1 v2 v20 v21 v5 v6 v7 v8 v13 v14 v15 v16 v17 v18 v19
 else
 bif (v0.toList == (⟨#[111, 110]⟩ : BA).toList) then
  (zq2.g N v3 v4 v20 v21).bind fun r3 =>
  c3 r3.2.2 v2 r3.1 r3.2.1 v5 v6 v7 v8 v13 v14 v15 v16 v17 v18 v19
 else
 bif (v0.toList == (⟨#[111, 102, 102]⟩ : BA).toList) then
  (zq23.g N v3 v4 v20 v21).bind fun r4 =>
  c3 r4.2.2 v2 r4.1 r4.2.1 v5 v6 v7 v8 v13 v14 v15 v16 v17 v18 v19
 else
 bif (v0.toList == (⟨#[109, 105, 114, 114, 111, 114]⟩ : BA).toList) then
  (zq26.g N v3 v4).bind fun r5 =>
  c3 r5.2.2 v2 r5.1 r5.2.1 v5 v6 v7 v8 v13 v14 v15 v16 v17 v18 v19
 else
 bif (v0.toList == (⟨#[115, 119, 97, 112]⟩ : BA).toList) then
  (zq10.g N v2 v3 v4).bind fun r6 =>
  c3 r6.2.2 v2 r6.1 r6.2.1 v5 v6 v7 v8 v13 v14 v15 v16 v17 v18 v19
 else
 bif (v0.toList == (⟨#[99, 108, 111, 99, 107]⟩ : BA).toList) then
  bif (decide (0 < (v9.length : Int))) then
   (v9[(0 : Int).toNat]?).bind fun x7 =>
   bif (decide (1 < (v9.length : Int))) then
    (v9[(1 : Int).toNat]?).bind fun x8 =>
    c3 v1 v2 v3 v4 v3 v4 x7 x8 v13 v14 v15 v16 v17 v18 v19
   else
   none
  else
  none
 else
 some (0, 0, 0, 0, 0, 0, 0, false, false)
theorem o2.run (H63 : Code) (v0 : BA) (v1 : Bool) (v2 v3 v4 v5 v6 v7 v8 : Int) (v9 : List Int) (v10 v11 : Int) (v12 : BA) (v13 v14 v15 v16 v17 v18 v19 v20 v21 : Int) : runC C (O N) N (.seq (c 62) H63) 31 (s2 v0 v1 v2 v3 v4 v5 v6 v7 v8 v9 v10 v11 v12 v13 v14 v15 v16 v17 v18 v19 v20 v21) K0 = o2 N v0 v1 v2 v3 v4 v5 v6 v7 v8 v9 v10 v11 v12 v13 v14 v15 v16 v17 v18 v19 v20 v21 ((fun w0 w1 w2 w3 w4 w5 w6 w7 w8 w9 w10 w11 w12 w13 w14 => runC C (O N) N H63 63 (s3 w0 w1 w2 w3 w4 w5 w6 w7 w8 w9 w10 w11 w12 w13 w14) K0)) := by kernel_rfl
def B31 : QQ := fun s' => runC C (O N) N (c 63) 63 s' (K63 N)
def d2 (v0 : BA) (v1 : Bool) (v2 v3 v4 v5 v6 v7 v8 : Int) (v9 : List Int) (v10 v11 : Int) (v12 : BA) (v13 v14 v15 v16 v17 v18 v19 v20 v21 : Int) : Option R := o2 N v0 v1 v2 v3 v4 v5 v6 v7 v8 v9 v10 v11 v12 v13 v14 v15 v16 v17 v18 v19 v20 v21 (d3 N · · · · · · · · · · · · · · ·)
theorem c31_2 : (c 31) = (.seq (c 62) (c 63)) := by kernel_rfl
theorem d2.run (v0 : BA) (v1 : Bool) (v2 v3 v4 v5 v6 v7 v8 : Int) (v9 : List Int) (v10 v11 : Int) (v12 : BA) (v13 v14 v15 v16 v17 v18 v19 v20 v21 : Int) : runC C (O N) N (c 31) 31 (s2 v0 v1 v2 v3 v4 v5 v6 v7 v8 v9 v10 v11 v12 v13 v14 v15 v16 v17 v18 v19 v20 v21) (K31 N) = d2 N v0 v1 v2 v3 v4 v5 v6 v7 v8 v9 v10 v11 v12 v13 v14 v15 v16 v17 v18 v19 v20 v21 := by
  rw [c31_2]; unfold d2; exact (o2.run N (c 63) v0 v1 v2 v3 v4 v5 v6 v7 v8 v9 v10 v11 v12 v13 v14 v15 v16 v17 v18 v19 v20 v21).trans (congr rfl (fx15 (d3.run N)))
def B15 : QQ := fun s' => runC C (O N) N (c 31) 31 s' (K31 N)
def K61 : Ex → QQ := (onN (fun s => C.tidy 30 s (B15 N)) K0)
def o1 (v0 : BA) (v1 v2 : Bool) (v3 v4 v5 v6 v7 v8 v9 : Int) (v10 : List Int) (v11 v12 : Int) (v13 : BA) (v14 v15 v16 v17 v18 v19 v20 v21 v22 : Int) (c2 : t2) : Option R :=
 bif v2 then
  bif (decide (0 < (v10.length : Int))) then
   (v10[(0 : Int).toNat]?).bind fun x1 =>
   bif (decide (1 < (v10.length : Int))) then
    (v10[(1 : Int).toNat]?).bind fun x2 =>
    (zq25.g N x1 x2).bind fun r3 =>
    bif (!r3.2.2) then
     some (0, 0, 0, 0, 0, 0, 0, false, true)
    else
    c2 v0 r3.2.2 v3 v4 v5 v6 v7 v8 v9 v10 v11 v12 v13 v14 v15 v16 v17 v18 v19 v20 r3.1 r3.2.1
   else
   none
  else
  none
 else
 c2 v0 v1 v3 v4 v5 v6 v7 v8 v9 v10 v11 v12 v13 v14 v15 v16 v17 v18 v19 v20 v21 v22
theorem o1.run (Kb15 : QQ) (v0 : BA) (v1 v2 : Bool) (v3 v4 v5 v6 v7 v8 v9 : Int) (v10 : List Int) (v11 v12 : Int) (v13 : BA) (v14 v15 v16 v17 v18 v19 v20 v21 v22 : Int) : runC C (O N) N (c 61) 61 (s1 v0 v1 v2 v3 v4 v5 v6 v7 v8 v9 v10 v11 v12 v13 v14 v15 v16 v17 v18 v19 v20 v21 v22) (onN (fun s => C.tidy 30 s Kb15) K0) = o1 N v0 v1 v2 v3 v4 v5 v6 v7 v8 v9 v10 v11 v12 v13 v14 v15 v16 v17 v18 v19 v20 v21 v22 (Kb15 <| s2 · · · · · · · · · · · · · · · · · · · · · ·) := by kernel_rfl
def d1 (v0 : BA) (v1 v2 : Bool) (v3 v4 v5 v6 v7 v8 v9 : Int) (v10 : List Int) (v11 v12 : Int) (v13 : BA) (v14 v15 v16 v17 v18 v19 v20 v21 v22 : Int) : Option R := o1 N v0 v1 v2 v3 v4 v5 v6 v7 v8 v9 v10 v11 v12 v13 v14 v15 v16 v17 v18 v19 v20 v21 v22 (d2 N · · · · · · · · · · · · · · · · · · · · · ·)
theorem d1.run (v0 : BA) (v1 v2 : Bool) (v3 v4 v5 v6 v7 v8 v9 : Int) (v10 : List Int) (v11 v12 : Int) (v13 : BA) (v14 v15 v16 v17 v18 v19 v20 v21 v22 : Int) : runC C (O N) N (c 61) 61 (s1 v0 v1 v2 v3 v4 v5 v6 v7 v8 v9 v10 v11 v12 v13 v14 v15 v16 v17 v18 v19 v20 v21 v22) (K61 N) = d1 N v0 v1 v2 v3 v4 v5 v6 v7 v8 v9 v10 v11 v12 v13 v14 v15 v16 v17 v18 v19 v20 v21 v22 := by
  unfold d1; exact (o1.run N (B15 N) v0 v1 v2 v3 v4 v5 v6 v7 v8 v9 v10 v11 v12 v13 v14 v15 v16 v17 v18 v19 v20 v21 v22).trans (congr rfl (fx22 (d2.run N)))
def o0 (N : Nat) (a0_0 a0_1 a0_2 a0_3 a0_4 a0_5 a0_6 : Int) (a1 : BA) (a2_0 : List Int) (a2_1 a2_2 : Int) (a2_3 : BA) (c1 : t1) : Option R :=
 bif (a1.toList == (⟨#[116, 117, 114, 110]⟩ : BA).toList) then
  c1 a1 true true a0_0 a0_1 a0_2 a0_3 a0_4 a0_5 a0_6 a2_0 a2_1 a2_2 a2_3 0 0 0 0 0 0 0 0 0
 else
 bif (a1.toList == (⟨#[111, 110]⟩ : BA).toList) then
  c1 a1 true true a0_0 a0_1 a0_2 a0_3 a0_4 a0_5 a0_6 a2_0 a2_1 a2_2 a2_3 0 0 0 0 0 0 0 0 0
 else
 c1 a1 true (a1.toList == (⟨#[111, 102, 102]⟩ : BA).toList) a0_0 a0_1 a0_2 a0_3 a0_4 a0_5 a0_6 a2_0 a2_1 a2_2 a2_3 0 0 0 0 0 0 0 0 0
theorem o0.run (H61 : Code) (a0_0 a0_1 a0_2 a0_3 a0_4 a0_5 a0_6 : Int) (a1 : BA) (a2_0 : List Int) (a2_1 a2_2 : Int) (a2_3 : BA) : runC C (O N) N (.seq (c 2) (.seq (c 6) (.seq (c 14) (.seq (.seq (c 60) H61) (c 31))))) 1 (st0 [.agg [.i a0_0, .i a0_1, .i a0_2, .i a0_3, .i a0_4, .i a0_5, .i a0_6], .one (.str a1), .agg [.sl false 3 a2_0, .i a2_1, .i a2_2, .str a2_3]] [] : St D0) K0 = o0 N a0_0 a0_1 a0_2 a0_3 a0_4 a0_5 a0_6 a1 a2_0 a2_1 a2_2 a2_3 ((fun w0 w1 w2 w3 w4 w5 w6 w7 w8 w9 w10 w11 w12 w13 w14 w15 w16 w17 w18 w19 w20 w21 w22 => runC C (O N) N H61 61 (s1 w0 w1 w2 w3 w4 w5 w6 w7 w8 w9 w10 w11 w12 w13 w14 w15 w16 w17 w18 w19 w20 w21 w22) (onN (tk C (O N) N c 30 31 K0) K0))) := by kernel_rfl
def g (a0_0 a0_1 a0_2 a0_3 a0_4 a0_5 a0_6 : Int) (a1 : BA) (a2_0 : List Int) (a2_1 a2_2 : Int) (a2_3 : BA) : Option R := o0 N a0_0 a0_1 a0_2 a0_3 a0_4 a0_5 a0_6 a1 a2_0 a2_1 a2_2 a2_3 (d1 N · · · · · · · · · · · · · · · · · · · · · · ·)
theorem c1_0 : (c 1) = (.seq (c 2) (.seq (c 6) (.seq (c 14) (.seq (.seq (c 60) (c 61)) (c 31))))) := by kernel_rfl
theorem g.run (a0_0 a0_1 a0_2 a0_3 a0_4 a0_5 a0_6 : Int) (a1 : BA) (a2_0 : List Int) (a2_1 a2_2 : Int) (a2_3 : BA) : runC C (O N) N (c 1) 1 (st0 [.agg [.i a0_0, .i a0_1, .i a0_2, .i a0_3, .i a0_4, .i a0_5, .i a0_6], .one (.str a1), .agg [.sl false 3 a2_0, .i a2_1, .i a2_2, .str a2_3]] [] : St D0) K0 = g N a0_0 a0_1 a0_2 a0_3 a0_4 a0_5 a0_6 a1 a2_0 a2_1 a2_2 a2_3 := by
  rw [c1_0]; unfold g; exact (o0.run N (c 61) a0_0 a0_1 a0_2 a0_3 a0_4 a0_5 a0_6 a1 a2_0 a2_1 a2_2 a2_3).trans (congr rfl (fx23 (d1.run N)))
def ent : Ent Tryz.prog T0 := mkEntC C tabOk0 mixed0 70 [(true, [.any, .any, .any, .any, .any, .any, .any]), (false, [.any]), (true, [.ro 3, .any, .any, .any])] sig (E N) Tryz.func70 (by kernel_rfl) [(true, [.any, .any, .any, .any, .any, .any, .any]), (false, [.any]), (false, [.any])] N (fun t => g N t.1 t.2.1 t.2.2.1 t.2.2.2.1 t.2.2.2.2.1 t.2.2.2.2.2.1 t.2.2.2.2.2.2.1 t.2.2.2.2.2.2.2.1 t.2.2.2.2.2.2.2.2.1 t.2.2.2.2.2.2.2.2.2.1 t.2.2.2.2.2.2.2.2.2.2.1 t.2.2.2.2.2.2.2.2.2.2.2) (fun _ => by kernel_rfl) (fun t => g.run N t.1 t.2.1 t.2.2.1 t.2.2.2.1 t.2.2.2.2.1 t.2.2.2.2.2.1 t.2.2.2.2.2.2.1 t.2.2.2.2.2.2.2.1 t.2.2.2.2.2.2.2.2.1 t.2.2.2.2.2.2.2.2.2.1 t.2.2.2.2.2.2.2.2.2.2.1 t.2.2.2.2.2.2.2.2.2.2.2)
end zq49
namespace zq46
variable (N : Nat)
abbrev R : Type := BA × Bool
abbrev sig : Sig := ⟨[(true, 7), (false, 1), (true, 4)], [], [.i, .i, .i, .i, .i, .i, .i, .str, .sl false 3, .i, .i, .str], [(false, 1), (false, 1)], [], [.str, .bool]⟩
noncomputable def C : Cfg D0 := ⟨Tryz.prog, T0, 22303468787993328608953803301326076406403055, 0, 168, 0, [], 280608331093432541559995782553446816662077688512512, false, []⟩
def E : List (Ent Tryz.prog T0) := [zq37.ent N, zq78.ent N, zq24.ent N, zq77.ent N, zq4.ent N, zq34.ent N, zq80.ent N, zq33.ent N, zq3.ent N, zq13.ent N, zq74.ent N, zq29.ent N, zq7.ent N, zq184.ent N, zq35.ent N, zq66.ent N, zq47.ent N]
def O : Orc D0 R := orcOf (E N)
def K0 : Ex → St D0 → Option R := exitK C Tryz.f71.results.toList [(false, [.any]), (false, [.any])] (decOut sig)
noncomputable def c (p : Nat) : Code := codeAt (Tryz.f71.body.getD .skip) (pathN p)
def o0 (a0_0 a0_1 a0_2 a0_3 a0_4 a0_5 a0_6 : Int) (a1 : BA) (a2_0 : List Int) (a2_1 a2_2 : Int) (a2_3 : BA) : Option R :=
 bif (a1.toList == (⟨#[115, 104, 111, 119]⟩ : BA).toList) then
  (zq37.g N a0_0 a0_1 a0_2).bind fun r1 =>
  some (r1.1, r1.2)
 else
 bif (a1.toList == (⟨#[119, 104, 101, 114, 101]⟩ : BA).toList) then
  (zq78.g N a0_1 a0_2).bind fun r2 =>
  some (r2, true)
 else
 bif (a1.toList == (⟨#[108, 111, 110, 103]⟩ : BA).toList) then
  (zq24.g N a0_0 a0_1 a0_2).bind fun r3 =>
  (zq77.g N r3.1 r3.2.1 r3.2.2).bind fun r4 =>
  some (r4.1, r4.2)
 else
 bif (a1.toList == (⟨#[97, 110, 103, 108, 101]⟩ : BA).toList) then
  (zq4.g N a0_0 a0_1 a0_2).bind fun r5 =>
  (zq77.g N r5.1 r5.2.1 r5.2.2).bind fun r6 =>
  some (r6.1, r6.2)
 else
 bif (a1.toList == (⟨#[115, 109, 97, 108, 108]⟩ : BA).toList) then
  (zq34.g N a0_0 a0_1 a0_2).bind fun r7 =>
  (zq77.g N r7.1 r7.2.1 r7.2.2).bind fun r8 =>
  some (r8.1, r8.2)
 else
 bif (a1.toList == (⟨#[119, 105, 116, 104]⟩ : BA).toList) then
  bif (decide (0 < (a2_0.length : Int))) then
   (a2_0[(0 : Int).toNat]?).bind fun x9 =>
   bif (decide (1 < (a2_0.length : Int))) then
    (a2_0[(1 : Int).toNat]?).bind fun x10 =>
    (zq80.g N a0_0 x9 x10).bind fun r11 =>
    some (r11.1, r11.2)
   else
   none
  else
  none
 else
 bif (a1.toList == (⟨#[115, 104, 111, 119, 110]⟩ : BA).toList) then
  (zq33.g N a0_3 a0_4 a0_5 a0_6 a2_1 a2_2).bind fun r12 =>
  (zq77.g N r12.1 r12.2.1 r12.2.2).bind fun r13 =>
  some (r13.1, r13.2)
 else
 bif (a1.toList == (⟨#[97, 104, 101, 97, 100]⟩ : BA).toList) then
  (zq3.g N a0_3 a0_4 a0_5 a0_6 a2_1 a2_2).bind fun r14 =>
  (zq77.g N r14.1 r14.2.1 r14.2.2).bind fun r15 =>
  some (r15.1, r15.2)
 else
 bif (a1.toList == (⟨#[114, 105, 103, 104, 116]⟩ : BA).toList) then
  (zq13.g N a0_3 a0_4 a0_5 a0_6).bind fun r16 =>
  (zq74.g N r16.1 r16.2.1 r16.2.2).bind fun r17 =>
  some (r17.1, r17.2)
 else
 bif (a1.toList == (⟨#[101, 118, 101, 114, 121]⟩ : BA).toList) then
  (zq29.g N a0_3 a0_4 a0_5 a0_6).bind fun r18 =>
  (zq74.g N r18.1 r18.2.1 r18.2.2).bind fun r19 =>
  some (r19.1, r19.2)
 else
 bif (a1.toList == (⟨#[117, 110, 115, 117, 114, 101]⟩ : BA).toList) then
  (zq7.g N a0_0).bind fun r20 =>
  (zq184.g N r20.1).bind fun r21 =>
  some (r21, r20.2)
 else
 bif (a1.toList == (⟨#[111, 116, 104, 101, 114]⟩ : BA).toList) then
  bif (decide (0 < (a2_0.length : Int))) then
   (a2_0[(0 : Int).toNat]?).bind fun x22 =>
   (zq35.g N a0_0 x22 a0_1 a0_2).bind fun r23 =>
   some (r23.1, r23.2)
  else
  none
 else
 bif (a1.toList == (⟨#[108, 101, 97, 112]⟩ : BA).toList) then
  bif (decide (0 < (a2_0.length : Int))) then
   (a2_0[(0 : Int).toNat]?).bind fun x24 =>
   (zq66.g N x24).bind fun r25 =>
   some (r25.1, r25.2)
  else
  none
 else
 bif (decide (0 < (a2_0.length : Int))) then
  (a2_0[(0 : Int).toNat]?).bind fun x26 =>
  bif (decide (1 < (a2_0.length : Int))) then
   (a2_0[(1 : Int).toNat]?).bind fun x27 =>
   bif (decide (2 < (a2_0.length : Int))) then
    (a2_0[(2 : Int).toNat]?).bind fun x28 =>
    (zq47.g N x26 x27 x28).bind fun r29 =>
    some (r29.1, r29.2)
   else
   none
  else
  none
 else
 none
def g (a0_0 a0_1 a0_2 a0_3 a0_4 a0_5 a0_6 : Int) (a1 : BA) (a2_0 : List Int) (a2_1 a2_2 : Int) (a2_3 : BA) : Option R := o0 N a0_0 a0_1 a0_2 a0_3 a0_4 a0_5 a0_6 a1 a2_0 a2_1 a2_2 a2_3
theorem g.run (a0_0 a0_1 a0_2 a0_3 a0_4 a0_5 a0_6 : Int) (a1 : BA) (a2_0 : List Int) (a2_1 a2_2 : Int) (a2_3 : BA) : runC C (O N) N (c 1) 1 (st0 [.agg [.i a0_0, .i a0_1, .i a0_2, .i a0_3, .i a0_4, .i a0_5, .i a0_6], .one (.str a1), .agg [.sl false 3 a2_0, .i a2_1, .i a2_2, .str a2_3]] [] : St D0) K0 = g N a0_0 a0_1 a0_2 a0_3 a0_4 a0_5 a0_6 a1 a2_0 a2_1 a2_2 a2_3 := by kernel_rfl
def ent : Ent Tryz.prog T0 := mkEntC C tabOk0 mixed0 71 [(true, [.any, .any, .any, .any, .any, .any, .any]), (false, [.any]), (true, [.ro 3, .any, .any, .any])] sig (E N) Tryz.func71 (by kernel_rfl) [(false, [.any]), (false, [.any])] N (fun t => g N t.1 t.2.1 t.2.2.1 t.2.2.2.1 t.2.2.2.2.1 t.2.2.2.2.2.1 t.2.2.2.2.2.2.1 t.2.2.2.2.2.2.2.1 t.2.2.2.2.2.2.2.2.1 t.2.2.2.2.2.2.2.2.2.1 t.2.2.2.2.2.2.2.2.2.2.1 t.2.2.2.2.2.2.2.2.2.2.2) (fun _ => by kernel_rfl) (fun t => g.run N t.1 t.2.1 t.2.2.1 t.2.2.2.1 t.2.2.2.2.1 t.2.2.2.2.2.1 t.2.2.2.2.2.2.1 t.2.2.2.2.2.2.2.1 t.2.2.2.2.2.2.2.2.1 t.2.2.2.2.2.2.2.2.2.1 t.2.2.2.2.2.2.2.2.2.2.1 t.2.2.2.2.2.2.2.2.2.2.2)
end zq46
namespace zq48
variable (N : Nat)
abbrev R : Type := Int × Int × Int × Int × Int × Int × Int × BA
abbrev QQ : Type := St D0 → Option R
abbrev sig : Sig := ⟨[(true, 7), (false, 1)], [], [.i, .i, .i, .i, .i, .i, .i, .str], [(true, 7), (false, 1)], [], [.i, .i, .i, .i, .i, .i, .i, .str]⟩
noncomputable def C : Cfg D0 := ⟨Tryz.prog, T0, 1209221255758989362233335, 0, 84, 0, [(60, [2, 4, 6, 7, 33], [2, 4]), (1022, [2, 4, 6, 9, 11, 12, 13, 14], [2, 4, 9, 11]), (2044, [2, 4, 6, 9, 11, 12, 13, 14, 58], [2, 4, 9, 11]), (2046, [2, 4, 11, 12, 14], [2, 4, 11])], 1062680064268800159416320, false, []⟩
def E : List (Ent Tryz.prog T0) := [zq188.ent N, zq53.ent N, zq68.ent N, zq49.ent N, zq37.ent N, zq46.ent N]
def O : Orc D0 R := orcOf (E N)
def K0 : Ex → QQ := exitK C Tryz.f39.results.toList [(true, [.any, .any, .any, .any, .any, .any, .any]), (false, [.any])] (decOut sig)
noncomputable def c (p : Nat) : Code := codeAt (Tryz.f39.body.getD .skip) (pathN p)
abbrev t1 : Type := (List BA) → BA → Bool → Int → Int → Int → Int → Int → Int → Int → Int → Int → Int → Int → Int → Int → Int → Option R
abbrev t2 : Type := (List BA) → Bool → Bool → BA → Bool → Int → Int → Int → Int → Int → Int → Int → Int → Int → Int → Int → Int → Int → Int → (List Int) → Int → Int → BA → Int → Int → Int → Int → Int → Int → Int → Option R
abbrev t3 : Type := (List BA) → Bool → Bool → BA → Int → Int → Int → Int → Int → Int → Int → Int → Int → Int → Int → Int → Int → Int → (List Int) → Int → Int → BA → Int → Int → Int → Int → Int → Int → Int → Option R
abbrev t4 : Type := Bool → BA → Int → Int → Int → Int → Int → Int → Int → Int → Int → Int → Int → Int → Int → Int → Int → Int → Int → Int → Int → Int → Int → Option R
def s1 (v0 : List BA) (v1 : BA) (v2 : Bool) (v3 v4 v5 v6 v7 v8 v9 v10 v11 v12 v13 v14 v15 v16 : Int) : St D0 := mkSt [(2, .one (.ptr 2 0)), (4, .one (.ptr 4 0)), (6, .one (.sl true 9 v0)), (7, .one (.str v1)), (33, .one (.bool v2))] [(2, some (29, [.i v3, .i v4, .i v5, .i v6, .i v7, .i v8, .i v9])), (4, some (29, [.i v10, .i v11, .i v12, .i v13, .i v14, .i v15, .i v16]))]
def s2 (v0 : List BA) (v1 v2 : Bool) (v3 : BA) (v4 : Bool) (v5 v6 v7 v8 v9 v10 v11 v12 v13 v14 v15 v16 v17 v18 : Int) (v19 : List Int) (v20 v21 : Int) (v22 : BA) (v23 v24 v25 v26 v27 v28 v29 : Int) : St D0 := mkSt [(2, .one (.ptr 2 0)), (4, .one (.ptr 4 0)), (6, .one (.sl true 9 v0)), (9, .one (.ptr 9 0)), (11, .one (.ptr 11 0)), (12, .one (.bool v1)), (13, .one (.bool v2)), (14, .one (.str v3)), (58, .one (.bool v4))] [(2, some (29, [.i v5, .i v6, .i v7, .i v8, .i v9, .i v10, .i v11])), (4, some (29, [.i v12, .i v13, .i v14, .i v15, .i v16, .i v17, .i v18])), (9, some (97, [.sl true 3 v19, .i v20, .i v21, .str v22])), (11, some (29, [.i v23, .i v24, .i v25, .i v26, .i v27, .i v28, .i v29]))]
def s3 (v0 : List BA) (v1 v2 : Bool) (v3 : BA) (v4 v5 v6 v7 v8 v9 v10 v11 v12 v13 v14 v15 v16 v17 : Int) (v18 : List Int) (v19 v20 : Int) (v21 : BA) (v22 v23 v24 v25 v26 v27 v28 : Int) : St D0 := mkSt [(2, .one (.ptr 2 0)), (4, .one (.ptr 4 0)), (6, .one (.sl true 9 v0)), (9, .one (.ptr 9 0)), (11, .one (.ptr 11 0)), (12, .one (.bool v1)), (13, .one (.bool v2)), (14, .one (.str v3))] [(2, some (29, [.i v4, .i v5, .i v6, .i v7, .i v8, .i v9, .i v10])), (4, some (29, [.i v11, .i v12, .i v13, .i v14, .i v15, .i v16, .i v17])), (9, some (97, [.sl true 3 v18, .i v19, .i v20, .str v21])), (11, some (29, [.i v22, .i v23, .i v24, .i v25, .i v26, .i v27, .i v28]))]
def s4 (v0 : Bool) (v1 : BA) (v2 v3 v4 v5 v6 v7 v8 v9 v10 v11 v12 v13 v14 v15 v16 v17 v18 v19 v20 v21 v22 : Int) : St D0 := mkSt [(2, .one (.ptr 2 0)), (4, .one (.ptr 4 0)), (11, .one (.ptr 11 0)), (12, .one (.bool v0)), (14, .one (.str v1))] [(2, some (29, [.i v2, .i v3, .i v4, .i v5, .i v6, .i v7, .i v8])), (4, some (29, [.i v9, .i v10, .i v11, .i v12, .i v13, .i v14, .i v15])), (11, some (29, [.i v16, .i v17, .i v18, .i v19, .i v20, .i v21, .i v22]))]
def K2047 (N : Nat) : Ex → QQ := K0
def o4 (N : Nat) (v0 : Bool) (v1 : BA) (v2 v3 v4 v5 v6 v7 v8 v9 v10 v11 v12 v13 v14 v15 v16 v17 v18 v19 v20 v21 v22 : Int) : Option R :=
 bif (!v0) then
  some (v2, v3, v4, v5, v6, v7, v8, (⟨#[110, 111]⟩ : BA))
 else
 some (v16, v17, v18, v19, v20, v21, v22, v1)
def d4 (v0 : Bool) (v1 : BA) (v2 v3 v4 v5 v6 v7 v8 v9 v10 v11 v12 v13 v14 v15 v16 v17 v18 v19 v20 v21 v22 : Int) : Option R := o4 N v0 v1 v2 v3 v4 v5 v6 v7 v8 v9 v10 v11 v12 v13 v14 v15 v16 v17 v18 v19 v20 v21 v22
theorem d4.run (v0 : Bool) (v1 : BA) (v2 v3 v4 v5 v6 v7 v8 v9 v10 v11 v12 v13 v14 v15 v16 v17 v18 v19 v20 v21 v22 : Int) : runC C (O N) N (c 2047) 2047 (s4 v0 v1 v2 v3 v4 v5 v6 v7 v8 v9 v10 v11 v12 v13 v14 v15 v16 v17 v18 v19 v20 v21 v22) (K2047 N) = d4 N v0 v1 v2 v3 v4 v5 v6 v7 v8 v9 v10 v11 v12 v13 v14 v15 v16 v17 v18 v19 v20 v21 v22 := by kernel_rfl
def K1023 (N : Nat) : Ex → QQ := K0
def o3 (v0 : List BA) (v1 v2 : Bool) (v3 : BA) (v4 v5 v6 v7 v8 v9 v10 v11 v12 v13 v14 v15 v16 v17 : Int) (v18 : List Int) (v19 v20 : Int) (v21 : BA) (v22 v23 v24 v25 v26 v27 v28 : Int) (c4 : t4) : Option R :=
 bif (!v2) then
  bif (decide (0 < (v0.length : Int))) then
   (v0[(0 : Int).toNat]?).bind fun x1 =>
   (zq46.g N v4 v5 v6 v7 v8 v9 v10 x1 v18 v19 v20 v21).bind fun r2 =>
   c4 r2.2 r2.1 v4 v5 v6 v7 v8 v9 v10 v11 v12 v13 v14 v15 v16 v17 v4 v5 v6 v7 v8 v9 v10
  else
  none
 else
 c4 v1 v3 v4 v5 v6 v7 v8 v9 v10 v11 v12 v13 v14 v15 v16 v17 v22 v23 v24 v25 v26 v27 v28
theorem o3.run (H2047 : Code) (v0 : List BA) (v1 v2 : Bool) (v3 : BA) (v4 v5 v6 v7 v8 v9 v10 v11 v12 v13 v14 v15 v16 v17 : Int) (v18 : List Int) (v19 v20 : Int) (v21 : BA) (v22 v23 v24 v25 v26 v27 v28 : Int) : runC C (O N) N (.seq (c 2046) H2047) 1023 (s3 v0 v1 v2 v3 v4 v5 v6 v7 v8 v9 v10 v11 v12 v13 v14 v15 v16 v17 v18 v19 v20 v21 v22 v23 v24 v25 v26 v27 v28) K0 = o3 N v0 v1 v2 v3 v4 v5 v6 v7 v8 v9 v10 v11 v12 v13 v14 v15 v16 v17 v18 v19 v20 v21 v22 v23 v24 v25 v26 v27 v28 ((fun w0 w1 w2 w3 w4 w5 w6 w7 w8 w9 w10 w11 w12 w13 w14 w15 w16 w17 w18 w19 w20 w21 w22 => runC C (O N) N H2047 2047 (s4 w0 w1 w2 w3 w4 w5 w6 w7 w8 w9 w10 w11 w12 w13 w14 w15 w16 w17 w18 w19 w20 w21 w22) K0)) := by kernel_rfl
def d3 (v0 : List BA) (v1 v2 : Bool) (v3 : BA) (v4 v5 v6 v7 v8 v9 v10 v11 v12 v13 v14 v15 v16 v17 : Int) (v18 : List Int) (v19 v20 : Int) (v21 : BA) (v22 v23 v24 v25 v26 v27 v28 : Int) : Option R := o3 N v0 v1 v2 v3 v4 v5 v6 v7 v8 v9 v10 v11 v12 v13 v14 v15 v16 v17 v18 v19 v20 v21 v22 v23 v24 v25 v26 v27 v28 (d4 N · · · · · · · · · · · · · · · · · · · · · · ·)
theorem c1023_3 : (c 1023) = (.seq (c 2046) (c 2047)) := by kernel_rfl
theorem d3.run (v0 : List BA) (v1 v2 : Bool) (v3 : BA) (v4 v5 v6 v7 v8 v9 v10 v11 v12 v13 v14 v15 v16 v17 : Int) (v18 : List Int) (v19 v20 : Int) (v21 : BA) (v22 v23 v24 v25 v26 v27 v28 : Int) : runC C (O N) N (c 1023) 1023 (s3 v0 v1 v2 v3 v4 v5 v6 v7 v8 v9 v10 v11 v12 v13 v14 v15 v16 v17 v18 v19 v20 v21 v22 v23 v24 v25 v26 v27 v28) (K1023 N) = d3 N v0 v1 v2 v3 v4 v5 v6 v7 v8 v9 v10 v11 v12 v13 v14 v15 v16 v17 v18 v19 v20 v21 v22 v23 v24 v25 v26 v27 v28 := by
  rw [c1023_3]; unfold d3; exact (o3.run N (c 2047) v0 v1 v2 v3 v4 v5 v6 v7 v8 v9 v10 v11 v12 v13 v14 v15 v16 v17 v18 v19 v20 v21 v22 v23 v24 v25 v26 v27 v28).trans (congr rfl (fx23 (d4.run N)))
def B511 : QQ := fun s' => runC C (O N) N (c 1023) 1023 s' (K1023 N)
def K2045 : Ex → QQ := (onN (fun s => C.tidy 1022 s (B511 N)) K0)
def o2 (v0 : List BA) (v1 v2 : Bool) (v3 : BA) (v4 : Bool) (v5 v6 v7 v8 v9 v10 v11 v12 v13 v14 v15 v16 v17 v18 : Int) (v19 : List Int) (v20 v21 : Int) (v22 : BA) (v23 v24 v25 v26 v27 v28 v29 : Int) (c3 : t3) : Option R :=
 bif v4 then
  (zq37.g N v23 v24 v25).bind fun r1 =>
  c3 v0 r1.2 v2 r1.1 v5 v6 v7 v8 v9 v10 v11 v12 v13 v14 v15 v16 v17 v18 v19 v20 v21 v22 v23 v24 v25 v26 v27 v28 v29
 else
 c3 v0 v1 v2 v3 v5 v6 v7 v8 v9 v10 v11 v12 v13 v14 v15 v16 v17 v18 v19 v20 v21 v22 v23 v24 v25 v26 v27 v28 v29
theorem o2.run (Kb511 : QQ) (v0 : List BA) (v1 v2 : Bool) (v3 : BA) (v4 : Bool) (v5 v6 v7 v8 v9 v10 v11 v12 v13 v14 v15 v16 v17 v18 : Int) (v19 : List Int) (v20 v21 : Int) (v22 : BA) (v23 v24 v25 v26 v27 v28 v29 : Int) : runC C (O N) N (c 2045) 2045 (s2 v0 v1 v2 v3 v4 v5 v6 v7 v8 v9 v10 v11 v12 v13 v14 v15 v16 v17 v18 v19 v20 v21 v22 v23 v24 v25 v26 v27 v28 v29) (onN (fun s => C.tidy 1022 s Kb511) K0) = o2 N v0 v1 v2 v3 v4 v5 v6 v7 v8 v9 v10 v11 v12 v13 v14 v15 v16 v17 v18 v19 v20 v21 v22 v23 v24 v25 v26 v27 v28 v29 (Kb511 <| s3 · · · · · · · · · · · · · · · · · · · · · · · · · · · · ·) := by kernel_rfl
def d2 (v0 : List BA) (v1 v2 : Bool) (v3 : BA) (v4 : Bool) (v5 v6 v7 v8 v9 v10 v11 v12 v13 v14 v15 v16 v17 v18 : Int) (v19 : List Int) (v20 v21 : Int) (v22 : BA) (v23 v24 v25 v26 v27 v28 v29 : Int) : Option R := o2 N v0 v1 v2 v3 v4 v5 v6 v7 v8 v9 v10 v11 v12 v13 v14 v15 v16 v17 v18 v19 v20 v21 v22 v23 v24 v25 v26 v27 v28 v29 (d3 N · · · · · · · · · · · · · · · · · · · · · · · · · · · · ·)
theorem d2.run (v0 : List BA) (v1 v2 : Bool) (v3 : BA) (v4 : Bool) (v5 v6 v7 v8 v9 v10 v11 v12 v13 v14 v15 v16 v17 v18 : Int) (v19 : List Int) (v20 v21 : Int) (v22 : BA) (v23 v24 v25 v26 v27 v28 v29 : Int) : runC C (O N) N (c 2045) 2045 (s2 v0 v1 v2 v3 v4 v5 v6 v7 v8 v9 v10 v11 v12 v13 v14 v15 v16 v17 v18 v19 v20 v21 v22 v23 v24 v25 v26 v27 v28 v29) (K2045 N) = d2 N v0 v1 v2 v3 v4 v5 v6 v7 v8 v9 v10 v11 v12 v13 v14 v15 v16 v17 v18 v19 v20 v21 v22 v23 v24 v25 v26 v27 v28 v29 := by
  unfold d2; exact (o2.run N (B511 N) v0 v1 v2 v3 v4 v5 v6 v7 v8 v9 v10 v11 v12 v13 v14 v15 v16 v17 v18 v19 v20 v21 v22 v23 v24 v25 v26 v27 v28 v29).trans (congr rfl (fx29 (d3.run N)))
def K61 : Ex → QQ := (onN (tk C (O N) N c 30 31 K0) K0)
def o1 (v0 : List BA) (v1 : BA) (v2 : Bool) (v3 v4 v5 v6 v7 v8 v9 v10 v11 v12 v13 v14 v15 v16 : Int) (c2 : t2) : Option R :=
 bif v2 then
  some (v3, v4, v5, v6, v7, v8, v9, (⟨#[119, 104, 97, 116]⟩ : BA))
 else
 bif (decide (0 ≤ (v0.length : Int))) then
  bif (decide ((v0.length : Int) ≤ (v0.length : Int))) then
   bif (decide (1 ≤ (v0.length : Int))) then
    (zq68.g N v1 ((v0.take ((v0.length : Int) : Int).toNat).drop (1 : Int).toNat)).bind fun r1 =>
    bif (!r1.2.2.2.2) then
     some (v3, v4, v5, v6, v7, v8, v9, (⟨#[119, 104, 97, 116]⟩ : BA))
    else
    bif (decide (0 < (v0.length : Int))) then
     (v0[(0 : Int).toNat]?).bind fun x2 =>
     (zq49.g N v3 v4 v5 v6 v7 v8 v9 x2 r1.1 r1.2.1 r1.2.2.1 r1.2.2.2.1).bind fun r3 =>
     bif r3.2.2.2.2.2.2.2.2 then
      c2 v0 r3.2.2.2.2.2.2.2.1 r3.2.2.2.2.2.2.2.2 (⟨#[]⟩ : BA) r3.2.2.2.2.2.2.2.1 v3 v4 v5 v6 v7 v8 v9 v10 v11 v12 v13 v14 v15 v16 r1.1 r1.2.1 r1.2.2.1 r1.2.2.2.1 r3.1 r3.2.1 r3.2.2.1 r3.2.2.2.1 r3.2.2.2.2.1 r3.2.2.2.2.2.1 r3.2.2.2.2.2.2.1
     else
     c2 v0 r3.2.2.2.2.2.2.2.1 r3.2.2.2.2.2.2.2.2 (⟨#[]⟩ : BA) false v3 v4 v5 v6 v7 v8 v9 v10 v11 v12 v13 v14 v15 v16 r1.1 r1.2.1 r1.2.2.1 r1.2.2.2.1 r3.1 r3.2.1 r3.2.2.1 r3.2.2.2.1 r3.2.2.2.2.1 r3.2.2.2.2.2.1 r3.2.2.2.2.2.2.1
    else
    none
   else
   none
  else
  none
 else
 none
theorem o1.run (H2045 : Code) (v0 : List BA) (v1 : BA) (v2 : Bool) (v3 v4 v5 v6 v7 v8 v9 v10 v11 v12 v13 v14 v15 v16 : Int) : runC C (O N) N (c 61) 61 (s1 v0 v1 v2 v3 v4 v5 v6 v7 v8 v9 v10 v11 v12 v13 v14 v15 v16) (onN (fun s => C.tidy 30 s (fun s' => runC C (O N) N (.seq (c 62) (.seq (c 126) (.seq (c 254) (.seq (c 510) (.seq (.seq (c 2044) H2045) (c 1023)))))) 31 s' K0)) K0) = o1 N v0 v1 v2 v3 v4 v5 v6 v7 v8 v9 v10 v11 v12 v13 v14 v15 v16 ((fun w0 w1 w2 w3 w4 w5 w6 w7 w8 w9 w10 w11 w12 w13 w14 w15 w16 w17 w18 w19 w20 w21 w22 w23 w24 w25 w26 w27 w28 w29 => runC C (O N) N H2045 2045 (s2 w0 w1 w2 w3 w4 w5 w6 w7 w8 w9 w10 w11 w12 w13 w14 w15 w16 w17 w18 w19 w20 w21 w22 w23 w24 w25 w26 w27 w28 w29) (onN (tk C (O N) N c 1022 1023 K0) K0))) := by kernel_rfl
def d1 (v0 : List BA) (v1 : BA) (v2 : Bool) (v3 v4 v5 v6 v7 v8 v9 v10 v11 v12 v13 v14 v15 v16 : Int) : Option R := o1 N v0 v1 v2 v3 v4 v5 v6 v7 v8 v9 v10 v11 v12 v13 v14 v15 v16 (d2 N · · · · · · · · · · · · · · · · · · · · · · · · · · · · · ·)
theorem d1.run (v0 : List BA) (v1 : BA) (v2 : Bool) (v3 v4 v5 v6 v7 v8 v9 v10 v11 v12 v13 v14 v15 v16 : Int) : runC C (O N) N (c 61) 61 (s1 v0 v1 v2 v3 v4 v5 v6 v7 v8 v9 v10 v11 v12 v13 v14 v15 v16) (K61 N) = d1 N v0 v1 v2 v3 v4 v5 v6 v7 v8 v9 v10 v11 v12 v13 v14 v15 v16 := by
  unfold d1; exact (o1.run N (c 2045) v0 v1 v2 v3 v4 v5 v6 v7 v8 v9 v10 v11 v12 v13 v14 v15 v16).trans (congr rfl (fx30 (d2.run N)))
def o0 (a0_0 a0_1 a0_2 a0_3 a0_4 a0_5 a0_6 : Int) (a1 : BA) (c1 : t1) : Option R :=
 (zq188.g N a1 (⟨#[32]⟩ : BA)).bind fun r1 =>
 bif (decide (0 < (r1.length : Int))) then
  (r1[(0 : Int).toNat]?).bind fun x2 =>
  (zq53.g N x2).bind fun r3 =>
  bif (!r3.2) then
   c1 r1 r3.1 true a0_0 a0_1 a0_2 a0_3 a0_4 a0_5 a0_6 0 0 0 0 0 0 0
  else
  c1 r1 r3.1 ((w64 ((r1.length : Int) - 1)) != (r3.1.size : Int)) a0_0 a0_1 a0_2 a0_3 a0_4 a0_5 a0_6 0 0 0 0 0 0 0
 else
 none
theorem o0.run (H61 : Code) (a0_0 a0_1 a0_2 a0_3 a0_4 a0_5 a0_6 : Int) (a1 : BA) : runC C (O N) N (.seq (c 2) (.seq (c 6) (.seq (c 14) (.seq (.seq (c 60) H61) (c 31))))) 1 (st0 [.agg [.i a0_0, .i a0_1, .i a0_2, .i a0_3, .i a0_4, .i a0_5, .i a0_6], .one (.str a1)] [] : St D0) K0 = o0 N a0_0 a0_1 a0_2 a0_3 a0_4 a0_5 a0_6 a1 ((fun w0 w1 w2 w3 w4 w5 w6 w7 w8 w9 w10 w11 w12 w13 w14 w15 w16 => runC C (O N) N H61 61 (s1 w0 w1 w2 w3 w4 w5 w6 w7 w8 w9 w10 w11 w12 w13 w14 w15 w16) (onN (tk C (O N) N c 30 31 K0) K0))) := by kernel_rfl
def g (a0_0 a0_1 a0_2 a0_3 a0_4 a0_5 a0_6 : Int) (a1 : BA) : Option R := o0 N a0_0 a0_1 a0_2 a0_3 a0_4 a0_5 a0_6 a1 (d1 N · · · · · · · · · · · · · · · · ·)
theorem c1_0 : (c 1) = (.seq (c 2) (.seq (c 6) (.seq (c 14) (.seq (.seq (c 60) (c 61)) (c 31))))) := by kernel_rfl
theorem g.run (a0_0 a0_1 a0_2 a0_3 a0_4 a0_5 a0_6 : Int) (a1 : BA) : runC C (O N) N (c 1) 1 (st0 [.agg [.i a0_0, .i a0_1, .i a0_2, .i a0_3, .i a0_4, .i a0_5, .i a0_6], .one (.str a1)] [] : St D0) K0 = g N a0_0 a0_1 a0_2 a0_3 a0_4 a0_5 a0_6 a1 := by
  rw [c1_0]; unfold g; exact (o0.run N (c 61) a0_0 a0_1 a0_2 a0_3 a0_4 a0_5 a0_6 a1).trans (congr rfl (fx17 (d1.run N)))
def ent : Ent Tryz.prog T0 := mkEntC C tabOk0 mixed0 39 [(true, [.any, .any, .any, .any, .any, .any, .any]), (false, [.any])] sig (E N) Tryz.func39 (by kernel_rfl) [(true, [.any, .any, .any, .any, .any, .any, .any]), (false, [.any])] N (fun t => g N t.1 t.2.1 t.2.2.1 t.2.2.2.1 t.2.2.2.2.1 t.2.2.2.2.2.1 t.2.2.2.2.2.2.1 t.2.2.2.2.2.2.2) (fun _ => by kernel_rfl) (fun t => g.run N t.1 t.2.1 t.2.2.1 t.2.2.2.1 t.2.2.2.2.1 t.2.2.2.2.2.1 t.2.2.2.2.2.2.1 t.2.2.2.2.2.2.2)
end zq48
namespace zq135
variable (N : Nat)
abbrev R : Type := BA
abbrev QQ : Type := St D0 → Option R
abbrev sig : Sig := ⟨[(false, 1)], [], [.str], [(false, 1)], [], [.str]⟩
noncomputable def C : Cfg D0 := ⟨Tryz.prog, T0, 705200157, 0, 32, 0, [(52, [3, 4], []), (214, [3, 15], []), (862, [3, 19], []), (55294, [29], [])], 0, false, []⟩
def E (N : Nat) : List (Ent Tryz.prog T0) := []
def O : Orc D0 R := orcOf (E N)
def K0 : Ex → QQ := exitK C Tryz.f118.results.toList [(false, [.any])] (decOut sig)
noncomputable def c (p : Nat) : Code := codeAt (Tryz.f118.body.getD .skip) (pathN p)
abbrev t1 : Type := BA → Bool → Option R
abbrev t2 : Type := BA → Bool → Option R
abbrev t3 : Type := BA → Bool → Option R
def s1 (v0 : BA) (v1 : Bool) : St D0 := mkSt [(3, .one (.str v0)), (4, .one (.bool v1))] []
def s2 (v0 : BA) (v1 : Bool) : St D0 := mkSt [(3, .one (.str v0)), (15, .one (.bool v1))] []
def s3 (v0 : BA) (v1 : Bool) : St D0 := mkSt [(3, .one (.str v0)), (19, .one (.bool v1))] []
def s4 (v0 : Bool) : St D0 := mkSt [(29, .one (.bool v0))] []
def K55295 : Ex → QQ := (blockK 0 (onN (tk C (O N) N c 6 7 K0) K0))
def o4 (N : Nat) (v0 : Bool) : Option R :=
 bif v0 then
  some ((⟨#[115]⟩ : BA))
 else
 some ((⟨#[63]⟩ : BA))
def d4 (v0 : Bool) : Option R := o4 N v0
theorem d4.run (v0 : Bool) : runC C (O N) N (c 55295) 55295 (s4 v0) (K55295 N) = d4 N v0 := by kernel_rfl
def K863 : Ex → QQ := (blockK 0 (onN (tk C (O N) N c 6 7 K0) K0))
def o3 (N : Nat) (v0 : BA) (v1 : Bool) (c4 : Bool → Option R) : Option R :=
 bif v1 then
  some ((⟨#[110, 110]⟩ : BA))
 else
 bif (v0.toList == (⟨#[98, 101, 115, 116]⟩ : BA).toList) then
  some ((⟨#[110, 110, 110]⟩ : BA))
 else
 bif (v0.toList == (⟨#[115, 101, 116]⟩ : BA).toList) then
  some ((⟨#[116]⟩ : BA))
 else
 bif (v0.toList == (⟨#[115, 104, 111, 119, 110]⟩ : BA).toList) then
  c4 true
 else
 c4 (v0.toList == (⟨#[97, 104, 101, 97, 100]⟩ : BA).toList)
theorem o3.run (H55295 : Code) (v0 : BA) (v1 : Bool) : runC C (O N) N (.cond (.tmp 19) (c 1726) (.seq (c 3454) (.cond (.tmp 25) (c 6910) (.seq (c 13822) (.cond (.tmp 27) (c 27646) (.seq (c 55294) H55295)))))) 863 (s3 v0 v1) (blockK 0 (onN (tk C (O N) N c 6 7 K0) K0)) = o3 N v0 v1 ((fun w0 => runC C (O N) N H55295 55295 (s4 w0) (blockK 0 (onN (tk C (O N) N c 6 7 K0) K0)))) := by kernel_rfl
def d3 (v0 : BA) (v1 : Bool) : Option R := o3 N v0 v1 ((fun w0 => d4 N w0))
theorem c863_3 : (c 863) = (.cond (.tmp 19) (c 1726) (.seq (c 3454) (.cond (.tmp 25) (c 6910) (.seq (c 13822) (.cond (.tmp 27) (c 27646) (.seq (c 55294) (c 55295))))))) := by kernel_rfl
theorem d3.run (v0 : BA) (v1 : Bool) : runC C (O N) N (c 863) 863 (s3 v0 v1) (K863 N) = d3 N v0 v1 := by
  rw [c863_3]; unfold d3; exact (o3.run N (c 55295) v0 v1).trans (congr rfl (fx1 (d4.run N)))
def K215 : Ex → QQ := (blockK 0 (onN (tk C (O N) N c 6 7 K0) K0))
def o2 (N : Nat) (v0 : BA) (v1 : Bool) (c3 : t3) : Option R :=
 bif v1 then
  some ((⟨#[110]⟩ : BA))
 else
 bif (v0.toList == (⟨#[116, 117, 114, 110]⟩ : BA).toList) then
  c3 v0 true
 else
 bif (v0.toList == (⟨#[111, 110]⟩ : BA).toList) then
  c3 v0 true
 else
 bif (v0.toList == (⟨#[111, 102, 102]⟩ : BA).toList) then
  c3 v0 true
 else
 bif (v0.toList == (⟨#[99, 108, 111, 99, 107]⟩ : BA).toList) then
  c3 v0 true
 else
 c3 v0 (v0.toList == (⟨#[119, 105, 116, 104]⟩ : BA).toList)
theorem o2.run (H863 : Code) (v0 : BA) (v1 : Bool) : runC C (O N) N (.cond (.tmp 15) (c 430) (.seq (c 862) H863)) 215 (s2 v0 v1) (blockK 0 (onN (tk C (O N) N c 6 7 K0) K0)) = o2 N v0 v1 ((fun w0 w1 => runC C (O N) N H863 863 (s3 w0 w1) (blockK 0 (onN (tk C (O N) N c 6 7 K0) K0)))) := by kernel_rfl
def d2 (v0 : BA) (v1 : Bool) : Option R := o2 N v0 v1 ((fun w0 w1 => d3 N w0 w1))
theorem c215_2 : (c 215) = (.cond (.tmp 15) (c 430) (.seq (c 862) (c 863))) := by kernel_rfl
theorem d2.run (v0 : BA) (v1 : Bool) : runC C (O N) N (c 215) 215 (s2 v0 v1) (K215 N) = d2 N v0 v1 := by
  rw [c215_2]; unfold d2; exact (o2.run N (c 863) v0 v1).trans (congr rfl (fx2 (d3.run N)))
def K53 : Ex → QQ := (blockK 0 (onN (tk C (O N) N c 6 7 K0) K0))
def o1 (N : Nat) (v0 : BA) (v1 : Bool) (c2 : t2) : Option R :=
 bif v1 then
  some ((⟨#[]⟩ : BA))
 else
 bif (v0.toList == (⟨#[100, 105, 97, 108]⟩ : BA).toList) then
  c2 v0 true
 else
 bif (v0.toList == (⟨#[111, 116, 104, 101, 114]⟩ : BA).toList) then
  c2 v0 true
 else
 c2 v0 (v0.toList == (⟨#[108, 101, 97, 112]⟩ : BA).toList)
theorem o1.run (H215 : Code) (v0 : BA) (v1 : Bool) : runC C (O N) N (.cond (.tmp 4) (c 106) (.seq (c 214) H215)) 53 (s1 v0 v1) (blockK 0 (onN (tk C (O N) N c 6 7 K0) K0)) = o1 N v0 v1 ((fun w0 w1 => runC C (O N) N H215 215 (s2 w0 w1) (blockK 0 (onN (tk C (O N) N c 6 7 K0) K0)))) := by kernel_rfl
def d1 (v0 : BA) (v1 : Bool) : Option R := o1 N v0 v1 ((fun w0 w1 => d2 N w0 w1))
theorem c53_1 : (c 53) = (.cond (.tmp 4) (c 106) (.seq (c 214) (c 215))) := by kernel_rfl
theorem d1.run (v0 : BA) (v1 : Bool) : runC C (O N) N (c 53) 53 (s1 v0 v1) (K53 N) = d1 N v0 v1 := by
  rw [c53_1]; unfold d1; exact (o1.run N (c 215) v0 v1).trans (congr rfl (fx2 (d2.run N)))
def o0 (N : Nat) (a0 : BA) (c1 : t1) : Option R :=
 bif (a0.toList == (⟨#[109, 105, 114, 114, 111, 114]⟩ : BA).toList) then
  c1 a0 true
 else
 bif (a0.toList == (⟨#[115, 119, 97, 112]⟩ : BA).toList) then
  c1 a0 true
 else
 bif (a0.toList == (⟨#[115, 104, 111, 119]⟩ : BA).toList) then
  c1 a0 true
 else
 bif (a0.toList == (⟨#[119, 104, 101, 114, 101]⟩ : BA).toList) then
  c1 a0 true
 else
 bif (a0.toList == (⟨#[108, 111, 110, 103]⟩ : BA).toList) then
  c1 a0 true
 else
 bif (a0.toList == (⟨#[97, 110, 103, 108, 101]⟩ : BA).toList) then
  c1 a0 true
 else
 bif (a0.toList == (⟨#[115, 109, 97, 108, 108]⟩ : BA).toList) then
  c1 a0 true
 else
 bif (a0.toList == (⟨#[114, 105, 103, 104, 116]⟩ : BA).toList) then
  c1 a0 true
 else
 bif (a0.toList == (⟨#[101, 118, 101, 114, 121]⟩ : BA).toList) then
  c1 a0 true
 else
 c1 a0 (a0.toList == (⟨#[117, 110, 115, 117, 114, 101]⟩ : BA).toList)
theorem o0.run (H53 : Code) (a0 : BA) : runC C (O N) N (.seq (c 2) (.seq (.seq (c 12) (.block 0 (.seq (c 52) H53))) (c 7))) 1 (st0 [.one (.str a0)] [] : St D0) K0 = o0 N a0 ((fun w0 w1 => runC C (O N) N H53 53 (s1 w0 w1) (blockK 0 (onN (tk C (O N) N c 6 7 K0) K0)))) := by kernel_rfl
def g (a0 : BA) : Option R := o0 N a0 ((fun w0 w1 => d1 N w0 w1))
theorem c1_0 : (c 1) = (.seq (c 2) (.seq (.seq (c 12) (.block 0 (.seq (c 52) (c 53)))) (c 7))) := by kernel_rfl
theorem g.run (a0 : BA) : runC C (O N) N (c 1) 1 (st0 [.one (.str a0)] [] : St D0) K0 = g N a0 := by
  rw [c1_0]; unfold g; exact (o0.run N (c 53) a0).trans (congr rfl (fx2 (d1.run N)))
def ent : Ent Tryz.prog T0 := mkEntC C tabOk0 mixed0 118 [(false, [.any])] sig (E N) Tryz.func118 (by kernel_rfl) [(false, [.any])] N (fun t => g N t) (fun _ => by kernel_rfl) (fun t => g.run N t)
end zq135
namespace zq133
variable (N : Nat)
abbrev R : Type := BA × Int × Int × Int × Int × Int × Int × Int × BA × Int × Int × List Int × Bool
abbrev QQ : Type := St D0 → Option R
abbrev sig : Sig := ⟨[(true, 7), (false, 1)], [], [.i, .i, .i, .i, .i, .i, .i, .str], [(false, 1), (true, 11), (false, 1)], [], [.str, .i, .i, .i, .i, .i, .i, .i, .str, .i, .i, .sl true 3, .bool]⟩
noncomputable def C : Cfg D0 := ⟨Tryz.prog, T0, 36970051006592204791, 2434970358467417604096, 72, 0, [(506, [5, 7, 8, 9, 30, 31, 32], [5, 7]), (129638, [5, 7, 8, 9, 12, 30, 31, 32], [5, 7])], 314171132408473387008, false, []⟩
def E : List (Ent Tryz.prog T0) := [zq178.ent N, zq135.ent N, zq176.ent N, zq120.ent N]
def O : Orc D0 R := orcOf (E N)
def K0 : Ex → QQ := exitK C Tryz.f74.results.toList [(false, [.any]), (true, [.any, .any, .any, .any, .any, .any, .any, .any, .any, .any, .own 3]), (false, [.any])] (decOut sig)
noncomputable def c (p : Nat) : Code := codeAt (Tryz.f74.body.getD .skip) (pathN p)
abbrev t1 : Type := (List BA) → BA → (List BA) → Int → Int → Int → Int → Int → Int → Int → Int → Int → BA → Int → Int → Int → Int → Int → Int → Int → Int → Int → BA → Int → Int → Option R
abbrev t2 : Type := (List BA) → BA → Bool → (List BA) → Int → Int → Int → Int → Int → Int → Int → Int → Int → BA → Int → Int → Int → Int → Int → Int → Int → Int → Int → BA → Int → Int → (List Int) → Option R
abbrev t3 : Type := (List BA) → BA → Bool → (List BA) → Int → Int → Int → Int → Int → Int → Int → Int → Int → BA → Int → Int → Int → Int → Int → Int → Int → Int → Int → BA → Int → Int → Option R
abbrev t4 : Type := (List BA) → BA → (List BA) → Int → Int → Int → Int → Int → Int → Int → Int → Int → BA → Int → Int → Int → Int → Int → Int → Int → Int → Int → BA → Int → Int → (List Int) → Option R
def s1 (v0 : List BA) (v1 : BA) (v2 : List BA) (v3 v4 v5 v6 v7 v8 v9 v10 v11 : Int) (v12 : BA) (v13 v14 v15 v16 v17 v18 v19 v20 v21 : Int) (v22 : BA) (v23 v24 : Int) : St D0 := mkSt [(5, .one (.ptr 5 0)), (7, .one (.ptr 7 0)), (8, .one (.sl true 9 v0)), (9, .one (.str v1)), (30, .one (.sl false 9 v2)), (31, .one (.i v3)), (32, .one (.i v4))] [(5, some (104, [.i v5, .i v6, .i v7, .i v8, .i v9, .i v10, .i v11, .str v12, .i v13, .i v14, .nl])), (7, some (104, [.i v15, .i v16, .i v17, .i v18, .i v19, .i v20, .i v21, .str v22, .i v23, .i v24, .nl]))]
def s2 (v0 : List BA) (v1 : BA) (v2 : Bool) (v3 : List BA) (v4 v5 v6 v7 v8 v9 v10 v11 v12 : Int) (v13 : BA) (v14 v15 v16 v17 v18 v19 v20 v21 v22 : Int) (v23 : BA) (v24 v25 : Int) (v26 : List Int) : St D0 := mkSt [(5, .one (.ptr 5 0)), (7, .one (.ptr 7 0)), (8, .one (.sl true 9 v0)), (9, .one (.str v1)), (12, .one (.bool v2)), (30, .one (.sl false 9 v3)), (31, .one (.i v4)), (32, .one (.i v5))] [(5, some (104, [.i v6, .i v7, .i v8, .i v9, .i v10, .i v11, .i v12, .str v13, .i v14, .i v15, .nl])), (7, some (104, [.i v16, .i v17, .i v18, .i v19, .i v20, .i v21, .i v22, .str v23, .i v24, .i v25, .sl true 3 v26]))]
def s3 (v0 : List BA) (v1 : BA) (v2 : Bool) (v3 : List BA) (v4 v5 v6 v7 v8 v9 v10 v11 v12 : Int) (v13 : BA) (v14 v15 v16 v17 v18 v19 v20 v21 v22 : Int) (v23 : BA) (v24 v25 : Int) : St D0 := mkSt [(5, .one (.ptr 5 0)), (7, .one (.ptr 7 0)), (8, .one (.sl true 9 v0)), (9, .one (.str v1)), (12, .one (.bool v2)), (30, .one (.sl false 9 v3)), (31, .one (.i v4)), (32, .one (.i v5))] [(5, some (104, [.i v6, .i v7, .i v8, .i v9, .i v10, .i v11, .i v12, .str v13, .i v14, .i v15, .nl])), (7, some (104, [.i v16, .i v17, .i v18, .i v19, .i v20, .i v21, .i v22, .str v23, .i v24, .i v25, .nl]))]
def s4 (v0 : List BA) (v1 : BA) (v2 : List BA) (v3 v4 v5 v6 v7 v8 v9 v10 v11 : Int) (v12 : BA) (v13 v14 v15 v16 v17 v18 v19 v20 v21 : Int) (v22 : BA) (v23 v24 : Int) (v25 : List Int) : St D0 := mkSt [(5, .one (.ptr 5 0)), (7, .one (.ptr 7 0)), (8, .one (.sl true 9 v0)), (9, .one (.str v1)), (30, .one (.sl false 9 v2)), (31, .one (.i v3)), (32, .one (.i v4))] [(5, some (104, [.i v5, .i v6, .i v7, .i v8, .i v9, .i v10, .i v11, .str v12, .i v13, .i v14, .nl])), (7, some (104, [.i v15, .i v16, .i v17, .i v18, .i v19, .i v20, .i v21, .str v22, .i v23, .i v24, .sl true 3 v25]))]
def K129639 (Kn506 : QQ) : Ex → QQ := (blockK 1 ((fun up => (onN (tk C (O N) N c 8102 8103 up) up)) ((fun up => (onN (fun s => C.tidy 506 s ((onN Kn506 up) .normal)) (onN Kn506 up))) (blockK 0 (onN (tk C (O N) N c 126 127 K0) K0)))))
def o2 (N : Nat) (v0 : List BA) (v1 : BA) (v2 : Bool) (v3 : List BA) (v4 v5 v6 v7 v8 v9 v10 v11 v12 : Int) (v13 : BA) (v14 v15 v16 v17 v18 v19 v20 v21 v22 : Int) (v23 : BA) (v24 v25 : Int) (v26 : List Int) (c4 : t4) : Option R :=
 bif (!v2) then
  some ((⟨#[]⟩ : BA), v16, v17, v18, v19, v20, v21, v22, v23, v24, v25, v26, false)
 else
 c4 v0 v1 v3 v4 (w64 (v5 + 1)) v6 v7 v8 v9 v10 v11 v12 v13 v14 v15 v16 v17 v18 v19 v20 v21 v22 v23 v24 v25 v26
def d2 (v0 : List BA) (v1 : BA) (v2 : Bool) (v3 : List BA) (v4 v5 v6 v7 v8 v9 v10 v11 v12 : Int) (v13 : BA) (v14 v15 v16 v17 v18 v19 v20 v21 v22 : Int) (v23 : BA) (v24 v25 : Int) (v26 : List Int) (c4 : t4) : Option R := o2 N v0 v1 v2 v3 v4 v5 v6 v7 v8 v9 v10 v11 v12 v13 v14 v15 v16 v17 v18 v19 v20 v21 v22 v23 v24 v25 v26 c4
theorem d2.run (Kn506 : QQ) (v0 : List BA) (v1 : BA) (v2 : Bool) (v3 : List BA) (v4 v5 v6 v7 v8 v9 v10 v11 v12 : Int) (v13 : BA) (v14 v15 v16 v17 v18 v19 v20 v21 v22 : Int) (v23 : BA) (v24 v25 : Int) (v26 : List Int) : runC C (O N) N (c 129639) 129639 (s2 v0 v1 v2 v3 v4 v5 v6 v7 v8 v9 v10 v11 v12 v13 v14 v15 v16 v17 v18 v19 v20 v21 v22 v23 v24 v25 v26) (K129639 N Kn506) = d2 N v0 v1 v2 v3 v4 v5 v6 v7 v8 v9 v10 v11 v12 v13 v14 v15 v16 v17 v18 v19 v20 v21 v22 v23 v24 v25 v26 (Kn506 <| s4 · · · · · · · · · · · · · · · · · · · · · · · · · ·) := by kernel_rfl
def o3 (N : Nat) (v0 : List BA) (v1 : BA) (v2 : Bool) (v3 : List BA) (v4 v5 v6 v7 v8 v9 v10 v11 v12 : Int) (v13 : BA) (v14 v15 v16 v17 v18 v19 v20 v21 v22 : Int) (v23 : BA) (v24 v25 : Int) (c1 : t1) : Option R :=
 bif (!v2) then
  some ((⟨#[]⟩ : BA), v16, v17, v18, v19, v20, v21, v22, v23, v24, v25, ([] : List Int), false)
 else
 c1 v0 v1 v3 v4 (w64 (v5 + 1)) v6 v7 v8 v9 v10 v11 v12 v13 v14 v15 v16 v17 v18 v19 v20 v21 v22 v23 v24 v25
def d3 (v0 : List BA) (v1 : BA) (v2 : Bool) (v3 : List BA) (v4 v5 v6 v7 v8 v9 v10 v11 v12 : Int) (v13 : BA) (v14 v15 v16 v17 v18 v19 v20 v21 v22 : Int) (v23 : BA) (v24 v25 : Int) (c1 : t1) : Option R := o3 N v0 v1 v2 v3 v4 v5 v6 v7 v8 v9 v10 v11 v12 v13 v14 v15 v16 v17 v18 v19 v20 v21 v22 v23 v24 v25 c1
theorem d3.run (Kn506 : QQ) (v0 : List BA) (v1 : BA) (v2 : Bool) (v3 : List BA) (v4 v5 v6 v7 v8 v9 v10 v11 v12 : Int) (v13 : BA) (v14 v15 v16 v17 v18 v19 v20 v21 v22 : Int) (v23 : BA) (v24 v25 : Int) : runC C (O N) N (c 129639) 129639 (s3 v0 v1 v2 v3 v4 v5 v6 v7 v8 v9 v10 v11 v12 v13 v14 v15 v16 v17 v18 v19 v20 v21 v22 v23 v24 v25) (K129639 N Kn506) = d3 N v0 v1 v2 v3 v4 v5 v6 v7 v8 v9 v10 v11 v12 v13 v14 v15 v16 v17 v18 v19 v20 v21 v22 v23 v24 v25 (Kn506 <| s1 · · · · · · · · · · · · · · · · · · · · · · · · ·) := by kernel_rfl
def K1012 (Kn506 : QQ) : Ex → QQ := ((fun up => (onN (fun s => C.tidy 506 s ((onN Kn506 up) .normal)) (onN Kn506 up))) (blockK 0 (onN (tk C (O N) N c 126 127 K0) K0)))
def o1 (v0 : List BA) (v1 : BA) (v2 : List BA) (v3 v4 v5 v6 v7 v8 v9 v10 v11 : Int) (v12 : BA) (v13 v14 v15 v16 v17 v18 v19 v20 v21 : Int) (v22 : BA) (v23 v24 : Int) (c2 : t2) (c3 : t3) : Option R :=
 bif (decide (v4 < v3)) then
  bif (decide (0 ≤ v4)) then
   bif (decide (v4 < (v2.length : Int))) then
    (v2[(v4 : Int).toNat]?).bind fun x1 =>
    bif (decide (0 ≤ v4)) then
     bif (decide (v4 < (v1.size : Int))) then
      bif ((bt v1 v4) == 110) then
       (zq176.g N x1).bind fun r2 =>
       bif (Nat.blt (([] : List Int).length + ([r2] : List Int).length) 17592186044416) then
        c2 v0 v1 (decide (r2 ≥ 0)) v2 v3 v4 v5 v6 v7 v8 v9 v10 v11 v12 v13 v14 v15 v16 v17 v18 v19 v20 v21 v22 v23 v24 (([] : List Int) ++ ([r2] : List Int))
       else
       none
      else
      bif ((bt v1 v4) == 116) then
       c3 v0 v1 true v2 v3 v4 v5 v6 v7 v8 v9 v10 v11 v12 v13 v14 v15 v16 v17 v18 v19 v20 v21 x1 v23 v24
      else
      bif ((bt v1 v4) == 115) then
       (zq120.g N x1).bind fun r3 =>
       c3 v0 v1 r3.2.2 v2 v3 v4 v5 v6 v7 v8 v9 v10 v11 v12 v13 v14 v15 v16 v17 v18 v19 v20 v21 v22 r3.1 r3.2.1
      else
      c3 v0 v1 false v2 v3 v4 v5 v6 v7 v8 v9 v10 v11 v12 v13 v14 v15 v16 v17 v18 v19 v20 v21 v22 v23 v24
     else
     none
    else
    none
   else
   none
  else
  none
 else
 bif (decide (0 < (v0.length : Int))) then
  (v0[(0 : Int).toNat]?).bind fun x4 =>
  some (x4, v15, v16, v17, v18, v19, v20, v21, v22, v23, v24, ([] : List Int), true)
 else
 none
theorem o1.run (Kn506 : QQ) (H129639 : Code) (v0 : List BA) (v1 : BA) (v2 : List BA) (v3 v4 v5 v6 v7 v8 v9 v10 v11 : Int) (v12 : BA) (v13 v14 v15 v16 v17 v18 v19 v20 v21 : Int) (v22 : BA) (v23 v24 : Int) : runC C (O N) N (.seq (c 2024) (.seq (c 4050) (.seq (.block 1 (.seq (c 32408) (.seq (c 64818) (.seq (c 129638) H129639)))) (c 8103)))) 1012 (s1 v0 v1 v2 v3 v4 v5 v6 v7 v8 v9 v10 v11 v12 v13 v14 v15 v16 v17 v18 v19 v20 v21 v22 v23 v24) ((fun up => (onN (fun s => C.tidy 506 s ((onN Kn506 up) .normal)) (onN Kn506 up))) (blockK 0 (onN (tk C (O N) N c 126 127 K0) K0))) = o1 N v0 v1 v2 v3 v4 v5 v6 v7 v8 v9 v10 v11 v12 v13 v14 v15 v16 v17 v18 v19 v20 v21 v22 v23 v24 ((fun w0 w1 w2 w3 w4 w5 w6 w7 w8 w9 w10 w11 w12 w13 w14 w15 w16 w17 w18 w19 w20 w21 w22 w23 w24 w25 w26 => runC C (O N) N H129639 129639 (s2 w0 w1 w2 w3 w4 w5 w6 w7 w8 w9 w10 w11 w12 w13 w14 w15 w16 w17 w18 w19 w20 w21 w22 w23 w24 w25 w26) (blockK 1 ((fun up => (onN (tk C (O N) N c 8102 8103 up) up)) ((fun up => (onN (fun s => C.tidy 506 s ((onN Kn506 up) .normal)) (onN Kn506 up))) (blockK 0 (onN (tk C (O N) N c 126 127 K0) K0))))))) ((fun w0 w1 w2 w3 w4 w5 w6 w7 w8 w9 w10 w11 w12 w13 w14 w15 w16 w17 w18 w19 w20 w21 w22 w23 w24 w25 => runC C (O N) N H129639 129639 (s3 w0 w1 w2 w3 w4 w5 w6 w7 w8 w9 w10 w11 w12 w13 w14 w15 w16 w17 w18 w19 w20 w21 w22 w23 w24 w25) (blockK 1 ((fun up => (onN (tk C (O N) N c 8102 8103 up) up)) ((fun up => (onN (fun s => C.tidy 506 s ((onN Kn506 up) .normal)) (onN Kn506 up))) (blockK 0 (onN (tk C (O N) N c 126 127 K0) K0))))))) := by kernel_rfl
def d1 (v0 : List BA) (v1 : BA) (v2 : List BA) (v3 v4 v5 v6 v7 v8 v9 v10 v11 : Int) (v12 : BA) (v13 v14 v15 v16 v17 v18 v19 v20 v21 : Int) (v22 : BA) (v23 v24 : Int) (c1 : t1) (c4 : t4) : Option R := o1 N v0 v1 v2 v3 v4 v5 v6 v7 v8 v9 v10 v11 v12 v13 v14 v15 v16 v17 v18 v19 v20 v21 v22 v23 v24 (d2 N · · · · · · · · · · · · · · · · · · · · · · · · · · · c4) (d3 N · · · · · · · · · · · · · · · · · · · · · · · · · · c1)
theorem c1012_1 : (c 1012) = (.seq (c 2024) (.seq (c 4050) (.seq (.block 1 (.seq (c 32408) (.seq (c 64818) (.seq (c 129638) (c 129639))))) (c 8103)))) := by kernel_rfl
theorem d1.run (Kn506 : QQ) (v0 : List BA) (v1 : BA) (v2 : List BA) (v3 v4 v5 v6 v7 v8 v9 v10 v11 : Int) (v12 : BA) (v13 v14 v15 v16 v17 v18 v19 v20 v21 : Int) (v22 : BA) (v23 v24 : Int) : runC C (O N) N (c 1012) 1012 (s1 v0 v1 v2 v3 v4 v5 v6 v7 v8 v9 v10 v11 v12 v13 v14 v15 v16 v17 v18 v19 v20 v21 v22 v23 v24) (K1012 N Kn506) = d1 N v0 v1 v2 v3 v4 v5 v6 v7 v8 v9 v10 v11 v12 v13 v14 v15 v16 v17 v18 v19 v20 v21 v22 v23 v24 (Kn506 <| s1 · · · · · · · · · · · · · · · · · · · · · · · · ·) (Kn506 <| s4 · · · · · · · · · · · · · · · · · · · · · · · · · ·) := by
  rw [c1012_1]; unfold d1; exact (o1.run N Kn506 (c 129639) v0 v1 v2 v3 v4 v5 v6 v7 v8 v9 v10 v11 v12 v13 v14 v15 v16 v17 v18 v19 v20 v21 v22 v23 v24).trans (congr (congr rfl (fx27 (d2.run N Kn506))) (fx26 (d3.run N Kn506)))
def o4 (v0 : List BA) (v1 : BA) (v2 : List BA) (v3 v4 v5 v6 v7 v8 v9 v10 v11 : Int) (v12 : BA) (v13 v14 v15 v16 v17 v18 v19 v20 v21 : Int) (v22 : BA) (v23 v24 : Int) (v25 : List Int) (c2 : t2) : Option R :=
 bif (decide (v4 < v3)) then
  bif (decide (0 ≤ v4)) then
   bif (decide (v4 < (v2.length : Int))) then
    (v2[(v4 : Int).toNat]?).bind fun x1 =>
    bif (decide (0 ≤ v4)) then
     bif (decide (v4 < (v1.size : Int))) then
      bif ((bt v1 v4) == 110) then
       (zq176.g N x1).bind fun r2 =>
       bif (Nat.blt (v25.length + ([r2] : List Int).length) 17592186044416) then
        c2 v0 v1 (decide (r2 ≥ 0)) v2 v3 v4 v5 v6 v7 v8 v9 v10 v11 v12 v13 v14 v15 v16 v17 v18 v19 v20 v21 v22 v23 v24 (v25 ++ ([r2] : List Int))
       else
       none
      else
      bif ((bt v1 v4) == 116) then
       c2 v0 v1 true v2 v3 v4 v5 v6 v7 v8 v9 v10 v11 v12 v13 v14 v15 v16 v17 v18 v19 v20 v21 x1 v23 v24 v25
      else
      bif ((bt v1 v4) == 115) then
       (zq120.g N x1).bind fun r3 =>
       c2 v0 v1 r3.2.2 v2 v3 v4 v5 v6 v7 v8 v9 v10 v11 v12 v13 v14 v15 v16 v17 v18 v19 v20 v21 v22 r3.1 r3.2.1 v25
      else
      c2 v0 v1 false v2 v3 v4 v5 v6 v7 v8 v9 v10 v11 v12 v13 v14 v15 v16 v17 v18 v19 v20 v21 v22 v23 v24 v25
     else
     none
    else
    none
   else
   none
  else
  none
 else
 bif (decide (0 < (v0.length : Int))) then
  (v0[(0 : Int).toNat]?).bind fun x4 =>
  some (x4, v15, v16, v17, v18, v19, v20, v21, v22, v23, v24, v25, true)
 else
 none
theorem o4.run (Kn506 : QQ) (H129639 : Code) (v0 : List BA) (v1 : BA) (v2 : List BA) (v3 v4 v5 v6 v7 v8 v9 v10 v11 : Int) (v12 : BA) (v13 v14 v15 v16 v17 v18 v19 v20 v21 : Int) (v22 : BA) (v23 v24 : Int) (v25 : List Int) : runC C (O N) N (.seq (c 2024) (.seq (c 4050) (.seq (.block 1 (.seq (c 32408) (.seq (c 64818) (.seq (c 129638) H129639)))) (c 8103)))) 1012 (s4 v0 v1 v2 v3 v4 v5 v6 v7 v8 v9 v10 v11 v12 v13 v14 v15 v16 v17 v18 v19 v20 v21 v22 v23 v24 v25) ((fun up => (onN (fun s => C.tidy 506 s ((onN Kn506 up) .normal)) (onN Kn506 up))) (blockK 0 (onN (tk C (O N) N c 126 127 K0) K0))) = o4 N v0 v1 v2 v3 v4 v5 v6 v7 v8 v9 v10 v11 v12 v13 v14 v15 v16 v17 v18 v19 v20 v21 v22 v23 v24 v25 ((fun w0 w1 w2 w3 w4 w5 w6 w7 w8 w9 w10 w11 w12 w13 w14 w15 w16 w17 w18 w19 w20 w21 w22 w23 w24 w25 w26 => runC C (O N) N H129639 129639 (s2 w0 w1 w2 w3 w4 w5 w6 w7 w8 w9 w10 w11 w12 w13 w14 w15 w16 w17 w18 w19 w20 w21 w22 w23 w24 w25 w26) (blockK 1 ((fun up => (onN (tk C (O N) N c 8102 8103 up) up)) ((fun up => (onN (fun s => C.tidy 506 s ((onN Kn506 up) .normal)) (onN Kn506 up))) (blockK 0 (onN (tk C (O N) N c 126 127 K0) K0))))))) := by kernel_rfl
def d4 (v0 : List BA) (v1 : BA) (v2 : List BA) (v3 v4 v5 v6 v7 v8 v9 v10 v11 : Int) (v12 : BA) (v13 v14 v15 v16 v17 v18 v19 v20 v21 : Int) (v22 : BA) (v23 v24 : Int) (v25 : List Int) (c4 : t4) : Option R := o4 N v0 v1 v2 v3 v4 v5 v6 v7 v8 v9 v10 v11 v12 v13 v14 v15 v16 v17 v18 v19 v20 v21 v22 v23 v24 v25 (d2 N · · · · · · · · · · · · · · · · · · · · · · · · · · · c4)
theorem c1012_4 : (c 1012) = (.seq (c 2024) (.seq (c 4050) (.seq (.block 1 (.seq (c 32408) (.seq (c 64818) (.seq (c 129638) (c 129639))))) (c 8103)))) := by kernel_rfl
theorem d4.run (Kn506 : QQ) (v0 : List BA) (v1 : BA) (v2 : List BA) (v3 v4 v5 v6 v7 v8 v9 v10 v11 : Int) (v12 : BA) (v13 v14 v15 v16 v17 v18 v19 v20 v21 : Int) (v22 : BA) (v23 v24 : Int) (v25 : List Int) : runC C (O N) N (c 1012) 1012 (s4 v0 v1 v2 v3 v4 v5 v6 v7 v8 v9 v10 v11 v12 v13 v14 v15 v16 v17 v18 v19 v20 v21 v22 v23 v24 v25) (K1012 N Kn506) = d4 N v0 v1 v2 v3 v4 v5 v6 v7 v8 v9 v10 v11 v12 v13 v14 v15 v16 v17 v18 v19 v20 v21 v22 v23 v24 v25 (Kn506 <| s4 · · · · · · · · · · · · · · · · · · · · · · · · · ·) := by
  rw [c1012_4]; unfold d4; exact (o4.run N Kn506 (c 129639) v0 v1 v2 v3 v4 v5 v6 v7 v8 v9 v10 v11 v12 v13 v14 v15 v16 v17 v18 v19 v20 v21 v22 v23 v24 v25).trans (congr rfl (fx27 (d2.run N Kn506)))
def K506 : Ex → QQ := (blockK 0 (onN (tk C (O N) N c 126 127 K0) K0))
mutual
def l1 (N : Nat) : Nat → (List BA) → BA → (List BA) → Int → Int → Int → Int → Int → Int → Int → Int → Int → BA → Int → Int → Int → Int → Int → Int → Int → Int → Int → BA → Int → Int → Option R
  | 0, _, _, _, _, _, _, _, _, _, _, _, _, _, _, _, _, _, _, _, _, _, _, _, _, _ => none
  | n + 1, v0, v1, v2, v3, v4, v5, v6, v7, v8, v9, v10, v11, v12, v13, v14, v15, v16, v17, v18, v19, v20, v21, v22, v23, v24 => d1 N v0 v1 v2 v3 v4 v5 v6 v7 v8 v9 v10 v11 v12 v13 v14 v15 v16 v17 v18 v19 v20 v21 v22 v23 v24 (l1 N n · · · · · · · · · · · · · · · · · · · · · · · · ·) (l4 N n · · · · · · · · · · · · · · · · · · · · · · · · · ·)
def l4 (N : Nat) : Nat → (List BA) → BA → (List BA) → Int → Int → Int → Int → Int → Int → Int → Int → Int → BA → Int → Int → Int → Int → Int → Int → Int → Int → Int → BA → Int → Int → (List Int) → Option R
  | 0, _, _, _, _, _, _, _, _, _, _, _, _, _, _, _, _, _, _, _, _, _, _, _, _, _, _ => none
  | n + 1, v0, v1, v2, v3, v4, v5, v6, v7, v8, v9, v10, v11, v12, v13, v14, v15, v16, v17, v18, v19, v20, v21, v22, v23, v24, v25 => d4 N v0 v1 v2 v3 v4 v5 v6 v7 v8 v9 v10 v11 v12 v13 v14 v15 v16 v17 v18 v19 v20 v21 v22 v23 v24 v25 (l4 N n · · · · · · · · · · · · · · · · · · · · · · · · · ·)
end
theorem loop506 (N : Nat) : ∀ n, (∀ (v0 : List BA) (v1 : BA) (v2 : List BA) (v3 v4 v5 v6 v7 v8 v9 v10 v11 : Int) (v12 : BA) (v13 v14 v15 v16 v17 v18 v19 v20 v21 : Int) (v22 : BA) (v23 v24 : Int), iter (loopF C (O N) N (c 1012) 506) n (s1 v0 v1 v2 v3 v4 v5 v6 v7 v8 v9 v10 v11 v12 v13 v14 v15 v16 v17 v18 v19 v20 v21 v22 v23 v24) (K506 N) = l1 N n v0 v1 v2 v3 v4 v5 v6 v7 v8 v9 v10 v11 v12 v13 v14 v15 v16 v17 v18 v19 v20 v21 v22 v23 v24) ∧ (∀ (v0 : List BA) (v1 : BA) (v2 : List BA) (v3 v4 v5 v6 v7 v8 v9 v10 v11 : Int) (v12 : BA) (v13 v14 v15 v16 v17 v18 v19 v20 v21 : Int) (v22 : BA) (v23 v24 : Int) (v25 : List Int), iter (loopF C (O N) N (c 1012) 506) n (s4 v0 v1 v2 v3 v4 v5 v6 v7 v8 v9 v10 v11 v12 v13 v14 v15 v16 v17 v18 v19 v20 v21 v22 v23 v24 v25) (K506 N) = l4 N n v0 v1 v2 v3 v4 v5 v6 v7 v8 v9 v10 v11 v12 v13 v14 v15 v16 v17 v18 v19 v20 v21 v22 v23 v24 v25)
  | 0 => ⟨(by intros; rfl), (by intros; rfl)⟩
  | n + 1 => ⟨(fun v0 v1 v2 v3 v4 v5 v6 v7 v8 v9 v10 v11 v12 v13 v14 v15 v16 v17 v18 v19 v20 v21 v22 v23 v24 => (d1.run N (fun s => iter (loopF C (O N) N (c 1012) 506) n s (K506 N)) v0 v1 v2 v3 v4 v5 v6 v7 v8 v9 v10 v11 v12 v13 v14 v15 v16 v17 v18 v19 v20 v21 v22 v23 v24).trans (show _ = d1 N v0 v1 v2 v3 v4 v5 v6 v7 v8 v9 v10 v11 v12 v13 v14 v15 v16 v17 v18 v19 v20 v21 v22 v23 v24 (l1 N n · · · · · · · · · · · · · · · · · · · · · · · · ·) (l4 N n · · · · · · · · · · · · · · · · · · · · · · · · · ·) from (congr (congr rfl (fx25 ((loop506 N n).1))) (fx26 ((loop506 N n).2))))), (fun v0 v1 v2 v3 v4 v5 v6 v7 v8 v9 v10 v11 v12 v13 v14 v15 v16 v17 v18 v19 v20 v21 v22 v23 v24 v25 => (d4.run N (fun s => iter (loopF C (O N) N (c 1012) 506) n s (K506 N)) v0 v1 v2 v3 v4 v5 v6 v7 v8 v9 v10 v11 v12 v13 v14 v15 v16 v17 v18 v19 v20 v21 v22 v23 v24 v25).trans (show _ = d4 N v0 v1 v2 v3 v4 v5 v6 v7 v8 v9 v10 v11 v12 v13 v14 v15 v16 v17 v18 v19 v20 v21 v22 v23 v24 v25 (l4 N n · · · · · · · · · · · · · · · · · · · · · · · · · ·) from (congr rfl (fx26 ((loop506 N n).2)))))⟩
def o0 (a0_0 a0_1 a0_2 a0_3 a0_4 a0_5 a0_6 : Int) (a1 : BA) (c1 : t1) : Option R :=
 (zq178.g N a1 32).bind fun r1 =>
 bif (decide (0 < (r1.length : Int))) then
  (r1[(0 : Int).toNat]?).bind fun x2 =>
  (zq135.g N x2).bind fun r3 =>
  bif ((r3.size : Int) != (w64 ((r1.length : Int) - 1))) then
   some ((⟨#[]⟩ : BA), a0_0, a0_1, a0_2, a0_3, a0_4, a0_5, a0_6, ⟨#[]⟩, 0, 0, ([] : List Int), false)
  else
  bif (decide (0 ≤ (r1.length : Int))) then
   bif (decide ((r1.length : Int) ≤ (r1.length : Int))) then
    bif (decide (1 ≤ (r1.length : Int))) then
     c1 r1 r3 ((r1.take ((r1.length : Int) : Int).toNat).drop (1 : Int).toNat) (((r1.take ((r1.length : Int) : Int).toNat).drop (1 : Int).toNat).length : Int) 0 0 0 0 0 0 0 0 ⟨#[]⟩ 0 0 a0_0 a0_1 a0_2 a0_3 a0_4 a0_5 a0_6 ⟨#[]⟩ 0 0
    else
    none
   else
   none
  else
  none
 else
 none
theorem o0.run (H1012 : Code) (a0_0 a0_1 a0_2 a0_3 a0_4 a0_5 a0_6 : Int) (a1 : BA) : runC C (O N) N (.seq (c 2) (.seq (c 6) (.seq (c 14) (.seq (c 30) (.seq (c 62) (.seq (.seq (c 252) (.block 0 (.loop H1012))) (c 127))))))) 1 (st0 [.agg [.i a0_0, .i a0_1, .i a0_2, .i a0_3, .i a0_4, .i a0_5, .i a0_6], .one (.str a1)] [] : St D0) K0 = o0 N a0_0 a0_1 a0_2 a0_3 a0_4 a0_5 a0_6 a1 ((fun w0 w1 w2 w3 w4 w5 w6 w7 w8 w9 w10 w11 w12 w13 w14 w15 w16 w17 w18 w19 w20 w21 w22 w23 w24 => iter (loopF C (O N) N H1012 506) N (s1 w0 w1 w2 w3 w4 w5 w6 w7 w8 w9 w10 w11 w12 w13 w14 w15 w16 w17 w18 w19 w20 w21 w22 w23 w24) (blockK 0 (onN (tk C (O N) N c 126 127 K0) K0)))) := by kernel_rfl
def g (a0_0 a0_1 a0_2 a0_3 a0_4 a0_5 a0_6 : Int) (a1 : BA) : Option R := o0 N a0_0 a0_1 a0_2 a0_3 a0_4 a0_5 a0_6 a1 (l1 N N · · · · · · · · · · · · · · · · · · · · · · · · ·)
theorem c1_0 : (c 1) = (.seq (c 2) (.seq (c 6) (.seq (c 14) (.seq (c 30) (.seq (c 62) (.seq (.seq (c 252) (.block 0 (.loop (c 1012)))) (c 127))))))) := by kernel_rfl
theorem g.run (a0_0 a0_1 a0_2 a0_3 a0_4 a0_5 a0_6 : Int) (a1 : BA) : runC C (O N) N (c 1) 1 (st0 [.agg [.i a0_0, .i a0_1, .i a0_2, .i a0_3, .i a0_4, .i a0_5, .i a0_6], .one (.str a1)] [] : St D0) K0 = g N a0_0 a0_1 a0_2 a0_3 a0_4 a0_5 a0_6 a1 := by
  rw [c1_0]; unfold g; exact (o0.run N (c 1012) a0_0 a0_1 a0_2 a0_3 a0_4 a0_5 a0_6 a1).trans (congr rfl (fx25 ((loop506 N N).1)))
def ent : Ent Tryz.prog T0 := mkEntC C tabOk0 mixed0 74 [(true, [.any, .any, .any, .any, .any, .any, .any]), (false, [.any])] sig (E N) Tryz.func74 (by kernel_rfl) [(false, [.any]), (true, [.any, .any, .any, .any, .any, .any, .any, .any, .any, .any, .own 3]), (false, [.any])] N (fun t => g N t.1 t.2.1 t.2.2.1 t.2.2.2.1 t.2.2.2.2.1 t.2.2.2.2.2.1 t.2.2.2.2.2.2.1 t.2.2.2.2.2.2.2) (fun _ => by kernel_rfl) (fun t => g.run N t.1 t.2.1 t.2.2.1 t.2.2.2.1 t.2.2.2.2.1 t.2.2.2.2.2.1 t.2.2.2.2.2.2.1 t.2.2.2.2.2.2.2)
end zq133
namespace zq128
variable (N : Nat)
abbrev R : Type := Bool
abbrev sig : Sig := ⟨[(true, 7)], [], [.i, .i, .i, .i, .i, .i, .i], [(false, 1)], [], [.bool]⟩
noncomputable def C : Cfg D0 := ⟨Tryz.prog, T0, 7, 0, 13, 0, [], 0, false, []⟩
def E : List (Ent Tryz.prog T0) := [zq146.ent N, zq157.ent N]
def O : Orc D0 R := orcOf (E N)
def K0 : Ex → St D0 → Option R := exitK C Tryz.f40.results.toList [(false, [.any])] (decOut sig)
noncomputable def c (p : Nat) : Code := codeAt (Tryz.f40.body.getD .skip) (pathN p)
def o0 (a0_0 a0_1 a0_2 a0_3 a0_4 a0_5 a0_6 : Int) : Option R :=
 (zq146.g N a0_0 a0_1 a0_2).bind fun r1 =>
 bif r1 then
  (zq157.g N a0_3 a0_4 a0_5 a0_6).bind fun r2 =>
  some (r2)
 else
 some (false)
def g (a0_0 a0_1 a0_2 a0_3 a0_4 a0_5 a0_6 : Int) : Option R := o0 N a0_0 a0_1 a0_2 a0_3 a0_4 a0_5 a0_6
theorem g.run (a0_0 a0_1 a0_2 a0_3 a0_4 a0_5 a0_6 : Int) : runC C (O N) N (c 1) 1 (st0 [.agg [.i a0_0, .i a0_1, .i a0_2, .i a0_3, .i a0_4, .i a0_5, .i a0_6]] [] : St D0) K0 = g N a0_0 a0_1 a0_2 a0_3 a0_4 a0_5 a0_6 := by kernel_rfl
def ent : Ent Tryz.prog T0 := mkEntC C tabOk0 mixed0 40 [(true, [.any, .any, .any, .any, .any, .any, .any])] sig (E N) Tryz.func40 (by kernel_rfl) [(false, [.any])] N (fun t => g N t.1 t.2.1 t.2.2.1 t.2.2.2.1 t.2.2.2.2.1 t.2.2.2.2.2.1 t.2.2.2.2.2.2) (fun _ => by kernel_rfl) (fun t => g.run N t.1 t.2.1 t.2.2.1 t.2.2.2.1 t.2.2.2.2.1 t.2.2.2.2.2.1 t.2.2.2.2.2.2)
end zq128
namespace zq130
variable (N : Nat)
abbrev R : Type := BA × Int × Int × Int × Int × Int × Int × Int × BA × Int × Int × List Int
abbrev sig : Sig := ⟨[(false, 1), (true, 7), (false, 1)], [(104, 11)], [.ptr 0 0, .i, .i, .i, .i, .i, .i, .i, .bool, .i, .i, .i, .i, .i, .i, .i, .str, .i, .i, .sl true 3], [(false, 1)], [(104, 11)], [.str, .i, .i, .i, .i, .i, .i, .i, .str, .i, .i, .sl true 3]⟩
noncomputable def C : Cfg D0 := ⟨Tryz.prog, T0, 8279, 0, 23, 1, [(12, [0, 4, 13], [0, 4])], 16512, false, []⟩
def E : List (Ent Tryz.prog T0) := [zq128.ent N, zq154.ent N]
def O : Orc D0 R := orcOf (E N)
def K0 : Ex → St D0 → Option R := exitK C Tryz.f127.results.toList [(false, [.any])] (decOut sig)
noncomputable def c (p : Nat) : Code := codeAt (Tryz.f127.body.getD .skip) (pathN p)
abbrev t1 : Type := Bool → Int → Int → Int → Int → Int → Int → Int → BA → Int → Int → (List Int) → Int → Int → Int → Int → Int → Int → Int → Option R
def s1 (v0 : Bool) (v1 v2 v3 v4 v5 v6 v7 : Int) (v8 : BA) (v9 v10 : Int) (v11 : List Int) (v12 v13 v14 v15 v16 v17 v18 : Int) : St D0 := mkSt [(0, .one (.ptr 0 0)), (4, .one (.ptr 4 0)), (13, .one (.bool v0))] [(0, some (104, [.i v1, .i v2, .i v3, .i v4, .i v5, .i v6, .i v7, .str v8, .i v9, .i v10, .sl true 3 v11])), (4, some (29, [.i v12, .i v13, .i v14, .i v15, .i v16, .i v17, .i v18]))]
def K13 : Ex → St D0 → Option R := (onN (tk C (O N) N c 6 7 K0) K0)
def o1 (v0 : Bool) (v1 v2 v3 v4 v5 v6 v7 : Int) (v8 : BA) (v9 v10 : Int) (v11 : List Int) (v12 v13 v14 v15 v16 v17 v18 : Int) : Option R :=
 bif v0 then
  some ((⟨#[110, 111]⟩ : BA), v1, v2, v3, v4, v5, v6, v7, v8, v9, v10, v11)
 else
 (zq154.g N v12 v13 v14).bind fun r1 =>
 some (r1, v12, v13, v14, v15, v16, v17, v18, v8, v9, v10, v11)
def d1 (v0 : Bool) (v1 v2 v3 v4 v5 v6 v7 : Int) (v8 : BA) (v9 v10 : Int) (v11 : List Int) (v12 v13 v14 v15 v16 v17 v18 : Int) : Option R := o1 N v0 v1 v2 v3 v4 v5 v6 v7 v8 v9 v10 v11 v12 v13 v14 v15 v16 v17 v18
theorem d1.run (v0 : Bool) (v1 v2 v3 v4 v5 v6 v7 : Int) (v8 : BA) (v9 v10 : Int) (v11 : List Int) (v12 v13 v14 v15 v16 v17 v18 : Int) : runC C (O N) N (c 13) 13 (s1 v0 v1 v2 v3 v4 v5 v6 v7 v8 v9 v10 v11 v12 v13 v14 v15 v16 v17 v18) (K13 N) = d1 N v0 v1 v2 v3 v4 v5 v6 v7 v8 v9 v10 v11 v12 v13 v14 v15 v16 v17 v18 := by kernel_rfl
def o0 (a1_0 a1_1 a1_2 a1_3 a1_4 a1_5 a1_6 : Int) (a2 : Bool) (b0_0 b0_1 b0_2 b0_3 b0_4 b0_5 b0_6 : Int) (b0_7 : BA) (b0_8 b0_9 : Int) (b0_10 : List Int) (c1 : t1) : Option R :=
 bif (!a2) then
  c1 true b0_0 b0_1 b0_2 b0_3 b0_4 b0_5 b0_6 b0_7 b0_8 b0_9 b0_10 a1_0 a1_1 a1_2 a1_3 a1_4 a1_5 a1_6
 else
 (zq128.g N a1_0 a1_1 a1_2 a1_3 a1_4 a1_5 a1_6).bind fun r1 =>
 c1 (!r1) b0_0 b0_1 b0_2 b0_3 b0_4 b0_5 b0_6 b0_7 b0_8 b0_9 b0_10 a1_0 a1_1 a1_2 a1_3 a1_4 a1_5 a1_6
theorem o0.run (H13 : Code) (a1_0 a1_1 a1_2 a1_3 a1_4 a1_5 a1_6 : Int) (a2 : Bool) (b0_0 b0_1 b0_2 b0_3 b0_4 b0_5 b0_6 : Int) (b0_7 : BA) (b0_8 b0_9 : Int) (b0_10 : List Int) : runC C (O N) N (.seq (c 2) (.seq (.seq (c 12) H13) (c 7))) 1 (st0 [.one (.ptr 0 0), .agg [.i a1_0, .i a1_1, .i a1_2, .i a1_3, .i a1_4, .i a1_5, .i a1_6], .one (.bool a2)] [(104, [.i b0_0, .i b0_1, .i b0_2, .i b0_3, .i b0_4, .i b0_5, .i b0_6, .str b0_7, .i b0_8, .i b0_9, .sl true 3 b0_10])] : St D0) K0 = o0 N a1_0 a1_1 a1_2 a1_3 a1_4 a1_5 a1_6 a2 b0_0 b0_1 b0_2 b0_3 b0_4 b0_5 b0_6 b0_7 b0_8 b0_9 b0_10 ((fun w0 w1 w2 w3 w4 w5 w6 w7 w8 w9 w10 w11 w12 w13 w14 w15 w16 w17 w18 => runC C (O N) N H13 13 (s1 w0 w1 w2 w3 w4 w5 w6 w7 w8 w9 w10 w11 w12 w13 w14 w15 w16 w17 w18) (onN (tk C (O N) N c 6 7 K0) K0))) := by kernel_rfl
def g (a1_0 a1_1 a1_2 a1_3 a1_4 a1_5 a1_6 : Int) (a2 : Bool) (b0_0 b0_1 b0_2 b0_3 b0_4 b0_5 b0_6 : Int) (b0_7 : BA) (b0_8 b0_9 : Int) (b0_10 : List Int) : Option R := o0 N a1_0 a1_1 a1_2 a1_3 a1_4 a1_5 a1_6 a2 b0_0 b0_1 b0_2 b0_3 b0_4 b0_5 b0_6 b0_7 b0_8 b0_9 b0_10 (d1 N · · · · · · · · · · · · · · · · · · ·)
theorem c1_0 : (c 1) = (.seq (c 2) (.seq (.seq (c 12) (c 13)) (c 7))) := by kernel_rfl
theorem g.run (a1_0 a1_1 a1_2 a1_3 a1_4 a1_5 a1_6 : Int) (a2 : Bool) (b0_0 b0_1 b0_2 b0_3 b0_4 b0_5 b0_6 : Int) (b0_7 : BA) (b0_8 b0_9 : Int) (b0_10 : List Int) : runC C (O N) N (c 1) 1 (st0 [.one (.ptr 0 0), .agg [.i a1_0, .i a1_1, .i a1_2, .i a1_3, .i a1_4, .i a1_5, .i a1_6], .one (.bool a2)] [(104, [.i b0_0, .i b0_1, .i b0_2, .i b0_3, .i b0_4, .i b0_5, .i b0_6, .str b0_7, .i b0_8, .i b0_9, .sl true 3 b0_10])] : St D0) K0 = g N a1_0 a1_1 a1_2 a1_3 a1_4 a1_5 a1_6 a2 b0_0 b0_1 b0_2 b0_3 b0_4 b0_5 b0_6 b0_7 b0_8 b0_9 b0_10 := by
  rw [c1_0]; unfold g; exact (o0.run N (c 13) a1_0 a1_1 a1_2 a1_3 a1_4 a1_5 a1_6 a2 b0_0 b0_1 b0_2 b0_3 b0_4 b0_5 b0_6 b0_7 b0_8 b0_9 b0_10).trans (congr rfl (fx19 (d1.run N)))
def ent : Ent Tryz.prog T0 := mkEntC C tabOk0 mixed0 127 [(false, [.any]), (true, [.any, .any, .any, .any, .any, .any, .any]), (false, [.any])] sig (E N) Tryz.func127 (by kernel_rfl) [(false, [.any])] N (fun t => g N t.2.1 t.2.2.1 t.2.2.2.1 t.2.2.2.2.1 t.2.2.2.2.2.1 t.2.2.2.2.2.2.1 t.2.2.2.2.2.2.2.1 t.2.2.2.2.2.2.2.2.1 t.2.2.2.2.2.2.2.2.2.1 t.2.2.2.2.2.2.2.2.2.2.1 t.2.2.2.2.2.2.2.2.2.2.2.1 t.2.2.2.2.2.2.2.2.2.2.2.2.1 t.2.2.2.2.2.2.2.2.2.2.2.2.2.1 t.2.2.2.2.2.2.2.2.2.2.2.2.2.2.1 t.2.2.2.2.2.2.2.2.2.2.2.2.2.2.2.1 t.2.2.2.2.2.2.2.2.2.2.2.2.2.2.2.2.1 t.2.2.2.2.2.2.2.2.2.2.2.2.2.2.2.2.2.1 t.2.2.2.2.2.2.2.2.2.2.2.2.2.2.2.2.2.2.1 t.2.2.2.2.2.2.2.2.2.2.2.2.2.2.2.2.2.2.2) (fun _ => by kernel_rfl) (fun t => g.run N t.2.1 t.2.2.1 t.2.2.2.1 t.2.2.2.2.1 t.2.2.2.2.2.1 t.2.2.2.2.2.2.1 t.2.2.2.2.2.2.2.1 t.2.2.2.2.2.2.2.2.1 t.2.2.2.2.2.2.2.2.2.1 t.2.2.2.2.2.2.2.2.2.2.1 t.2.2.2.2.2.2.2.2.2.2.2.1 t.2.2.2.2.2.2.2.2.2.2.2.2.1 t.2.2.2.2.2.2.2.2.2.2.2.2.2.1 t.2.2.2.2.2.2.2.2.2.2.2.2.2.2.1 t.2.2.2.2.2.2.2.2.2.2.2.2.2.2.2.1 t.2.2.2.2.2.2.2.2.2.2.2.2.2.2.2.2.1 t.2.2.2.2.2.2.2.2.2.2.2.2.2.2.2.2.2.1 t.2.2.2.2.2.2.2.2.2.2.2.2.2.2.2.2.2.2.1 t.2.2.2.2.2.2.2.2.2.2.2.2.2.2.2.2.2.2.2)
end zq130
namespace zq132
variable (N : Nat)
abbrev R : Type := BA × Int × Int × Int × Int × Int × Int × Int × BA × Int × Int × List Int
abbrev QQ : Type := St D0 → Option R
abbrev sig : Sig := ⟨[(false, 1), (false, 1)], [(104, 11)], [.ptr 0 0, .str, .i, .i, .i, .i, .i, .i, .i, .str, .i, .i, .sl true 3], [(false, 1)], [(104, 11)], [.str, .i, .i, .i, .i, .i, .i, .i, .str, .i, .i, .sl true 3]⟩
noncomputable def C : Cfg D0 := ⟨Tryz.prog, T0, 20116528591023906915702809075, 0, 109, 1, [(30, [0, 5, 6], [0, 5]), (15742, [0, 1, 5, 6, 13, 60], [0, 5])], 202824096038010928244686351041024, false, []⟩
def E : List (Ent Tryz.prog T0) := [zq153.ent N, zq131.ent N, zq130.ent N, zq104.ent N, zq117.ent N, zq152.ent N, zq112.ent N]
def O : Orc D0 R := orcOf (E N)
def K0 : Ex → QQ := exitK C Tryz.f75.results.toList [(false, [.any])] (decOut sig)
noncomputable def c (p : Nat) : Code := codeAt (Tryz.f75.body.getD .skip) (pathN p)
abbrev t1 : Type := Bool → Int → Int → Int → Int → Int → Int → Int → BA → Int → Int → (List Int) → Int → Int → Int → Int → Int → Int → Int → Option R
abbrev t2 : Type := BA → Bool → BA → Bool → Int → Int → Int → Int → Int → Int → Int → BA → Int → Int → (List Int) → Int → Int → Int → Int → Int → Int → Int → Option R
def s1 (v0 : Bool) (v1 v2 v3 v4 v5 v6 v7 : Int) (v8 : BA) (v9 v10 : Int) (v11 : List Int) (v12 v13 v14 v15 v16 v17 v18 : Int) : St D0 := mkSt [(0, .one (.ptr 0 0)), (5, .one (.ptr 5 0)), (6, .one (.bool v0))] [(0, some (104, [.i v1, .i v2, .i v3, .i v4, .i v5, .i v6, .i v7, .str v8, .i v9, .i v10, .sl true 3 v11])), (5, some (29, [.i v12, .i v13, .i v14, .i v15, .i v16, .i v17, .i v18]))]
def s2 (v0 : BA) (v1 : Bool) (v2 : BA) (v3 : Bool) (v4 v5 v6 v7 v8 v9 v10 : Int) (v11 : BA) (v12 v13 : Int) (v14 : List Int) (v15 v16 v17 v18 v19 v20 v21 : Int) : St D0 := mkSt [(0, .one (.ptr 0 0)), (1, .one (.str v0)), (5, .one (.ptr 5 0)), (6, .one (.bool v1)), (13, .one (.str v2)), (60, .one (.bool v3))] [(0, some (104, [.i v4, .i v5, .i v6, .i v7, .i v8, .i v9, .i v10, .str v11, .i v12, .i v13, .sl true 3 v14])), (5, some (29, [.i v15, .i v16, .i v17, .i v18, .i v19, .i v20, .i v21]))]
def K31 (N : Nat) : Ex → QQ := K0
def o1 (v0 : Bool) (v1 v2 v3 v4 v5 v6 v7 : Int) (v8 : BA) (v9 v10 : Int) (v11 : List Int) (v12 v13 v14 v15 v16 v17 v18 : Int) : Option R :=
 (zq130.g N v12 v13 v14 v15 v16 v17 v18 v0 v1 v2 v3 v4 v5 v6 v7 v8 v9 v10 v11).bind fun r1 =>
 some (r1.1, r1.2.1, r1.2.2.1, r1.2.2.2.1, r1.2.2.2.2.1, r1.2.2.2.2.2.1, r1.2.2.2.2.2.2.1, r1.2.2.2.2.2.2.2.1, r1.2.2.2.2.2.2.2.2.1, r1.2.2.2.2.2.2.2.2.2.1, r1.2.2.2.2.2.2.2.2.2.2.1, r1.2.2.2.2.2.2.2.2.2.2.2)
def d1 (v0 : Bool) (v1 v2 v3 v4 v5 v6 v7 : Int) (v8 : BA) (v9 v10 : Int) (v11 : List Int) (v12 v13 v14 v15 v16 v17 v18 : Int) : Option R := o1 N v0 v1 v2 v3 v4 v5 v6 v7 v8 v9 v10 v11 v12 v13 v14 v15 v16 v17 v18
theorem d1.run (v0 : Bool) (v1 v2 v3 v4 v5 v6 v7 : Int) (v8 : BA) (v9 v10 : Int) (v11 : List Int) (v12 v13 v14 v15 v16 v17 v18 : Int) : runC C (O N) N (c 31) 31 (s1 v0 v1 v2 v3 v4 v5 v6 v7 v8 v9 v10 v11 v12 v13 v14 v15 v16 v17 v18) (K31 N) = d1 N v0 v1 v2 v3 v4 v5 v6 v7 v8 v9 v10 v11 v12 v13 v14 v15 v16 v17 v18 := by kernel_rfl
def B15 : QQ := fun s' => runC C (O N) N (c 31) 31 s' (K31 N)
def K15743 : Ex → QQ := (blockK 0 (onN (fun s => C.tidy 30 s (B15 N)) K0))
def o2 (v0 : BA) (v1 : Bool) (v2 : BA) (v3 : Bool) (v4 v5 v6 v7 v8 v9 v10 : Int) (v11 : BA) (v12 v13 : Int) (v14 : List Int) (v15 v16 v17 v18 v19 v20 v21 : Int) (c1 : t1) : Option R :=
 bif v3 then
  (zq131.g N v4 v5 v6 v7 v8 v9 v10 v11 v12 v13 v14).bind fun r1 =>
  bif (!r1.2.2.1) then
   some ((⟨#[110, 111]⟩ : BA), r1.2.2.2.1, r1.2.2.2.2.1, r1.2.2.2.2.2.1, r1.2.2.2.2.2.2.1, r1.2.2.2.2.2.2.2.1, r1.2.2.2.2.2.2.2.2.1, r1.2.2.2.2.2.2.2.2.2.1, r1.2.2.2.2.2.2.2.2.2.2.1, r1.2.2.2.2.2.2.2.2.2.2.2.1, r1.2.2.2.2.2.2.2.2.2.2.2.2.1, r1.2.2.2.2.2.2.2.2.2.2.2.2.2)
  else
  bif (v0.toList == (⟨#[111, 110]⟩ : BA).toList) then
   (zq104.g N v16 v17 r1.1 r1.2.1).bind fun r2 =>
   c1 r2.2.2 r1.2.2.2.1 r1.2.2.2.2.1 r1.2.2.2.2.2.1 r1.2.2.2.2.2.2.1 r1.2.2.2.2.2.2.2.1 r1.2.2.2.2.2.2.2.2.1 r1.2.2.2.2.2.2.2.2.2.1 r1.2.2.2.2.2.2.2.2.2.2.1 r1.2.2.2.2.2.2.2.2.2.2.2.1 r1.2.2.2.2.2.2.2.2.2.2.2.2.1 r1.2.2.2.2.2.2.2.2.2.2.2.2.2 v15 r2.1 r2.2.1 v18 v19 v20 v21
  else
  (zq117.g N v16 v17 r1.1 r1.2.1).bind fun r3 =>
  c1 r3.2.2 r1.2.2.2.1 r1.2.2.2.2.1 r1.2.2.2.2.2.1 r1.2.2.2.2.2.2.1 r1.2.2.2.2.2.2.2.1 r1.2.2.2.2.2.2.2.2.1 r1.2.2.2.2.2.2.2.2.2.1 r1.2.2.2.2.2.2.2.2.2.2.1 r1.2.2.2.2.2.2.2.2.2.2.2.1 r1.2.2.2.2.2.2.2.2.2.2.2.2.1 r1.2.2.2.2.2.2.2.2.2.2.2.2.2 v15 r3.1 r3.2.1 v18 v19 v20 v21
 else
 bif (v2.toList == (⟨#[109, 105, 114, 114, 111, 114]⟩ : BA).toList) then
  (zq152.g N v16 v17).bind fun r4 =>
  c1 v1 v4 v5 v6 v7 v8 v9 v10 v11 v12 v13 v14 v15 r4.1 r4.2 v18 v19 v20 v21
 else
 bif (v2.toList == (⟨#[115, 119, 97, 112]⟩ : BA).toList) then
  (zq112.g N v15 v16 v17).bind fun r5 =>
  c1 r5.2.2 v4 v5 v6 v7 v8 v9 v10 v11 v12 v13 v14 v15 r5.1 r5.2.1 v18 v19 v20 v21
 else
 bif (decide (0 < (v14.length : Int))) then
  (v14[(0 : Int).toNat]?).bind fun x6 =>
  bif (decide (1 < (v14.length : Int))) then
   (v14[(1 : Int).toNat]?).bind fun x7 =>
   c1 v1 v4 v5 v6 v7 v8 v9 v10 v11 v12 v13 v14 v15 v16 v17 v16 v17 x6 x7
  else
  none
 else
 none
theorem o2.run (Kb15 : QQ) (v0 : BA) (v1 : Bool) (v2 : BA) (v3 : Bool) (v4 v5 v6 v7 v8 v9 v10 : Int) (v11 : BA) (v12 v13 : Int) (v14 : List Int) (v15 v16 v17 v18 v19 v20 v21 : Int) : runC C (O N) N (c 15743) 15743 (s2 v0 v1 v2 v3 v4 v5 v6 v7 v8 v9 v10 v11 v12 v13 v14 v15 v16 v17 v18 v19 v20 v21) (blockK 0 (onN (fun s => C.tidy 30 s Kb15) K0)) = o2 N v0 v1 v2 v3 v4 v5 v6 v7 v8 v9 v10 v11 v12 v13 v14 v15 v16 v17 v18 v19 v20 v21 (Kb15 <| s1 · · · · · · · · · · · · · · · · · · ·) := by kernel_rfl
def d2 (v0 : BA) (v1 : Bool) (v2 : BA) (v3 : Bool) (v4 v5 v6 v7 v8 v9 v10 : Int) (v11 : BA) (v12 v13 : Int) (v14 : List Int) (v15 v16 v17 v18 v19 v20 v21 : Int) : Option R := o2 N v0 v1 v2 v3 v4 v5 v6 v7 v8 v9 v10 v11 v12 v13 v14 v15 v16 v17 v18 v19 v20 v21 (d1 N · · · · · · · · · · · · · · · · · · ·)
theorem d2.run (v0 : BA) (v1 : Bool) (v2 : BA) (v3 : Bool) (v4 v5 v6 v7 v8 v9 v10 : Int) (v11 : BA) (v12 v13 : Int) (v14 : List Int) (v15 v16 v17 v18 v19 v20 v21 : Int) : runC C (O N) N (c 15743) 15743 (s2 v0 v1 v2 v3 v4 v5 v6 v7 v8 v9 v10 v11 v12 v13 v14 v15 v16 v17 v18 v19 v20 v21) (K15743 N) = d2 N v0 v1 v2 v3 v4 v5 v6 v7 v8 v9 v10 v11 v12 v13 v14 v15 v16 v17 v18 v19 v20 v21 := by
  unfold d2; exact (o2.run N (B15 N) v0 v1 v2 v3 v4 v5 v6 v7 v8 v9 v10 v11 v12 v13 v14 v15 v16 v17 v18 v19 v20 v21).trans (congr rfl (fx19 (d1.run N)))
def o0 (a1 : BA) (b0_0 b0_1 b0_2 b0_3 b0_4 b0_5 b0_6 : Int) (b0_7 : BA) (b0_8 b0_9 : Int) (b0_10 : List Int) (c1 : t1) (c2 : t2) : Option R :=
 bif (a1.toList == (⟨#[100, 105, 97, 108]⟩ : BA).toList) then
  bif (decide (0 < (b0_10.length : Int))) then
   (b0_10[(0 : Int).toNat]?).bind fun x1 =>
   c1 true b0_0 b0_1 b0_2 b0_3 b0_4 b0_5 b0_6 b0_7 b0_8 b0_9 b0_10 x1 b0_1 b0_2 b0_3 b0_4 b0_5 b0_6
  else
  none
 else
 bif (a1.toList == (⟨#[115, 101, 116]⟩ : BA).toList) then
  (zq153.g N b0_0 b0_7).bind fun r2 =>
  c1 r2.2.2 b0_0 b0_1 b0_2 b0_3 b0_4 b0_5 b0_6 b0_7 b0_8 b0_9 b0_10 b0_0 r2.1 r2.2.1 b0_3 b0_4 b0_5 b0_6
 else
 bif (a1.toList == (⟨#[116, 117, 114, 110]⟩ : BA).toList) then
  (zq131.g N b0_0 b0_1 b0_2 b0_3 b0_4 b0_5 b0_6 b0_7 b0_8 b0_9 b0_10).bind fun r3 =>
  c1 r3.2.2.1 r3.2.2.2.1 r3.2.2.2.2.1 r3.2.2.2.2.2.1 r3.2.2.2.2.2.2.1 r3.2.2.2.2.2.2.2.1 r3.2.2.2.2.2.2.2.2.1 r3.2.2.2.2.2.2.2.2.2.1 r3.2.2.2.2.2.2.2.2.2.2.1 r3.2.2.2.2.2.2.2.2.2.2.2.1 r3.2.2.2.2.2.2.2.2.2.2.2.2.1 r3.2.2.2.2.2.2.2.2.2.2.2.2.2 b0_0 r3.1 r3.2.1 b0_3 b0_4 b0_5 b0_6
 else
 bif (a1.toList == (⟨#[111, 110]⟩ : BA).toList) then
  c2 a1 true a1 true b0_0 b0_1 b0_2 b0_3 b0_4 b0_5 b0_6 b0_7 b0_8 b0_9 b0_10 b0_0 b0_1 b0_2 b0_3 b0_4 b0_5 b0_6
 else
 c2 a1 true a1 (a1.toList == (⟨#[111, 102, 102]⟩ : BA).toList) b0_0 b0_1 b0_2 b0_3 b0_4 b0_5 b0_6 b0_7 b0_8 b0_9 b0_10 b0_0 b0_1 b0_2 b0_3 b0_4 b0_5 b0_6
theorem o0.run (H31 : Code) (H15743 : Code) (a1 : BA) (b0_0 b0_1 b0_2 b0_3 b0_4 b0_5 b0_6 : Int) (b0_7 : BA) (b0_8 b0_9 : Int) (b0_10 : List Int) : runC C (O N) N (.seq (c 2) (.seq (c 6) (.seq (c 14) (.seq (.seq (c 60) (.block 0 (.seq (c 244) (.cond (.tmp 30) (c 490) (.seq (c 982) (.cond (.tmp 39) (c 1966) (.seq (c 3934) (.cond (.tmp 52) (c 7870) (.seq (c 15742) H15743))))))))) H31)))) 1 (st0 [.one (.ptr 0 0), .one (.str a1)] [(104, [.i b0_0, .i b0_1, .i b0_2, .i b0_3, .i b0_4, .i b0_5, .i b0_6, .str b0_7, .i b0_8, .i b0_9, .sl true 3 b0_10])] : St D0) K0 = o0 N a1 b0_0 b0_1 b0_2 b0_3 b0_4 b0_5 b0_6 b0_7 b0_8 b0_9 b0_10 ((fun w0 w1 w2 w3 w4 w5 w6 w7 w8 w9 w10 w11 w12 w13 w14 w15 w16 w17 w18 => runC C (O N) N H31 31 (s1 w0 w1 w2 w3 w4 w5 w6 w7 w8 w9 w10 w11 w12 w13 w14 w15 w16 w17 w18) K0)) ((fun w0 w1 w2 w3 w4 w5 w6 w7 w8 w9 w10 w11 w12 w13 w14 w15 w16 w17 w18 w19 w20 w21 => runC C (O N) N H15743 15743 (s2 w0 w1 w2 w3 w4 w5 w6 w7 w8 w9 w10 w11 w12 w13 w14 w15 w16 w17 w18 w19 w20 w21) (blockK 0 (onN (fun s => C.tidy 30 s (fun s' => runC C (O N) N H31 31 s' K0)) K0)))) := by kernel_rfl
def g (a1 : BA) (b0_0 b0_1 b0_2 b0_3 b0_4 b0_5 b0_6 : Int) (b0_7 : BA) (b0_8 b0_9 : Int) (b0_10 : List Int) : Option R := o0 N a1 b0_0 b0_1 b0_2 b0_3 b0_4 b0_5 b0_6 b0_7 b0_8 b0_9 b0_10 (d1 N · · · · · · · · · · · · · · · · · · ·) (d2 N · · · · · · · · · · · · · · · · · · · · · ·)
theorem c1_0 : (c 1) = (.seq (c 2) (.seq (c 6) (.seq (c 14) (.seq (.seq (c 60) (.block 0 (.seq (c 244) (.cond (.tmp 30) (c 490) (.seq (c 982) (.cond (.tmp 39) (c 1966) (.seq (c 3934) (.cond (.tmp 52) (c 7870) (.seq (c 15742) (c 15743)))))))))) (c 31))))) := by kernel_rfl
theorem g.run (a1 : BA) (b0_0 b0_1 b0_2 b0_3 b0_4 b0_5 b0_6 : Int) (b0_7 : BA) (b0_8 b0_9 : Int) (b0_10 : List Int) : runC C (O N) N (c 1) 1 (st0 [.one (.ptr 0 0), .one (.str a1)] [(104, [.i b0_0, .i b0_1, .i b0_2, .i b0_3, .i b0_4, .i b0_5, .i b0_6, .str b0_7, .i b0_8, .i b0_9, .sl true 3 b0_10])] : St D0) K0 = g N a1 b0_0 b0_1 b0_2 b0_3 b0_4 b0_5 b0_6 b0_7 b0_8 b0_9 b0_10 := by
  rw [c1_0]; unfold g; exact (o0.run N (c 31) (c 15743) a1 b0_0 b0_1 b0_2 b0_3 b0_4 b0_5 b0_6 b0_7 b0_8 b0_9 b0_10).trans (congr (congr rfl (fx19 (d1.run N))) (fx22 (d2.run N)))
def ent : Ent Tryz.prog T0 := mkEntC C tabOk0 mixed0 75 [(false, [.any]), (false, [.any])] sig (E N) Tryz.func75 (by kernel_rfl) [(false, [.any])] N (fun t => g N t.2.1 t.2.2.1 t.2.2.2.1 t.2.2.2.2.1 t.2.2.2.2.2.1 t.2.2.2.2.2.2.1 t.2.2.2.2.2.2.2.1 t.2.2.2.2.2.2.2.2.1 t.2.2.2.2.2.2.2.2.2.1 t.2.2.2.2.2.2.2.2.2.2.1 t.2.2.2.2.2.2.2.2.2.2.2.1 t.2.2.2.2.2.2.2.2.2.2.2.2) (fun _ => by kernel_rfl) (fun t => g.run N t.2.1 t.2.2.1 t.2.2.2.1 t.2.2.2.2.1 t.2.2.2.2.2.1 t.2.2.2.2.2.2.1 t.2.2.2.2.2.2.2.1 t.2.2.2.2.2.2.2.2.1 t.2.2.2.2.2.2.2.2.2.1 t.2.2.2.2.2.2.2.2.2.2.1 t.2.2.2.2.2.2.2.2.2.2.2.1 t.2.2.2.2.2.2.2.2.2.2.2.2)
end zq132
namespace zq137
variable (N : Nat)
abbrev R : Type := Int × Int × Int × Int × Int × Int × Int × BA
abbrev sig : Sig := ⟨[(true, 7), (false, 1)], [], [.i, .i, .i, .i, .i, .i, .i, .str], [(true, 7), (false, 1)], [], [.i, .i, .i, .i, .i, .i, .i, .str]⟩
noncomputable def C : Cfg D0 := ⟨Tryz.prog, T0, 3408887, 0, 38, 0, [(244, [2, 4, 6, 7, 21], [2, 4, 7])], 69793353728, false, []⟩
def E : List (Ent Tryz.prog T0) := [zq133.ent N, zq132.ent N, zq129.ent N]
def O : Orc D0 R := orcOf (E N)
def K0 : Ex → St D0 → Option R := exitK C Tryz.f42.results.toList [(true, [.any, .any, .any, .any, .any, .any, .any]), (false, [.any])] (decOut sig)
noncomputable def c (p : Nat) : Code := codeAt (Tryz.f42.body.getD .skip) (pathN p)
abbrev t1 : Type := BA → Bool → Int → Int → Int → Int → Int → Int → Int → Int → Int → Int → Int → Int → Int → Int → Int → Int → Int → Int → Int → Int → Int → BA → Int → Int → (List Int) → Option R
def s1 (v0 : BA) (v1 : Bool) (v2 v3 v4 v5 v6 v7 v8 v9 v10 v11 v12 v13 v14 v15 v16 v17 v18 v19 v20 v21 v22 : Int) (v23 : BA) (v24 v25 : Int) (v26 : List Int) : St D0 := mkSt [(2, .one (.ptr 2 0)), (4, .one (.ptr 4 0)), (6, .one (.str v0)), (7, .one (.ptr 7 0)), (21, .one (.bool v1))] [(2, some (29, [.i v2, .i v3, .i v4, .i v5, .i v6, .i v7, .i v8])), (4, some (29, [.i v9, .i v10, .i v11, .i v12, .i v13, .i v14, .i v15])), (7, some (104, [.i v16, .i v17, .i v18, .i v19, .i v20, .i v21, .i v22, .str v23, .i v24, .i v25, .sl true 3 v26]))]
def K245 : Ex → St D0 → Option R := (blockK 0 (onN (tk C (O N) N c 30 31 K0) K0))
def o1 (v0 : BA) (v1 : Bool) (v2 v3 v4 v5 v6 v7 v8 v9 v10 v11 v12 v13 v14 v15 v16 v17 v18 v19 v20 v21 v22 : Int) (v23 : BA) (v24 v25 : Int) (v26 : List Int) : Option R :=
 bif v1 then
  (zq132.g N v0 v16 v17 v18 v19 v20 v21 v22 v23 v24 v25 v26).bind fun r1 =>
  some (r1.2.1, r1.2.2.1, r1.2.2.2.1, r1.2.2.2.2.1, r1.2.2.2.2.2.1, r1.2.2.2.2.2.2.1, r1.2.2.2.2.2.2.2.1, r1.1)
 else
 (zq129.g N v0 v16 v17 v18 v19 v20 v21 v22 v23 v24 v25 v26).bind fun r2 =>
 some (v2, v3, v4, v5, v6, v7, v8, r2.1)
def d1 (v0 : BA) (v1 : Bool) (v2 v3 v4 v5 v6 v7 v8 v9 v10 v11 v12 v13 v14 v15 v16 v17 v18 v19 v20 v21 v22 : Int) (v23 : BA) (v24 v25 : Int) (v26 : List Int) : Option R := o1 N v0 v1 v2 v3 v4 v5 v6 v7 v8 v9 v10 v11 v12 v13 v14 v15 v16 v17 v18 v19 v20 v21 v22 v23 v24 v25 v26
theorem d1.run (v0 : BA) (v1 : Bool) (v2 v3 v4 v5 v6 v7 v8 v9 v10 v11 v12 v13 v14 v15 v16 v17 v18 v19 v20 v21 v22 : Int) (v23 : BA) (v24 v25 : Int) (v26 : List Int) : runC C (O N) N (c 245) 245 (s1 v0 v1 v2 v3 v4 v5 v6 v7 v8 v9 v10 v11 v12 v13 v14 v15 v16 v17 v18 v19 v20 v21 v22 v23 v24 v25 v26) (K245 N) = d1 N v0 v1 v2 v3 v4 v5 v6 v7 v8 v9 v10 v11 v12 v13 v14 v15 v16 v17 v18 v19 v20 v21 v22 v23 v24 v25 v26 := by kernel_rfl
def o0 (a0_0 a0_1 a0_2 a0_3 a0_4 a0_5 a0_6 : Int) (a1 : BA) (c1 : t1) : Option R :=
 (zq133.g N a0_0 a0_1 a0_2 a0_3 a0_4 a0_5 a0_6 a1).bind fun r1 =>
 bif (!r1.2.2.2.2.2.2.2.2.2.2.2.2) then
  some (a0_0, a0_1, a0_2, a0_3, a0_4, a0_5, a0_6, (⟨#[119, 104, 97, 116]⟩ : BA))
 else
 bif (r1.1.toList == (⟨#[100, 105, 97, 108]⟩ : BA).toList) then
  c1 r1.1 true a0_0 a0_1 a0_2 a0_3 a0_4 a0_5 a0_6 0 0 0 0 0 0 0 r1.2.1 r1.2.2.1 r1.2.2.2.1 r1.2.2.2.2.1 r1.2.2.2.2.2.1 r1.2.2.2.2.2.2.1 r1.2.2.2.2.2.2.2.1 r1.2.2.2.2.2.2.2.2.1 r1.2.2.2.2.2.2.2.2.2.1 r1.2.2.2.2.2.2.2.2.2.2.1 r1.2.2.2.2.2.2.2.2.2.2.2.1
 else
 bif (r1.1.toList == (⟨#[115, 101, 116]⟩ : BA).toList) then
  c1 r1.1 true a0_0 a0_1 a0_2 a0_3 a0_4 a0_5 a0_6 0 0 0 0 0 0 0 r1.2.1 r1.2.2.1 r1.2.2.2.1 r1.2.2.2.2.1 r1.2.2.2.2.2.1 r1.2.2.2.2.2.2.1 r1.2.2.2.2.2.2.2.1 r1.2.2.2.2.2.2.2.2.1 r1.2.2.2.2.2.2.2.2.2.1 r1.2.2.2.2.2.2.2.2.2.2.1 r1.2.2.2.2.2.2.2.2.2.2.2.1
 else
 bif (r1.1.toList == (⟨#[116, 117, 114, 110]⟩ : BA).toList) then
  c1 r1.1 true a0_0 a0_1 a0_2 a0_3 a0_4 a0_5 a0_6 0 0 0 0 0 0 0 r1.2.1 r1.2.2.1 r1.2.2.2.1 r1.2.2.2.2.1 r1.2.2.2.2.2.1 r1.2.2.2.2.2.2.1 r1.2.2.2.2.2.2.2.1 r1.2.2.2.2.2.2.2.2.1 r1.2.2.2.2.2.2.2.2.2.1 r1.2.2.2.2.2.2.2.2.2.2.1 r1.2.2.2.2.2.2.2.2.2.2.2.1
 else
 bif (r1.1.toList == (⟨#[111, 110]⟩ : BA).toList) then
  c1 r1.1 true a0_0 a0_1 a0_2 a0_3 a0_4 a0_5 a0_6 0 0 0 0 0 0 0 r1.2.1 r1.2.2.1 r1.2.2.2.1 r1.2.2.2.2.1 r1.2.2.2.2.2.1 r1.2.2.2.2.2.2.1 r1.2.2.2.2.2.2.2.1 r1.2.2.2.2.2.2.2.2.1 r1.2.2.2.2.2.2.2.2.2.1 r1.2.2.2.2.2.2.2.2.2.2.1 r1.2.2.2.2.2.2.2.2.2.2.2.1
 else
 bif (r1.1.toList == (⟨#[111, 102, 102]⟩ : BA).toList) then
  c1 r1.1 true a0_0 a0_1 a0_2 a0_3 a0_4 a0_5 a0_6 0 0 0 0 0 0 0 r1.2.1 r1.2.2.1 r1.2.2.2.1 r1.2.2.2.2.1 r1.2.2.2.2.2.1 r1.2.2.2.2.2.2.1 r1.2.2.2.2.2.2.2.1 r1.2.2.2.2.2.2.2.2.1 r1.2.2.2.2.2.2.2.2.2.1 r1.2.2.2.2.2.2.2.2.2.2.1 r1.2.2.2.2.2.2.2.2.2.2.2.1
 else
 bif (r1.1.toList == (⟨#[109, 105, 114, 114, 111, 114]⟩ : BA).toList) then
  c1 r1.1 true a0_0 a0_1 a0_2 a0_3 a0_4 a0_5 a0_6 0 0 0 0 0 0 0 r1.2.1 r1.2.2.1 r1.2.2.2.1 r1.2.2.2.2.1 r1.2.2.2.2.2.1 r1.2.2.2.2.2.2.1 r1.2.2.2.2.2.2.2.1 r1.2.2.2.2.2.2.2.2.1 r1.2.2.2.2.2.2.2.2.2.1 r1.2.2.2.2.2.2.2.2.2.2.1 r1.2.2.2.2.2.2.2.2.2.2.2.1
 else
 bif (r1.1.toList == (⟨#[115, 119, 97, 112]⟩ : BA).toList) then
  c1 r1.1 true a0_0 a0_1 a0_2 a0_3 a0_4 a0_5 a0_6 0 0 0 0 0 0 0 r1.2.1 r1.2.2.1 r1.2.2.2.1 r1.2.2.2.2.1 r1.2.2.2.2.2.1 r1.2.2.2.2.2.2.1 r1.2.2.2.2.2.2.2.1 r1.2.2.2.2.2.2.2.2.1 r1.2.2.2.2.2.2.2.2.2.1 r1.2.2.2.2.2.2.2.2.2.2.1 r1.2.2.2.2.2.2.2.2.2.2.2.1
 else
 c1 r1.1 (r1.1.toList == (⟨#[99, 108, 111, 99, 107]⟩ : BA).toList) a0_0 a0_1 a0_2 a0_3 a0_4 a0_5 a0_6 0 0 0 0 0 0 0 r1.2.1 r1.2.2.1 r1.2.2.2.1 r1.2.2.2.2.1 r1.2.2.2.2.2.1 r1.2.2.2.2.2.2.1 r1.2.2.2.2.2.2.2.1 r1.2.2.2.2.2.2.2.2.1 r1.2.2.2.2.2.2.2.2.2.1 r1.2.2.2.2.2.2.2.2.2.2.1 r1.2.2.2.2.2.2.2.2.2.2.2.1
theorem o0.run (H245 : Code) (a0_0 a0_1 a0_2 a0_3 a0_4 a0_5 a0_6 : Int) (a1 : BA) : runC C (O N) N (.seq (c 2) (.seq (c 6) (.seq (c 14) (.seq (.seq (c 60) (.block 0 (.seq (c 244) H245))) (c 31))))) 1 (st0 [.agg [.i a0_0, .i a0_1, .i a0_2, .i a0_3, .i a0_4, .i a0_5, .i a0_6], .one (.str a1)] [] : St D0) K0 = o0 N a0_0 a0_1 a0_2 a0_3 a0_4 a0_5 a0_6 a1 ((fun w0 w1 w2 w3 w4 w5 w6 w7 w8 w9 w10 w11 w12 w13 w14 w15 w16 w17 w18 w19 w20 w21 w22 w23 w24 w25 w26 => runC C (O N) N H245 245 (s1 w0 w1 w2 w3 w4 w5 w6 w7 w8 w9 w10 w11 w12 w13 w14 w15 w16 w17 w18 w19 w20 w21 w22 w23 w24 w25 w26) (blockK 0 (onN (tk C (O N) N c 30 31 K0) K0)))) := by kernel_rfl
def g (a0_0 a0_1 a0_2 a0_3 a0_4 a0_5 a0_6 : Int) (a1 : BA) : Option R := o0 N a0_0 a0_1 a0_2 a0_3 a0_4 a0_5 a0_6 a1 (d1 N · · · · · · · · · · · · · · · · · · · · · · · · · · ·)
theorem c1_0 : (c 1) = (.seq (c 2) (.seq (c 6) (.seq (c 14) (.seq (.seq (c 60) (.block 0 (.seq (c 244) (c 245)))) (c 31))))) := by kernel_rfl
theorem g.run (a0_0 a0_1 a0_2 a0_3 a0_4 a0_5 a0_6 : Int) (a1 : BA) : runC C (O N) N (c 1) 1 (st0 [.agg [.i a0_0, .i a0_1, .i a0_2, .i a0_3, .i a0_4, .i a0_5, .i a0_6], .one (.str a1)] [] : St D0) K0 = g N a0_0 a0_1 a0_2 a0_3 a0_4 a0_5 a0_6 a1 := by
  rw [c1_0]; unfold g; exact (o0.run N (c 245) a0_0 a0_1 a0_2 a0_3 a0_4 a0_5 a0_6 a1).trans (congr rfl (fx27 (d1.run N)))
def ent : Ent Tryz.prog T0 := mkEntC C tabOk0 mixed0 42 [(true, [.any, .any, .any, .any, .any, .any, .any]), (false, [.any])] sig (E N) Tryz.func42 (by kernel_rfl) [(true, [.any, .any, .any, .any, .any, .any, .any]), (false, [.any])] N (fun t => g N t.1 t.2.1 t.2.2.1 t.2.2.2.1 t.2.2.2.2.1 t.2.2.2.2.2.1 t.2.2.2.2.2.2.1 t.2.2.2.2.2.2.2) (fun _ => by kernel_rfl) (fun t => g.run N t.1 t.2.1 t.2.2.1 t.2.2.2.1 t.2.2.2.2.1 t.2.2.2.2.2.1 t.2.2.2.2.2.2.1 t.2.2.2.2.2.2.2)
end zq137
end Go.Proofs.YtdidghlibfopgaaGreatDoor.M
namespace Go.Proofs.YtdidghlibfopgaaGreatDoor.M
open Go Go.PM Go.Proofs.YtdidghlibfopgaaGreatDoor.P
set_option linter.unusedVariables false
set_option maxRecDepth 100000
open Go.RowKit Go.Lib
abbrev zq185.R : Type := Bool
abbrev zq185.sig : Sig := ⟨[(false, 1), (false, 1)], [], [.str, .str], [(false, 1)], [], [.bool]⟩
noncomputable def zq185.g (N : Nat) (a0 a1 : ByteArray) : Option zq185.R := match a1.data.toList with
  | [c] => some (decide (0 ≤ Lib.indexByte a0.data.toList c))
  | _ => none
theorem zq185.good (N : Nat) (a0 a1 : ByteArray) (r : zq185.R) (h : zq185.g N a0 a1 = some r) : Go.PM.Good Tryz.prog T0 38 [.one (.str a0), .one (.str a1)] [] (zq185.sig.ret r) (zq185.sig.bs r) := by
  obtain ⟨⟨l⟩⟩ := a1
  match l, h with
  | [c], h =>
    cases Option.some.inj h
    refine good_flat ⟨_, Tryz.func38, by kernel_rfl, rfl⟩ _ (.bool _) ?_
    intro w C blk vargs hsz hrep hag
    have e0 := rep_str (hrep 0)
    have e1 := rep_str (hrep 1)
    have ev : vargs = #[.string a0, .string ⟨#[c]⟩] := (args2 hsz).trans (by rw [e0, e1])
    rw [ev]
    refine (Tryz.strings_Contains_one a0 c w).mono ?_
    rintro e w' ⟨rfl, rfl⟩
    exact ⟨rfl, Below.refl _ _⟩
noncomputable def zq185.ent (N : Nat) : Ent Tryz.prog T0 := mkEnt 38 [(false, [.any]), (false, [.any])] zq185.sig (fun t => zq185.g N t.1 t.2) (fun t r h => zq185.good N t.1 t.2 r h)
end Go.Proofs.YtdidghlibfopgaaGreatDoor.M
namespace Go.Proofs.YtdidghlibfopgaaGreatDoor.M
open Go Go.PM Go.Proofs.YtdidghlibfopgaaGreatDoor.P
set_option linter.unusedVariables false
set_option maxRecDepth 100000
namespace zq9
variable (N : Nat)
abbrev R : Type := Int × Int × Int × Int × Int × Int × Int × BA × Bool
abbrev sig : Sig := ⟨[(true, 7), (false, 1)], [], [.i, .i, .i, .i, .i, .i, .i, .str], [(true, 7), (false, 1), (false, 1)], [], [.i, .i, .i, .i, .i, .i, .i, .str, .bool]⟩
noncomputable def C : Cfg D0 := ⟨Tryz.prog, T0, 1049079, 0, 30, 0, [(12, [1, 2, 4, 20], [2, 4])], 17047552, false, []⟩
def E : List (Ent Tryz.prog T0) := [zq15.ent N, zq185.ent N, zq48.ent N]
def O : Orc D0 R := orcOf (E N)
def K0 : Ex → St D0 → Option R := exitK C Tryz.f12.results.toList [(true, [.any, .any, .any, .any, .any, .any, .any]), (false, [.any]), (false, [.any])] (decOut sig)
noncomputable def c (p : Nat) : Code := codeAt (Tryz.f12.body.getD .skip) (pathN p)
abbrev t1 : Type := BA → Bool → Int → Int → Int → Int → Int → Int → Int → Int → Int → Int → Int → Int → Int → Int → Option R
def s1 (v0 : BA) (v1 : Bool) (v2 v3 v4 v5 v6 v7 v8 v9 v10 v11 v12 v13 v14 v15 : Int) : St D0 := mkSt [(1, .one (.str v0)), (2, .one (.ptr 2 0)), (4, .one (.ptr 4 0)), (20, .one (.bool v1))] [(2, some (29, [.i v2, .i v3, .i v4, .i v5, .i v6, .i v7, .i v8])), (4, some (29, [.i v9, .i v10, .i v11, .i v12, .i v13, .i v14, .i v15]))]
def K13 : Ex → St D0 → Option R := (onN (tk C (O N) N c 6 7 K0) K0)
def o1 (v0 : BA) (v1 : Bool) (v2 v3 v4 v5 v6 v7 v8 v9 v10 v11 v12 v13 v14 v15 : Int) : Option R :=
 bif v1 then
  some (0, 0, 0, 0, 0, 0, 0, (⟨#[]⟩ : BA), false)
 else
 (zq48.g N v2 v3 v4 v5 v6 v7 v8 v0).bind fun r1 =>
 some (r1.1, r1.2.1, r1.2.2.1, r1.2.2.2.1, r1.2.2.2.2.1, r1.2.2.2.2.2.1, r1.2.2.2.2.2.2.1, r1.2.2.2.2.2.2.2, true)
def d1 (v0 : BA) (v1 : Bool) (v2 v3 v4 v5 v6 v7 v8 v9 v10 v11 v12 v13 v14 v15 : Int) : Option R := o1 N v0 v1 v2 v3 v4 v5 v6 v7 v8 v9 v10 v11 v12 v13 v14 v15
theorem d1.run (v0 : BA) (v1 : Bool) (v2 v3 v4 v5 v6 v7 v8 v9 v10 v11 v12 v13 v14 v15 : Int) : runC C (O N) N (c 13) 13 (s1 v0 v1 v2 v3 v4 v5 v6 v7 v8 v9 v10 v11 v12 v13 v14 v15) (K13 N) = d1 N v0 v1 v2 v3 v4 v5 v6 v7 v8 v9 v10 v11 v12 v13 v14 v15 := by kernel_rfl
def o0 (a0_0 a0_1 a0_2 a0_3 a0_4 a0_5 a0_6 : Int) (a1 : BA) (c1 : t1) : Option R :=
 (zq15.g N a0_0 a0_1 a0_2 a0_3 a0_4 a0_5 a0_6).bind fun r1 =>
 bif (!r1) then
  c1 a1 true a0_0 a0_1 a0_2 a0_3 a0_4 a0_5 a0_6 0 0 0 0 0 0 0
 else
 bif (decide ((a1.size : Int) > 3000)) then
  c1 a1 true a0_0 a0_1 a0_2 a0_3 a0_4 a0_5 a0_6 0 0 0 0 0 0 0
 else
 (zq185.g N a1 (⟨#[10]⟩ : BA)).bind fun r2 =>
 c1 a1 r2 a0_0 a0_1 a0_2 a0_3 a0_4 a0_5 a0_6 0 0 0 0 0 0 0
theorem o0.run (H13 : Code) (a0_0 a0_1 a0_2 a0_3 a0_4 a0_5 a0_6 : Int) (a1 : BA) : runC C (O N) N (.seq (c 2) (.seq (.seq (c 12) H13) (c 7))) 1 (st0 [.agg [.i a0_0, .i a0_1, .i a0_2, .i a0_3, .i a0_4, .i a0_5, .i a0_6], .one (.str a1)] [] : St D0) K0 = o0 N a0_0 a0_1 a0_2 a0_3 a0_4 a0_5 a0_6 a1 ((fun w0 w1 w2 w3 w4 w5 w6 w7 w8 w9 w10 w11 w12 w13 w14 w15 => runC C (O N) N H13 13 (s1 w0 w1 w2 w3 w4 w5 w6 w7 w8 w9 w10 w11 w12 w13 w14 w15) (onN (tk C (O N) N c 6 7 K0) K0))) := by kernel_rfl
def g (a0_0 a0_1 a0_2 a0_3 a0_4 a0_5 a0_6 : Int) (a1 : BA) : Option R := o0 N a0_0 a0_1 a0_2 a0_3 a0_4 a0_5 a0_6 a1 (d1 N · · · · · · · · · · · · · · · ·)
theorem c1_0 : (c 1) = (.seq (c 2) (.seq (.seq (c 12) (c 13)) (c 7))) := by kernel_rfl
theorem g.run (a0_0 a0_1 a0_2 a0_3 a0_4 a0_5 a0_6 : Int) (a1 : BA) : runC C (O N) N (c 1) 1 (st0 [.agg [.i a0_0, .i a0_1, .i a0_2, .i a0_3, .i a0_4, .i a0_5, .i a0_6], .one (.str a1)] [] : St D0) K0 = g N a0_0 a0_1 a0_2 a0_3 a0_4 a0_5 a0_6 a1 := by
  rw [c1_0]; unfold g; exact (o0.run N (c 13) a0_0 a0_1 a0_2 a0_3 a0_4 a0_5 a0_6 a1).trans (congr rfl (fx16 (d1.run N)))
def ent : Ent Tryz.prog T0 := mkEntC C tabOk0 mixed0 12 [(true, [.any, .any, .any, .any, .any, .any, .any]), (false, [.any])] sig (E N) Tryz.func12 (by kernel_rfl) [(true, [.any, .any, .any, .any, .any, .any, .any]), (false, [.any]), (false, [.any])] N (fun t => g N t.1 t.2.1 t.2.2.1 t.2.2.2.1 t.2.2.2.2.1 t.2.2.2.2.2.1 t.2.2.2.2.2.2.1 t.2.2.2.2.2.2.2) (fun _ => by kernel_rfl) (fun t => g.run N t.1 t.2.1 t.2.2.1 t.2.2.2.1 t.2.2.2.2.1 t.2.2.2.2.2.1 t.2.2.2.2.2.2.1 t.2.2.2.2.2.2.2)
end zq9
namespace zq110
variable (N : Nat)
abbrev R : Type := Int × Int × Int × Int × Int × Int × Int × BA × Bool
abbrev sig : Sig := ⟨[(true, 7), (false, 1)], [], [.i, .i, .i, .i, .i, .i, .i, .str], [(true, 7), (false, 1), (false, 1)], [], [.i, .i, .i, .i, .i, .i, .i, .str, .bool]⟩
noncomputable def C : Cfg D0 := ⟨Tryz.prog, T0, 4194807, 0, 32, 0, [(12, [1, 2, 4, 22], [2, 4])], 67379200, false, []⟩
def E : List (Ent Tryz.prog T0) := [zq128.ent N, zq178.ent N, zq137.ent N]
def O : Orc D0 R := orcOf (E N)
def K0 : Ex → St D0 → Option R := exitK C Tryz.f13.results.toList [(true, [.any, .any, .any, .any, .any, .any, .any]), (false, [.any]), (false, [.any])] (decOut sig)
noncomputable def c (p : Nat) : Code := codeAt (Tryz.f13.body.getD .skip) (pathN p)
abbrev t1 : Type := BA → Bool → Int → Int → Int → Int → Int → Int → Int → Int → Int → Int → Int → Int → Int → Int → Option R
def s1 (v0 : BA) (v1 : Bool) (v2 v3 v4 v5 v6 v7 v8 v9 v10 v11 v12 v13 v14 v15 : Int) : St D0 := mkSt [(1, .one (.str v0)), (2, .one (.ptr 2 0)), (4, .one (.ptr 4 0)), (22, .one (.bool v1))] [(2, some (29, [.i v2, .i v3, .i v4, .i v5, .i v6, .i v7, .i v8])), (4, some (29, [.i v9, .i v10, .i v11, .i v12, .i v13, .i v14, .i v15]))]
def K13 : Ex → St D0 → Option R := (onN (tk C (O N) N c 6 7 K0) K0)
def o1 (v0 : BA) (v1 : Bool) (v2 v3 v4 v5 v6 v7 v8 v9 v10 v11 v12 v13 v14 v15 : Int) : Option R :=
 bif v1 then
  some (0, 0, 0, 0, 0, 0, 0, (⟨#[]⟩ : BA), false)
 else
 (zq137.g N v2 v3 v4 v5 v6 v7 v8 v0).bind fun r1 =>
 some (r1.1, r1.2.1, r1.2.2.1, r1.2.2.2.1, r1.2.2.2.2.1, r1.2.2.2.2.2.1, r1.2.2.2.2.2.2.1, r1.2.2.2.2.2.2.2, true)
def d1 (v0 : BA) (v1 : Bool) (v2 v3 v4 v5 v6 v7 v8 v9 v10 v11 v12 v13 v14 v15 : Int) : Option R := o1 N v0 v1 v2 v3 v4 v5 v6 v7 v8 v9 v10 v11 v12 v13 v14 v15
theorem d1.run (v0 : BA) (v1 : Bool) (v2 v3 v4 v5 v6 v7 v8 v9 v10 v11 v12 v13 v14 v15 : Int) : runC C (O N) N (c 13) 13 (s1 v0 v1 v2 v3 v4 v5 v6 v7 v8 v9 v10 v11 v12 v13 v14 v15) (K13 N) = d1 N v0 v1 v2 v3 v4 v5 v6 v7 v8 v9 v10 v11 v12 v13 v14 v15 := by kernel_rfl
def o0 (a0_0 a0_1 a0_2 a0_3 a0_4 a0_5 a0_6 : Int) (a1 : BA) (c1 : t1) : Option R :=
 (zq128.g N a0_0 a0_1 a0_2 a0_3 a0_4 a0_5 a0_6).bind fun r1 =>
 bif (!r1) then
  c1 a1 true a0_0 a0_1 a0_2 a0_3 a0_4 a0_5 a0_6 0 0 0 0 0 0 0
 else
 bif (decide ((a1.size : Int) > 3000)) then
  c1 a1 true a0_0 a0_1 a0_2 a0_3 a0_4 a0_5 a0_6 0 0 0 0 0 0 0
 else
 (zq178.g N a1 10).bind fun r2 =>
 c1 a1 (decide ((r2.length : Int) > 1)) a0_0 a0_1 a0_2 a0_3 a0_4 a0_5 a0_6 0 0 0 0 0 0 0
theorem o0.run (H13 : Code) (a0_0 a0_1 a0_2 a0_3 a0_4 a0_5 a0_6 : Int) (a1 : BA) : runC C (O N) N (.seq (c 2) (.seq (.seq (c 12) H13) (c 7))) 1 (st0 [.agg [.i a0_0, .i a0_1, .i a0_2, .i a0_3, .i a0_4, .i a0_5, .i a0_6], .one (.str a1)] [] : St D0) K0 = o0 N a0_0 a0_1 a0_2 a0_3 a0_4 a0_5 a0_6 a1 ((fun w0 w1 w2 w3 w4 w5 w6 w7 w8 w9 w10 w11 w12 w13 w14 w15 => runC C (O N) N H13 13 (s1 w0 w1 w2 w3 w4 w5 w6 w7 w8 w9 w10 w11 w12 w13 w14 w15) (onN (tk C (O N) N c 6 7 K0) K0))) := by kernel_rfl
def g (a0_0 a0_1 a0_2 a0_3 a0_4 a0_5 a0_6 : Int) (a1 : BA) : Option R := o0 N a0_0 a0_1 a0_2 a0_3 a0_4 a0_5 a0_6 a1 (d1 N · · · · · · · · · · · · · · · ·)
theorem c1_0 : (c 1) = (.seq (c 2) (.seq (.seq (c 12) (c 13)) (c 7))) := by kernel_rfl
theorem g.run (a0_0 a0_1 a0_2 a0_3 a0_4 a0_5 a0_6 : Int) (a1 : BA) : runC C (O N) N (c 1) 1 (st0 [.agg [.i a0_0, .i a0_1, .i a0_2, .i a0_3, .i a0_4, .i a0_5, .i a0_6], .one (.str a1)] [] : St D0) K0 = g N a0_0 a0_1 a0_2 a0_3 a0_4 a0_5 a0_6 a1 := by
  rw [c1_0]; unfold g; exact (o0.run N (c 13) a0_0 a0_1 a0_2 a0_3 a0_4 a0_5 a0_6 a1).trans (congr rfl (fx16 (d1.run N)))
def ent : Ent Tryz.prog T0 := mkEntC C tabOk0 mixed0 13 [(true, [.any, .any, .any, .any, .any, .any, .any]), (false, [.any])] sig (E N) Tryz.func13 (by kernel_rfl) [(true, [.any, .any, .any, .any, .any, .any, .any]), (false, [.any]), (false, [.any])] N (fun t => g N t.1 t.2.1 t.2.2.1 t.2.2.2.1 t.2.2.2.2.1 t.2.2.2.2.2.1 t.2.2.2.2.2.2.1 t.2.2.2.2.2.2.2) (fun _ => by kernel_rfl) (fun t => g.run N t.1 t.2.1 t.2.2.1 t.2.2.2.1 t.2.2.2.2.1 t.2.2.2.2.2.1 t.2.2.2.2.2.2.1 t.2.2.2.2.2.2.2)
end zq110
namespace zq12
variable (N : Nat)
abbrev R : Type := Int × Int × Int × Int × Int × Int × Int
abbrev sig : Sig := ⟨[], [], [], [(true, 7)], [], [.i, .i, .i, .i, .i, .i, .i]⟩
noncomputable def C : Cfg D0 := ⟨Tryz.prog, T0, 1, 0, 5, 0, [], 0, false, []⟩
def E (N : Nat) : List (Ent Tryz.prog T0) := []
def O : Orc D0 R := orcOf (E N)
def K0 : Ex → St D0 → Option R := exitK C Tryz.f25.results.toList [(true, [.any, .any, .any, .any, .any, .any, .any])] (decOut sig)
noncomputable def c (p : Nat) : Code := codeAt (Tryz.f25.body.getD .skip) (pathN p)
def o0 (N : Nat) : Option R :=
 some (12, 0, 1, 0, 1, 73, 72)
def g : Option R := o0 N
theorem g.run : runC C (O N) N (c 1) 1 (st0 [] [] : St D0) K0 = g N := by kernel_rfl
def ent : Ent Tryz.prog T0 := mkEntC C tabOk0 mixed0 25 [] sig (E N) Tryz.func25 (by kernel_rfl) [(true, [.any, .any, .any, .any, .any, .any, .any])] N (fun t => g N) (fun _ => by kernel_rfl) (fun t => g.run N)
end zq12
end Go.Proofs.YtdidghlibfopgaaGreatDoor.M
end
