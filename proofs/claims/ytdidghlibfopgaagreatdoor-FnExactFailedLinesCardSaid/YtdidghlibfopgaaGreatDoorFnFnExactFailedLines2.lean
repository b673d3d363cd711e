/- What the program's functions compute, walked by the machine (part 2). No conditions but those stated. -/
import Derived.Test.YtdidghlibfopgaaGreatDoorFnFnExactFailedLines1
import Derived.Test.YtdidghlibfopgaaGreatDoorShelf
import Derived.Lib.IndexBytes
import Derived.Lib.IndexLaws
import Derived.OwnWalk
noncomputable section
namespace Go.Proofs.YtdidghlibfopgaaGreatDoor.M
open Go Go.PM Go.Proofs.YtdidghlibfopgaaGreatDoor.P
set_option linter.unusedVariables false
set_option maxRecDepth 100000
namespace zq16
variable (N : Nat)
abbrev R : Type := Bool
abbrev sig : Sig := ⟨[(true, 3)], [], [.i, .i, .i], [(false, 1)], [], [.bool]⟩
noncomputable def C : Cfg D0 := ⟨Tryz.prog, T0, 7, 0, 20, 0, [], 0, false, []⟩
def E : List (Ent Tryz.prog T0) := [zq81.ent N, zq60.ent N]
def O : Orc D0 R := orcOf (E N)
def K0 : Ex → St D0 → Option R := exitK C Tryz.f212.results.toList [(false, [.any])] (decOut sig)
noncomputable def c (p : Nat) : Code := codeAt (Tryz.f212.body.getD .skip) (pathN p)
def o0 (a0_0 a0_1 a0_2 : Int) : Option R :=
 (zq81.g N a0_0 1 10000).bind fun r1 =>
 bif r1 then
  (zq60.g N a0_1 a0_0).bind fun r2 =>
  bif r2 then
   (zq60.g N a0_2 a0_1).bind fun r3 =>
   some (r3)
  else
  some (false)
 else
 some (false)
def g (a0_0 a0_1 a0_2 : Int) : Option R := o0 N a0_0 a0_1 a0_2
theorem g.run (a0_0 a0_1 a0_2 : Int) : runC C (O N) N (c 1) 1 (st0 [.agg [.i a0_0, .i a0_1, .i a0_2]] [] : St D0) K0 = g N a0_0 a0_1 a0_2 := by kernel_rfl
def ent : Ent Tryz.prog T0 := mkEntC C tabOk0 mixed0 212 [(true, [.any, .any, .any])] sig (E N) Tryz.func212 (by kernel_rfl) [(false, [.any])] N (fun t => g N t.1 t.2.1 t.2.2) (fun _ => by kernel_rfl) (fun t => g.run N t.1 t.2.1 t.2.2)
end zq16
namespace zq64
variable (N : Nat)
abbrev R : Type := Bool
abbrev sig : Sig := ⟨[(false, 1)], [], [.i], [(false, 1)], [], [.bool]⟩
noncomputable def C : Cfg D0 := ⟨Tryz.prog, T0, 5, 0, 5, 0, [], 8, false, []⟩
def E : List (Ent Tryz.prog T0) := [zq81.ent N]
def O : Orc D0 R := orcOf (E N)
def K0 : Ex → St D0 → Option R := exitK C Tryz.f213.results.toList [(false, [.any])] (decOut sig)
noncomputable def c (p : Nat) : Code := codeAt (Tryz.f213.body.getD .skip) (pathN p)
def o0 (a0 : Int) : Option R :=
 (zq81.g N a0 1 1000000).bind fun r1 =>
 some (r1)
def g (a0 : Int) : Option R := o0 N a0
theorem g.run (a0 : Int) : runC C (O N) N (c 1) 1 (st0 [.one (.i a0)] [] : St D0) K0 = g N a0 := by kernel_rfl
def ent : Ent Tryz.prog T0 := mkEntC C tabOk0 mixed0 213 [(false, [.any])] sig (E N) Tryz.func213 (by kernel_rfl) [(false, [.any])] N (fun t => g N t) (fun _ => by kernel_rfl) (fun t => g.run N t)
end zq64
namespace zq22
variable (N : Nat)
abbrev R : Type := Int
abbrev QQ : Type := St D0 → Option R
abbrev sig : Sig := ⟨[(true, 3), (false, 1)], [], [.i, .i, .i, .i], [(false, 1)], [], [.i]⟩
noncomputable def C : Cfg D0 := ⟨Tryz.prog, T0, 2101303, 0, 29, 0, [(14, [1, 2, 5], [2]), (30, [5], [])], 12607552, false, []⟩
def E (N : Nat) : List (Ent Tryz.prog T0) := []
def O : Orc D0 R := orcOf (E N)
def K0 : Ex → QQ := exitK C Tryz.f237.results.toList [(false, [.any])] (decOut sig)
noncomputable def c (p : Nat) : Code := codeAt (Tryz.f237.body.getD .skip) (pathN p)
abbrev t1 : Type := Int → Int → Int → Int → Int → Option R
def s1 (v0 v1 v2 v3 v4 : Int) : St D0 := mkSt [(1, .one (.i v0)), (2, .one (.ptr 2 0)), (5, .one (.i v1))] [(2, some (150, [.i v2, .i v3, .i v4]))]
def s2 (v0 : Int) : St D0 := mkSt [(5, .one (.i v0))] []
def K31 (N : Nat) : Ex → QQ := K0
def o2 (N : Nat) (v0 : Int) : Option R :=
 some (v0)
def d2 (v0 : Int) : Option R := o2 N v0
theorem d2.run (v0 : Int) : runC C (O N) N (c 31) 31 (s2 v0) (K31 N) = d2 N v0 := by kernel_rfl
def K15 (N : Nat) : Ex → QQ := K0
def o1 (N : Nat) (v0 v1 v2 v3 v4 : Int) (c2 : Int → Option R) : Option R :=
 bif (decide (v4 > 0)) then
  bif (v4 == 0) then
   none
  else
  c2 (w64 (v1 + (w64 (Int.tdiv v0 v4))))
 else
 c2 v1
theorem o1.run (H31 : Code) (v0 v1 v2 v3 v4 : Int) : runC C (O N) N (.seq (c 30) H31) 15 (s1 v0 v1 v2 v3 v4) K0 = o1 N v0 v1 v2 v3 v4 ((fun w0 => runC C (O N) N H31 31 (s2 w0) K0)) := by kernel_rfl
def B15 : QQ := fun s' => runC C (O N) N (c 31) 31 s' (K31 N)
def d1 (v0 v1 v2 v3 v4 : Int) : Option R := o1 N v0 v1 v2 v3 v4 ((fun w0 => d2 N w0))
theorem c15_1 : (c 15) = (.seq (c 30) (c 31)) := by kernel_rfl
theorem d1.run (v0 v1 v2 v3 v4 : Int) : runC C (O N) N (c 15) 15 (s1 v0 v1 v2 v3 v4) (K15 N) = d1 N v0 v1 v2 v3 v4 := by
  rw [c15_1]; unfold d1; exact (o1.run N (c 31) v0 v1 v2 v3 v4).trans (congr rfl (fx1 (d2.run N)))
def o0 (N : Nat) (a0_0 a0_1 a0_2 a1 : Int) (c1 : t1) : Option R :=
 bif (a0_0 == 0) then
  none
 else
 bif (decide (a0_1 > 0)) then
  bif (a0_1 == 0) then
   none
  else
  c1 a1 (w64 ((w64 (Int.tdiv a1 a0_0)) - (w64 (Int.tdiv a1 a0_1)))) a0_0 a0_1 a0_2
 else
 c1 a1 (w64 (Int.tdiv a1 a0_0)) a0_0 a0_1 a0_2
theorem o0.run (H15 : Code) (a0_0 a0_1 a0_2 a1 : Int) : runC C (O N) N (.seq (c 2) (.seq (c 6) (.seq (c 14) H15))) 1 (st0 [.agg [.i a0_0, .i a0_1, .i a0_2], .one (.i a1)] [] : St D0) K0 = o0 N a0_0 a0_1 a0_2 a1 ((fun w0 w1 w2 w3 w4 => runC C (O N) N H15 15 (s1 w0 w1 w2 w3 w4) K0)) := by kernel_rfl
def g (a0_0 a0_1 a0_2 a1 : Int) : Option R := o0 N a0_0 a0_1 a0_2 a1 (d1 N · · · · ·)
theorem c1_0 : (c 1) = (.seq (c 2) (.seq (c 6) (.seq (c 14) (c 15)))) := by kernel_rfl
theorem g.run (a0_0 a0_1 a0_2 a1 : Int) : runC C (O N) N (c 1) 1 (st0 [.agg [.i a0_0, .i a0_1, .i a0_2], .one (.i a1)] [] : St D0) K0 = g N a0_0 a0_1 a0_2 a1 := by
  rw [c1_0]; unfold g; exact (o0.run N (c 15) a0_0 a0_1 a0_2 a1).trans (congr rfl (fx5 (d1.run N)))
def ent : Ent Tryz.prog T0 := mkEntC C tabOk0 mixed0 237 [(true, [.any, .any, .any]), (false, [.any])] sig (E N) Tryz.func237 (by kernel_rfl) [(false, [.any])] N (fun t => g N t.1 t.2.1 t.2.2.1 t.2.2.2) (fun _ => by kernel_rfl) (fun t => g.run N t.1 t.2.1 t.2.2.1 t.2.2.2)
end zq22
namespace zq21
variable (N : Nat)
abbrev R : Type := Bool
abbrev sig : Sig := ⟨[(true, 3), (false, 1)], [], [.i, .i, .i, .i], [(false, 1)], [], [.bool]⟩
noncomputable def C : Cfg D0 := ⟨Tryz.prog, T0, 23, 0, 13, 0, [], 576, false, []⟩
def E : List (Ent Tryz.prog T0) := [zq22.ent N]
def O : Orc D0 R := orcOf (E N)
def K0 : Ex → St D0 → Option R := exitK C Tryz.f214.results.toList [(false, [.any])] (decOut sig)
noncomputable def c (p : Nat) : Code := codeAt (Tryz.f214.body.getD .skip) (pathN p)
def o0 (a0_0 a0_1 a0_2 a1 : Int) : Option R :=
 (zq22.g N a0_0 a0_1 a0_2 a1).bind fun r1 =>
 (zq22.g N a0_0 a0_1 a0_2 (w64 (a1 - 1))).bind fun r2 =>
 some ((decide (r1 > r2)))
def g (a0_0 a0_1 a0_2 a1 : Int) : Option R := o0 N a0_0 a0_1 a0_2 a1
theorem g.run (a0_0 a0_1 a0_2 a1 : Int) : runC C (O N) N (c 1) 1 (st0 [.agg [.i a0_0, .i a0_1, .i a0_2], .one (.i a1)] [] : St D0) K0 = g N a0_0 a0_1 a0_2 a1 := by kernel_rfl
def ent : Ent Tryz.prog T0 := mkEntC C tabOk0 mixed0 214 [(true, [.any, .any, .any]), (false, [.any])] sig (E N) Tryz.func214 (by kernel_rfl) [(false, [.any])] N (fun t => g N t.1 t.2.1 t.2.2.1 t.2.2.2) (fun _ => by kernel_rfl) (fun t => g.run N t.1 t.2.1 t.2.2.1 t.2.2.2)
end zq21
namespace zq17
variable (N : Nat)
abbrev R : Type := Bool × Bool
abbrev sig : Sig := ⟨[(true, 3), (false, 1)], [], [.i, .i, .i, .i], [(false, 1), (false, 1)], [], [.bool, .bool]⟩
noncomputable def C : Cfg D0 := ⟨Tryz.prog, T0, 8247, 0, 17, 0, [(12, [1, 2, 13], [2])], 33792, false, []⟩
def E : List (Ent Tryz.prog T0) := [zq16.ent N, zq64.ent N, zq21.ent N]
def O : Orc D0 R := orcOf (E N)
def K0 : Ex → St D0 → Option R := exitK C Tryz.f171.results.toList [(false, [.any]), (false, [.any])] (decOut sig)
noncomputable def c (p : Nat) : Code := codeAt (Tryz.f171.body.getD .skip) (pathN p)
abbrev t1 : Type := Int → Bool → Int → Int → Int → Option R
def s1 (v0 : Int) (v1 : Bool) (v2 v3 v4 : Int) : St D0 := mkSt [(1, .one (.i v0)), (2, .one (.ptr 2 0)), (13, .one (.bool v1))] [(2, some (150, [.i v2, .i v3, .i v4]))]
def K13 : Ex → St D0 → Option R := (onN (tk C (O N) N c 6 7 K0) K0)
def o1 (v0 : Int) (v1 : Bool) (v2 v3 v4 : Int) : Option R :=
 bif v1 then
  some (false, false)
 else
 (zq21.g N v2 v3 v4 v0).bind fun r1 =>
 some (r1, true)
def d1 (v0 : Int) (v1 : Bool) (v2 v3 v4 : Int) : Option R := o1 N v0 v1 v2 v3 v4
theorem d1.run (v0 : Int) (v1 : Bool) (v2 v3 v4 : Int) : runC C (O N) N (c 13) 13 (s1 v0 v1 v2 v3 v4) (K13 N) = d1 N v0 v1 v2 v3 v4 := by kernel_rfl
def o0 (a0_0 a0_1 a0_2 a1 : Int) (c1 : t1) : Option R :=
 (zq16.g N a0_0 a0_1 a0_2).bind fun r1 =>
 bif (!r1) then
  c1 a1 true a0_0 a0_1 a0_2
 else
 (zq64.g N a1).bind fun r2 =>
 c1 a1 (!r2) a0_0 a0_1 a0_2
theorem o0.run (H13 : Code) (a0_0 a0_1 a0_2 a1 : Int) : runC C (O N) N (.seq (c 2) (.seq (.seq (c 12) H13) (c 7))) 1 (st0 [.agg [.i a0_0, .i a0_1, .i a0_2], .one (.i a1)] [] : St D0) K0 = o0 N a0_0 a0_1 a0_2 a1 ((fun w0 w1 w2 w3 w4 => runC C (O N) N H13 13 (s1 w0 w1 w2 w3 w4) (onN (tk C (O N) N c 6 7 K0) K0))) := by kernel_rfl
def g (a0_0 a0_1 a0_2 a1 : Int) : Option R := o0 N a0_0 a0_1 a0_2 a1 (d1 N · · · · ·)
theorem c1_0 : (c 1) = (.seq (c 2) (.seq (.seq (c 12) (c 13)) (c 7))) := by kernel_rfl
theorem g.run (a0_0 a0_1 a0_2 a1 : Int) : runC C (O N) N (c 1) 1 (st0 [.agg [.i a0_0, .i a0_1, .i a0_2], .one (.i a1)] [] : St D0) K0 = g N a0_0 a0_1 a0_2 a1 := by
  rw [c1_0]; unfold g; exact (o0.run N (c 13) a0_0 a0_1 a0_2 a1).trans (congr rfl (fx5 (d1.run N)))
def ent : Ent Tryz.prog T0 := mkEntC C tabOk0 mixed0 171 [(true, [.any, .any, .any]), (false, [.any])] sig (E N) Tryz.func171 (by kernel_rfl) [(false, [.any]), (false, [.any])] N (fun t => g N t.1 t.2.1 t.2.2.1 t.2.2.2) (fun _ => by kernel_rfl) (fun t => g.run N t.1 t.2.1 t.2.2.1 t.2.2.2)
end zq17
namespace zq143
variable (N : Nat)
abbrev R : Type := Bool
abbrev sig : Sig := ⟨[(true, 3)], [], [.i, .i, .i], [(false, 1)], [], [.bool]⟩
noncomputable def C : Cfg D0 := ⟨Tryz.prog, T0, 2359303, 0, 58, 0, [(12, [1, 18], [1])], 0, false, []⟩
def E : List (Ent Tryz.prog T0) := [zq173.ent N]
def O : Orc D0 R := orcOf (E N)
def K0 : Ex → St D0 → Option R := exitK C Tryz.f218.results.toList [(false, [.any])] (decOut sig)
noncomputable def c (p : Nat) : Code := codeAt (Tryz.f218.body.getD .skip) (pathN p)
abbrev t1 : Type := Bool → Int → Int → Int → Option R
def s1 (v0 : Bool) (v1 v2 v3 : Int) : St D0 := mkSt [(1, .one (.ptr 1 0)), (18, .one (.bool v0))] [(1, some (150, [.i v1, .i v2, .i v3]))]
def K13 : Ex → St D0 → Option R := (onN (tk C (O N) N c 6 7 K0) K0)
def o1 (N : Nat) (v0 : Bool) (v1 v2 v3 : Int) : Option R :=
 bif v0 then
  some (false)
 else
 bif (v2 == 0) then
  some ((v3 == 0))
 else
 bif (decide (v2 > v1)) then
  bif (v1 == 0) then
   none
  else
  bif ((Int.tmod v2 v1) == 0) then
   bif (v3 == 0) then
    some (true)
   else
   bif (decide (v3 > v2)) then
    bif (v2 == 0) then
     none
    else
    some (((Int.tmod v3 v2) == 0))
   else
   some (false)
  else
  some (false)
 else
 some (false)
def d1 (v0 : Bool) (v1 v2 v3 : Int) : Option R := o1 N v0 v1 v2 v3
theorem d1.run (v0 : Bool) (v1 v2 v3 : Int) : runC C (O N) N (c 13) 13 (s1 v0 v1 v2 v3) (K13 N) = d1 N v0 v1 v2 v3 := by kernel_rfl
def o0 (a0_0 a0_1 a0_2 : Int) (c1 : t1) : Option R :=
 (zq173.g N a0_0 1 10000).bind fun r1 =>
 bif (!r1) then
  c1 true a0_0 a0_1 a0_2
 else
 (zq173.g N a0_1 0 10000).bind fun r2 =>
 bif (!r2) then
  c1 true a0_0 a0_1 a0_2
 else
 (zq173.g N a0_2 0 10000).bind fun r3 =>
 c1 (!r3) a0_0 a0_1 a0_2
theorem o0.run (H13 : Code) (a0_0 a0_1 a0_2 : Int) : runC C (O N) N (.seq (c 2) (.seq (.seq (c 12) H13) (c 7))) 1 (st0 [.agg [.i a0_0, .i a0_1, .i a0_2]] [] : St D0) K0 = o0 N a0_0 a0_1 a0_2 ((fun w0 w1 w2 w3 => runC C (O N) N H13 13 (s1 w0 w1 w2 w3) (onN (tk C (O N) N c 6 7 K0) K0))) := by kernel_rfl
def g (a0_0 a0_1 a0_2 : Int) : Option R := o0 N a0_0 a0_1 a0_2 (d1 N · · · ·)
theorem c1_0 : (c 1) = (.seq (c 2) (.seq (.seq (c 12) (c 13)) (c 7))) := by kernel_rfl
theorem g.run (a0_0 a0_1 a0_2 : Int) : runC C (O N) N (c 1) 1 (st0 [.agg [.i a0_0, .i a0_1, .i a0_2]] [] : St D0) K0 = g N a0_0 a0_1 a0_2 := by
  rw [c1_0]; unfold g; exact (o0.run N (c 13) a0_0 a0_1 a0_2).trans (congr rfl (fx4 (d1.run N)))
def ent : Ent Tryz.prog T0 := mkEntC C tabOk0 mixed0 218 [(true, [.any, .any, .any])] sig (E N) Tryz.func218 (by kernel_rfl) [(false, [.any])] N (fun t => g N t.1 t.2.1 t.2.2) (fun _ => by kernel_rfl) (fun t => g.run N t.1 t.2.1 t.2.2)
end zq143
namespace zq144
variable (N : Nat)
abbrev R : Type := Bool
abbrev sig : Sig := ⟨[(true, 3), (false, 1)], [], [.i, .i, .i, .i], [(false, 1)], [], [.bool]⟩
noncomputable def C : Cfg D0 := ⟨Tryz.prog, T0, 23, 0, 11, 0, [], 256, false, []⟩
def E : List (Ent Tryz.prog T0) := [zq143.ent N, zq173.ent N]
def O : Orc D0 R := orcOf (E N)
def K0 : Ex → St D0 → Option R := exitK C Tryz.f187.results.toList [(false, [.any])] (decOut sig)
noncomputable def c (p : Nat) : Code := codeAt (Tryz.f187.body.getD .skip) (pathN p)
def o0 (a0_0 a0_1 a0_2 a1 : Int) : Option R :=
 (zq143.g N a0_0 a0_1 a0_2).bind fun r1 =>
 bif r1 then
  (zq173.g N a1 1 1000000).bind fun r2 =>
  some (r2)
 else
 some (false)
def g (a0_0 a0_1 a0_2 a1 : Int) : Option R := o0 N a0_0 a0_1 a0_2 a1
theorem g.run (a0_0 a0_1 a0_2 a1 : Int) : runC C (O N) N (c 1) 1 (st0 [.agg [.i a0_0, .i a0_1, .i a0_2], .one (.i a1)] [] : St D0) K0 = g N a0_0 a0_1 a0_2 a1 := by kernel_rfl
def ent : Ent Tryz.prog T0 := mkEntC C tabOk0 mixed0 187 [(true, [.any, .any, .any]), (false, [.any])] sig (E N) Tryz.func187 (by kernel_rfl) [(false, [.any])] N (fun t => g N t.1 t.2.1 t.2.2.1 t.2.2.2) (fun _ => by kernel_rfl) (fun t => g.run N t.1 t.2.1 t.2.2.1 t.2.2.2)
end zq144
namespace zq142
variable (N : Nat)
abbrev R : Type := Bool
abbrev sig : Sig := ⟨[(true, 3), (false, 1)], [], [.i, .i, .i, .i], [(false, 1)], [], [.bool]⟩
noncomputable def C : Cfg D0 := ⟨Tryz.prog, T0, 2103, 0, 32, 0, [(102, [1, 2, 11], [2])], 67174464, false, []⟩
def E (N : Nat) : List (Ent Tryz.prog T0) := []
def O : Orc D0 R := orcOf (E N)
def K0 : Ex → St D0 → Option R := exitK C Tryz.f188.results.toList [(false, [.any])] (decOut sig)
noncomputable def c (p : Nat) : Code := codeAt (Tryz.f188.body.getD .skip) (pathN p)
abbrev t1 : Type := Int → Bool → Int → Int → Int → Option R
def s1 (v0 : Int) (v1 : Bool) (v2 v3 v4 : Int) : St D0 := mkSt [(1, .one (.i v0)), (2, .one (.ptr 2 0)), (11, .one (.bool v1))] [(2, some (150, [.i v2, .i v3, .i v4]))]
def K103 : Ex → St D0 → Option R := (blockK 0 (onN (tk C (O N) N c 6 7 K0) K0))
def o1 (N : Nat) (v0 : Int) (v1 : Bool) (v2 v3 v4 : Int) : Option R :=
 bif v1 then
  some (true)
 else
 bif (v4 != 0) then
  bif (v4 == 0) then
   none
  else
  some (((Int.tmod v0 v4) == 0))
 else
 some (false)
def d1 (v0 : Int) (v1 : Bool) (v2 v3 v4 : Int) : Option R := o1 N v0 v1 v2 v3 v4
theorem d1.run (v0 : Int) (v1 : Bool) (v2 v3 v4 : Int) : runC C (O N) N (c 103) 103 (s1 v0 v1 v2 v3 v4) (K103 N) = d1 N v0 v1 v2 v3 v4 := by kernel_rfl
def o0 (N : Nat) (a0_0 a0_1 a0_2 a1 : Int) (c1 : t1) : Option R :=
 bif (a0_0 == 0) then
  none
 else
 bif ((Int.tmod a1 a0_0) != 0) then
  some (false)
 else
 bif (a0_1 == 0) then
  c1 a1 true a0_0 a0_1 a0_2
 else
 bif (a0_1 == 0) then
  none
 else
 c1 a1 ((Int.tmod a1 a0_1) != 0) a0_0 a0_1 a0_2
theorem o0.run (H103 : Code) (a0_0 a0_1 a0_2 a1 : Int) : runC C (O N) N (.seq (c 2) (.seq (.block 0 (.seq (c 24) (.cond (.tmp 5) (c 50) (.seq (c 102) H103)))) (c 7))) 1 (st0 [.agg [.i a0_0, .i a0_1, .i a0_2], .one (.i a1)] [] : St D0) K0 = o0 N a0_0 a0_1 a0_2 a1 ((fun w0 w1 w2 w3 w4 => runC C (O N) N H103 103 (s1 w0 w1 w2 w3 w4) (blockK 0 (onN (tk C (O N) N c 6 7 K0) K0)))) := by kernel_rfl
def g (a0_0 a0_1 a0_2 a1 : Int) : Option R := o0 N a0_0 a0_1 a0_2 a1 (d1 N · · · · ·)
theorem c1_0 : (c 1) = (.seq (c 2) (.seq (.block 0 (.seq (c 24) (.cond (.tmp 5) (c 50) (.seq (c 102) (c 103))))) (c 7))) := by kernel_rfl
theorem g.run (a0_0 a0_1 a0_2 a1 : Int) : runC C (O N) N (c 1) 1 (st0 [.agg [.i a0_0, .i a0_1, .i a0_2], .one (.i a1)] [] : St D0) K0 = g N a0_0 a0_1 a0_2 a1 := by
  rw [c1_0]; unfold g; exact (o0.run N (c 103) a0_0 a0_1 a0_2 a1).trans (congr rfl (fx5 (d1.run N)))
def ent : Ent Tryz.prog T0 := mkEntC C tabOk0 mixed0 188 [(true, [.any, .any, .any]), (false, [.any])] sig (E N) Tryz.func188 (by kernel_rfl) [(false, [.any])] N (fun t => g N t.1 t.2.1 t.2.2.1 t.2.2.2) (fun _ => by kernel_rfl) (fun t => g.run N t.1 t.2.1 t.2.2.1 t.2.2.2)
end zq142
namespace zq116
variable (N : Nat)
abbrev R : Type := Bool × Bool
abbrev sig : Sig := ⟨[(true, 3), (false, 1)], [], [.i, .i, .i, .i], [(false, 1), (false, 1)], [], [.bool, .bool]⟩
noncomputable def C : Cfg D0 := ⟨Tryz.prog, T0, 567, 0, 13, 0, [], 2176, false, []⟩
def E : List (Ent Tryz.prog T0) := [zq144.ent N, zq142.ent N]
def O : Orc D0 R := orcOf (E N)
def K0 : Ex → St D0 → Option R := exitK C Tryz.f141.results.toList [(false, [.any]), (false, [.any])] (decOut sig)
noncomputable def c (p : Nat) : Code := codeAt (Tryz.f141.body.getD .skip) (pathN p)
def o0 (a0_0 a0_1 a0_2 a1 : Int) : Option R :=
 (zq144.g N a0_0 a0_1 a0_2 a1).bind fun r1 =>
 bif (!r1) then
  some (false, false)
 else
 (zq142.g N a0_0 a0_1 a0_2 a1).bind fun r2 =>
 some (r2, true)
def g (a0_0 a0_1 a0_2 a1 : Int) : Option R := o0 N a0_0 a0_1 a0_2 a1
theorem g.run (a0_0 a0_1 a0_2 a1 : Int) : runC C (O N) N (c 1) 1 (st0 [.agg [.i a0_0, .i a0_1, .i a0_2], .one (.i a1)] [] : St D0) K0 = g N a0_0 a0_1 a0_2 a1 := by kernel_rfl
def ent : Ent Tryz.prog T0 := mkEntC C tabOk0 mixed0 141 [(true, [.any, .any, .any]), (false, [.any])] sig (E N) Tryz.func141 (by kernel_rfl) [(false, [.any]), (false, [.any])] N (fun t => g N t.1 t.2.1 t.2.2.1 t.2.2.2) (fun _ => by kernel_rfl) (fun t => g.run N t.1 t.2.1 t.2.2.1 t.2.2.2)
end zq116
namespace zq174
variable (N : Nat)
abbrev R : Type := Int
abbrev sig : Sig := ⟨[(false, 1), (false, 1)], [], [.i, .i], [(false, 1)], [], [.i]⟩
noncomputable def C : Cfg D0 := ⟨Tryz.prog, T0, 147, 0, 10, 0, [], 96, false, []⟩
def E (N : Nat) : List (Ent Tryz.prog T0) := []
def O : Orc D0 R := orcOf (E N)
def K0 : Ex → St D0 → Option R := exitK C Tryz.f217.results.toList [(false, [.any])] (decOut sig)
noncomputable def c (p : Nat) : Code := codeAt (Tryz.f217.body.getD .skip) (pathN p)
def o0 (N : Nat) (a0 a1 : Int) : Option R :=
 bif (decide (a0 > a1)) then
  some (a0)
 else
 some (a1)
def g (a0 a1 : Int) : Option R := o0 N a0 a1
theorem g.run (a0 a1 : Int) : runC C (O N) N (c 1) 1 (st0 [.one (.i a0), .one (.i a1)] [] : St D0) K0 = g N a0 a1 := by kernel_rfl
def ent : Ent Tryz.prog T0 := mkEntC C tabOk0 mixed0 217 [(false, [.any]), (false, [.any])] sig (E N) Tryz.func217 (by kernel_rfl) [(false, [.any])] N (fun t => g N t.1 t.2) (fun _ => by kernel_rfl) (fun t => g.run N t.1 t.2)
end zq174
namespace zq163
variable (N : Nat)
abbrev R : Type := Int
abbrev sig : Sig := ⟨[(false, 1)], [], [.i], [(false, 1)], [], [.i]⟩
noncomputable def C : Cfg D0 := ⟨Tryz.prog, T0, 5, 0, 7, 0, [], 24, false, []⟩
def E : List (Ent Tryz.prog T0) := [zq174.ent N]
def O : Orc D0 R := orcOf (E N)
def K0 : Ex → St D0 → Option R := exitK C Tryz.f185.results.toList [(false, [.any])] (decOut sig)
noncomputable def c (p : Nat) : Code := codeAt (Tryz.f185.body.getD .skip) (pathN p)
def o0 (a0 : Int) : Option R :=
 (zq174.g N a0 (w64 (0 - a0))).bind fun r1 =>
 some (r1)
def g (a0 : Int) : Option R := o0 N a0
theorem g.run (a0 : Int) : runC C (O N) N (c 1) 1 (st0 [.one (.i a0)] [] : St D0) K0 = g N a0 := by kernel_rfl
def ent : Ent Tryz.prog T0 := mkEntC C tabOk0 mixed0 185 [(false, [.any])] sig (E N) Tryz.func185 (by kernel_rfl) [(false, [.any])] N (fun t => g N t) (fun _ => by kernel_rfl) (fun t => g.run N t)
end zq163
namespace zq14
variable (N : Nat)
abbrev R : Type := Bool
abbrev sig : Sig := ⟨[(true, 4)], [], [.i, .i, .i, .i], [(false, 1)], [], [.bool]⟩
noncomputable def C : Cfg D0 := ⟨Tryz.prog, T0, 7, 0, 30, 0, [], 0, false, []⟩
def E : List (Ent Tryz.prog T0) := [zq20.ent N, zq81.ent N, zq55.ent N]
def O : Orc D0 R := orcOf (E N)
def K0 : Ex → St D0 → Option R := exitK C Tryz.f44.results.toList [(false, [.any])] (decOut sig)
noncomputable def c (p : Nat) : Code := codeAt (Tryz.f44.body.getD .skip) (pathN p)
def o0 (a0_0 a0_1 a0_2 a0_3 : Int) : Option R :=
 (zq20.g N a0_0 a0_1).bind fun r1 =>
 bif r1 then
  bif (decide (a0_1 ≤ 1000)) then
   (zq81.g N a0_2 1 1000).bind fun r2 =>
   bif r2 then
    (zq81.g N a0_3 1 1000).bind fun r3 =>
    bif r3 then
     (zq55.g N a0_2 a0_3).bind fun r4 =>
     some ((r4 == 1))
    else
    some (false)
   else
   some (false)
  else
  some (false)
 else
 some (false)
def g (a0_0 a0_1 a0_2 a0_3 : Int) : Option R := o0 N a0_0 a0_1 a0_2 a0_3
theorem g.run (a0_0 a0_1 a0_2 a0_3 : Int) : runC C (O N) N (c 1) 1 (st0 [.agg [.i a0_0, .i a0_1, .i a0_2, .i a0_3]] [] : St D0) K0 = g N a0_0 a0_1 a0_2 a0_3 := by kernel_rfl
def ent : Ent Tryz.prog T0 := mkEntC C tabOk0 mixed0 44 [(true, [.any, .any, .any, .any])] sig (E N) Tryz.func44 (by kernel_rfl) [(false, [.any])] N (fun t => g N t.1 t.2.1 t.2.2.1 t.2.2.2) (fun _ => by kernel_rfl) (fun t => g.run N t.1 t.2.1 t.2.2.1 t.2.2.2)
end zq14
namespace zq19
variable (N : Nat)
abbrev R : Type := Bool
abbrev sig : Sig := ⟨[(true, 2)], [], [.i, .i], [(false, 1)], [], [.bool]⟩
noncomputable def C : Cfg D0 := ⟨Tryz.prog, T0, 7, 0, 19, 0, [], 0, false, []⟩
def E : List (Ent Tryz.prog T0) := [zq81.ent N, zq55.ent N]
def O : Orc D0 R := orcOf (E N)
def K0 : Ex → St D0 → Option R := exitK C Tryz.f153.results.toList [(false, [.any])] (decOut sig)
noncomputable def c (p : Nat) : Code := codeAt (Tryz.f153.body.getD .skip) (pathN p)
def o0 (a0_0 a0_1 : Int) : Option R :=
 (zq81.g N a0_0 0 1000000).bind fun r1 =>
 bif r1 then
  (zq81.g N a0_1 1 10000).bind fun r2 =>
  bif r2 then
   (zq55.g N a0_0 a0_1).bind fun r3 =>
   some ((r3 == 1))
  else
  some (false)
 else
 some (false)
def g (a0_0 a0_1 : Int) : Option R := o0 N a0_0 a0_1
theorem g.run (a0_0 a0_1 : Int) : runC C (O N) N (c 1) 1 (st0 [.agg [.i a0_0, .i a0_1]] [] : St D0) K0 = g N a0_0 a0_1 := by kernel_rfl
def ent : Ent Tryz.prog T0 := mkEntC C tabOk0 mixed0 153 [(true, [.any, .any])] sig (E N) Tryz.func153 (by kernel_rfl) [(false, [.any])] N (fun t => g N t.1 t.2) (fun _ => by kernel_rfl) (fun t => g.run N t.1 t.2)
end zq19
namespace zq6
variable (N : Nat)
abbrev R : Type := Int × Int
abbrev sig : Sig := ⟨[(true, 4), (true, 2)], [], [.i, .i, .i, .i, .i, .i], [(true, 2)], [], [.i, .i]⟩
noncomputable def C : Cfg D0 := ⟨Tryz.prog, T0, 31, 0, 16, 0, [], 0, false, []⟩
def E : List (Ent Tryz.prog T0) := [zq67.ent N]
def O : Orc D0 R := orcOf (E N)
def K0 : Ex → St D0 → Option R := exitK C Tryz.f166.results.toList [(true, [.any, .any])] (decOut sig)
noncomputable def c (p : Nat) : Code := codeAt (Tryz.f166.body.getD .skip) (pathN p)
def o0 (a0_0 a0_1 a0_2 a0_3 a1_0 a1_1 : Int) : Option R :=
 (zq67.g N (w64 (a1_0 * a0_2)) (w64 (a1_1 * a0_3))).bind fun r1 =>
 some (r1.1, r1.2)
def g (a0_0 a0_1 a0_2 a0_3 a1_0 a1_1 : Int) : Option R := o0 N a0_0 a0_1 a0_2 a0_3 a1_0 a1_1
theorem g.run (a0_0 a0_1 a0_2 a0_3 a1_0 a1_1 : Int) : runC C (O N) N (c 1) 1 (st0 [.agg [.i a0_0, .i a0_1, .i a0_2, .i a0_3], .agg [.i a1_0, .i a1_1]] [] : St D0) K0 = g N a0_0 a0_1 a0_2 a0_3 a1_0 a1_1 := by kernel_rfl
def ent : Ent Tryz.prog T0 := mkEntC C tabOk0 mixed0 166 [(true, [.any, .any, .any, .any]), (true, [.any, .any])] sig (E N) Tryz.func166 (by kernel_rfl) [(true, [.any, .any])] N (fun t => g N t.1 t.2.1 t.2.2.1 t.2.2.2.1 t.2.2.2.2.1 t.2.2.2.2.2) (fun _ => by kernel_rfl) (fun t => g.run N t.1 t.2.1 t.2.2.1 t.2.2.2.1 t.2.2.2.2.1 t.2.2.2.2.2)
end zq6
namespace zq33
variable (N : Nat)
abbrev R : Type := Int × Int × Bool
abbrev sig : Sig := ⟨[(true, 4), (true, 2)], [], [.i, .i, .i, .i, .i, .i], [(true, 2), (false, 1)], [], [.i, .i, .bool]⟩
noncomputable def C : Cfg D0 := ⟨Tryz.prog, T0, 8255, 0, 24, 0, [(12, [2, 3, 4, 13], [2, 3, 4])], 12582912, false, []⟩
def E : List (Ent Tryz.prog T0) := [zq14.ent N, zq19.ent N, zq6.ent N, zq42.ent N, zq56.ent N]
def O : Orc D0 R := orcOf (E N)
def K0 : Ex → St D0 → Option R := exitK C Tryz.f106.results.toList [(true, [.any, .any]), (false, [.any])] (decOut sig)
noncomputable def c (p : Nat) : Code := codeAt (Tryz.f106.body.getD .skip) (pathN p)
abbrev t1 : Type := Bool → Int → Int → Int → Int → Int → Int → Int → Int → Option R
def s1 (v0 : Bool) (v1 v2 v3 v4 v5 v6 v7 v8 : Int) : St D0 := mkSt [(2, .one (.ptr 2 0)), (3, .one (.ptr 3 0)), (4, .one (.ptr 4 0)), (13, .one (.bool v0))] [(2, some (27, [.i v1, .i v2, .i v3, .i v4])), (3, some (95, [.i v5, .i v6])), (4, some (25, [.i v7, .i v8]))]
def K13 : Ex → St D0 → Option R := (onN (tk C (O N) N c 6 7 K0) K0)
def o1 (v0 : Bool) (v1 v2 v3 v4 v5 v6 v7 v8 : Int) : Option R :=
 bif v0 then
  some (0, 0, false)
 else
 (zq6.g N v1 v2 v3 v4 v5 v6).bind fun r1 =>
 (zq42.g N v1 v2 r1.1 r1.2).bind fun r2 =>
 (zq56.g N r2.1 r2.2).bind fun r3 =>
 some (r3.1, r3.2.1, r3.2.2)
def d1 (v0 : Bool) (v1 v2 v3 v4 v5 v6 v7 v8 : Int) : Option R := o1 N v0 v1 v2 v3 v4 v5 v6 v7 v8
theorem d1.run (v0 : Bool) (v1 v2 v3 v4 v5 v6 v7 v8 : Int) : runC C (O N) N (c 13) 13 (s1 v0 v1 v2 v3 v4 v5 v6 v7 v8) (K13 N) = d1 N v0 v1 v2 v3 v4 v5 v6 v7 v8 := by kernel_rfl
def o0 (a0_0 a0_1 a0_2 a0_3 a1_0 a1_1 : Int) (c1 : t1) : Option R :=
 (zq14.g N a0_0 a0_1 a0_2 a0_3).bind fun r1 =>
 bif (!r1) then
  c1 true a0_0 a0_1 a0_2 a0_3 a1_0 a1_1 0 0
 else
 (zq19.g N a1_0 a1_1).bind fun r2 =>
 c1 (!r2) a0_0 a0_1 a0_2 a0_3 a1_0 a1_1 0 0
theorem o0.run (H13 : Code) (a0_0 a0_1 a0_2 a0_3 a1_0 a1_1 : Int) : runC C (O N) N (.seq (c 2) (.seq (.seq (c 12) H13) (c 7))) 1 (st0 [.agg [.i a0_0, .i a0_1, .i a0_2, .i a0_3], .agg [.i a1_0, .i a1_1]] [] : St D0) K0 = o0 N a0_0 a0_1 a0_2 a0_3 a1_0 a1_1 ((fun w0 w1 w2 w3 w4 w5 w6 w7 w8 => runC C (O N) N H13 13 (s1 w0 w1 w2 w3 w4 w5 w6 w7 w8) (onN (tk C (O N) N c 6 7 K0) K0))) := by kernel_rfl
def g (a0_0 a0_1 a0_2 a0_3 a1_0 a1_1 : Int) : Option R := o0 N a0_0 a0_1 a0_2 a0_3 a1_0 a1_1 (d1 N · · · · · · · · ·)
theorem c1_0 : (c 1) = (.seq (c 2) (.seq (.seq (c 12) (c 13)) (c 7))) := by kernel_rfl
theorem g.run (a0_0 a0_1 a0_2 a0_3 a1_0 a1_1 : Int) : runC C (O N) N (c 1) 1 (st0 [.agg [.i a0_0, .i a0_1, .i a0_2, .i a0_3], .agg [.i a1_0, .i a1_1]] [] : St D0) K0 = g N a0_0 a0_1 a0_2 a0_3 a1_0 a1_1 := by
  rw [c1_0]; unfold g; exact (o0.run N (c 13) a0_0 a0_1 a0_2 a0_3 a1_0 a1_1).trans (congr rfl (fx9 (d1.run N)))
def ent : Ent Tryz.prog T0 := mkEntC C tabOk0 mixed0 106 [(true, [.any, .any, .any, .any]), (true, [.any, .any])] sig (E N) Tryz.func106 (by kernel_rfl) [(true, [.any, .any]), (false, [.any])] N (fun t => g N t.1 t.2.1 t.2.2.1 t.2.2.2.1 t.2.2.2.2.1 t.2.2.2.2.2) (fun _ => by kernel_rfl) (fun t => g.run N t.1 t.2.1 t.2.2.1 t.2.2.2.1 t.2.2.2.2.1 t.2.2.2.2.2)
end zq33
namespace zq157
variable (N : Nat)
abbrev R : Type := Bool
abbrev sig : Sig := ⟨[(true, 4)], [], [.i, .i, .i, .i], [(false, 1)], [], [.bool]⟩
noncomputable def C : Cfg D0 := ⟨Tryz.prog, T0, 7, 0, 30, 0, [], 0, false, []⟩
def E : List (Ent Tryz.prog T0) := [zq149.ent N, zq173.ent N, zq147.ent N]
def O : Orc D0 R := orcOf (E N)
def K0 : Ex → St D0 → Option R := exitK C Tryz.f73.results.toList [(false, [.any])] (decOut sig)
noncomputable def c (p : Nat) : Code := codeAt (Tryz.f73.body.getD .skip) (pathN p)
def o0 (a0_0 a0_1 a0_2 a0_3 : Int) : Option R :=
 (zq149.g N a0_0 a0_1).bind fun r1 =>
 bif r1 then
  bif (decide (a0_1 ≤ 1000)) then
   (zq173.g N a0_2 1 1000).bind fun r2 =>
   bif r2 then
    (zq173.g N a0_3 1 1000).bind fun r3 =>
    bif r3 then
     (zq147.g N a0_2 a0_3).bind fun r4 =>
     some ((r4 == 1))
    else
    some (false)
   else
   some (false)
  else
  some (false)
 else
 some (false)
def g (a0_0 a0_1 a0_2 a0_3 : Int) : Option R := o0 N a0_0 a0_1 a0_2 a0_3
theorem g.run (a0_0 a0_1 a0_2 a0_3 : Int) : runC C (O N) N (c 1) 1 (st0 [.agg [.i a0_0, .i a0_1, .i a0_2, .i a0_3]] [] : St D0) K0 = g N a0_0 a0_1 a0_2 a0_3 := by kernel_rfl
def ent : Ent Tryz.prog T0 := mkEntC C tabOk0 mixed0 73 [(true, [.any, .any, .any, .any])] sig (E N) Tryz.func73 (by kernel_rfl) [(false, [.any])] N (fun t => g N t.1 t.2.1 t.2.2.1 t.2.2.2) (fun _ => by kernel_rfl) (fun t => g.run N t.1 t.2.1 t.2.2.1 t.2.2.2)
end zq157
namespace zq159
variable (N : Nat)
abbrev R : Type := Bool
abbrev sig : Sig := ⟨[(true, 2)], [], [.i, .i], [(false, 1)], [], [.bool]⟩
noncomputable def C : Cfg D0 := ⟨Tryz.prog, T0, 7, 0, 19, 0, [], 0, false, []⟩
def E : List (Ent Tryz.prog T0) := [zq173.ent N, zq147.ent N]
def O : Orc D0 R := orcOf (E N)
def K0 : Ex → St D0 → Option R := exitK C Tryz.f173.results.toList [(false, [.any])] (decOut sig)
noncomputable def c (p : Nat) : Code := codeAt (Tryz.f173.body.getD .skip) (pathN p)
def o0 (a0_0 a0_1 : Int) : Option R :=
 (zq173.g N a0_0 0 1000000).bind fun r1 =>
 bif r1 then
  (zq173.g N a0_1 1 10000).bind fun r2 =>
  bif r2 then
   (zq147.g N a0_0 a0_1).bind fun r3 =>
   some ((r3 == 1))
  else
  some (false)
 else
 some (false)
def g (a0_0 a0_1 : Int) : Option R := o0 N a0_0 a0_1
theorem g.run (a0_0 a0_1 : Int) : runC C (O N) N (c 1) 1 (st0 [.agg [.i a0_0, .i a0_1]] [] : St D0) K0 = g N a0_0 a0_1 := by kernel_rfl
def ent : Ent Tryz.prog T0 := mkEntC C tabOk0 mixed0 173 [(true, [.any, .any])] sig (E N) Tryz.func173 (by kernel_rfl) [(false, [.any])] N (fun t => g N t.1 t.2) (fun _ => by kernel_rfl) (fun t => g.run N t.1 t.2)
end zq159
namespace zq162
variable (N : Nat)
abbrev R : Type := Bool
abbrev sig : Sig := ⟨[(true, 4), (true, 2)], [], [.i, .i, .i, .i, .i, .i], [(false, 1)], [], [.bool]⟩
noncomputable def C : Cfg D0 := ⟨Tryz.prog, T0, 31, 0, 11, 0, [], 0, false, []⟩
def E : List (Ent Tryz.prog T0) := [zq157.ent N, zq159.ent N]
def O : Orc D0 R := orcOf (E N)
def K0 : Ex → St D0 → Option R := exitK C Tryz.f181.results.toList [(false, [.any])] (decOut sig)
noncomputable def c (p : Nat) : Code := codeAt (Tryz.f181.body.getD .skip) (pathN p)
def o0 (a0_0 a0_1 a0_2 a0_3 a1_0 a1_1 : Int) : Option R :=
 (zq157.g N a0_0 a0_1 a0_2 a0_3).bind fun r1 =>
 bif r1 then
  (zq159.g N a1_0 a1_1).bind fun r2 =>
  some (r2)
 else
 some (false)
def g (a0_0 a0_1 a0_2 a0_3 a1_0 a1_1 : Int) : Option R := o0 N a0_0 a0_1 a0_2 a0_3 a1_0 a1_1
theorem g.run (a0_0 a0_1 a0_2 a0_3 a1_0 a1_1 : Int) : runC C (O N) N (c 1) 1 (st0 [.agg [.i a0_0, .i a0_1, .i a0_2, .i a0_3], .agg [.i a1_0, .i a1_1]] [] : St D0) K0 = g N a0_0 a0_1 a0_2 a0_3 a1_0 a1_1 := by kernel_rfl
def ent : Ent Tryz.prog T0 := mkEntC C tabOk0 mixed0 181 [(true, [.any, .any, .any, .any]), (true, [.any, .any])] sig (E N) Tryz.func181 (by kernel_rfl) [(false, [.any])] N (fun t => g N t.1 t.2.1 t.2.2.1 t.2.2.2.1 t.2.2.2.2.1 t.2.2.2.2.2) (fun _ => by kernel_rfl) (fun t => g.run N t.1 t.2.1 t.2.2.1 t.2.2.2.1 t.2.2.2.2.1 t.2.2.2.2.2)
end zq162
namespace zq161
variable (N : Nat)
abbrev R : Type := Int × Int × Bool
abbrev sig : Sig := ⟨[(true, 4), (true, 2), (false, 1)], [], [.i, .i, .i, .i, .i, .i, .i], [(true, 2), (false, 1)], [], [.i, .i, .bool]⟩
noncomputable def C : Cfg D0 := ⟨Tryz.prog, T0, 991, 0, 44, 0, [], 77342982144, false, []⟩
def E : List (Ent Tryz.prog T0) := [zq151.ent N]
def O : Orc D0 R := orcOf (E N)
def K0 : Ex → St D0 → Option R := exitK C Tryz.f182.results.toList [(true, [.any, .any]), (false, [.any])] (decOut sig)
noncomputable def c (p : Nat) : Code := codeAt (Tryz.f182.body.getD .skip) (pathN p)
def o0 (a0_0 a0_1 a0_2 a0_3 a1_0 a1_1 a2 : Int) : Option R :=
 (zq151.g N (w64 ((w64 ((w64 (a1_0 * (w64 (a0_2 - (w64 (a2 * a0_3)))))) * a0_1)) + (w64 (a0_0 * (w64 (a1_1 * a0_3)))))) (w64 ((w64 (a1_1 * a0_3)) * a0_1))).bind fun r1 =>
 some (r1.1, r1.2.1, r1.2.2)
def g (a0_0 a0_1 a0_2 a0_3 a1_0 a1_1 a2 : Int) : Option R := o0 N a0_0 a0_1 a0_2 a0_3 a1_0 a1_1 a2
theorem g.run (a0_0 a0_1 a0_2 a0_3 a1_0 a1_1 a2 : Int) : runC C (O N) N (c 1) 1 (st0 [.agg [.i a0_0, .i a0_1, .i a0_2, .i a0_3], .agg [.i a1_0, .i a1_1], .one (.i a2)] [] : St D0) K0 = g N a0_0 a0_1 a0_2 a0_3 a1_0 a1_1 a2 := by kernel_rfl
def ent : Ent Tryz.prog T0 := mkEntC C tabOk0 mixed0 182 [(true, [.any, .any, .any, .any]), (true, [.any, .any]), (false, [.any])] sig (E N) Tryz.func182 (by kernel_rfl) [(true, [.any, .any]), (false, [.any])] N (fun t => g N t.1 t.2.1 t.2.2.1 t.2.2.2.1 t.2.2.2.2.1 t.2.2.2.2.2.1 t.2.2.2.2.2.2) (fun _ => by kernel_rfl) (fun t => g.run N t.1 t.2.1 t.2.2.1 t.2.2.2.1 t.2.2.2.2.1 t.2.2.2.2.2.1 t.2.2.2.2.2.2)
end zq161
namespace zq123
variable (N : Nat)
abbrev R : Type := Int × Int × Bool
abbrev sig : Sig := ⟨[(true, 4), (true, 2)], [], [.i, .i, .i, .i, .i, .i], [(true, 2), (false, 1)], [], [.i, .i, .bool]⟩
noncomputable def C : Cfg D0 := ⟨Tryz.prog, T0, 575, 0, 16, 0, [], 0, false, []⟩
def E : List (Ent Tryz.prog T0) := [zq162.ent N, zq161.ent N]
def O : Orc D0 R := orcOf (E N)
def K0 : Ex → St D0 → Option R := exitK C Tryz.f134.results.toList [(true, [.any, .any]), (false, [.any])] (decOut sig)
noncomputable def c (p : Nat) : Code := codeAt (Tryz.f134.body.getD .skip) (pathN p)
def o0 (a0_0 a0_1 a0_2 a0_3 a1_0 a1_1 : Int) : Option R :=
 (zq162.g N a0_0 a0_1 a0_2 a0_3 a1_0 a1_1).bind fun r1 =>
 bif (!r1) then
  some (0, 0, false)
 else
 (zq161.g N a0_0 a0_1 a0_2 a0_3 a1_0 a1_1 0).bind fun r2 =>
 some (r2.1, r2.2.1, r2.2.2)
def g (a0_0 a0_1 a0_2 a0_3 a1_0 a1_1 : Int) : Option R := o0 N a0_0 a0_1 a0_2 a0_3 a1_0 a1_1
theorem g.run (a0_0 a0_1 a0_2 a0_3 a1_0 a1_1 : Int) : runC C (O N) N (c 1) 1 (st0 [.agg [.i a0_0, .i a0_1, .i a0_2, .i a0_3], .agg [.i a1_0, .i a1_1]] [] : St D0) K0 = g N a0_0 a0_1 a0_2 a0_3 a1_0 a1_1 := by kernel_rfl
def ent : Ent Tryz.prog T0 := mkEntC C tabOk0 mixed0 134 [(true, [.any, .any, .any, .any]), (true, [.any, .any])] sig (E N) Tryz.func134 (by kernel_rfl) [(true, [.any, .any]), (false, [.any])] N (fun t => g N t.1 t.2.1 t.2.2.1 t.2.2.2.1 t.2.2.2.2.1 t.2.2.2.2.2) (fun _ => by kernel_rfl) (fun t => g.run N t.1 t.2.1 t.2.2.1 t.2.2.2.1 t.2.2.2.2.1 t.2.2.2.2.2)
end zq123
namespace zq3
variable (N : Nat)
abbrev R : Type := Int × Int × Bool
abbrev sig : Sig := ⟨[(true, 4), (true, 2)], [], [.i, .i, .i, .i, .i, .i], [(true, 2), (false, 1)], [], [.i, .i, .bool]⟩
noncomputable def C : Cfg D0 := ⟨Tryz.prog, T0, 8255, 0, 35, 0, [(12, [2, 3, 4, 13], [2, 3, 4])], 25769803776, false, []⟩
def E : List (Ent Tryz.prog T0) := [zq14.ent N, zq19.ent N, zq67.ent N, zq42.ent N, zq56.ent N]
def O : Orc D0 R := orcOf (E N)
def K0 : Ex → St D0 → Option R := exitK C Tryz.f107.results.toList [(true, [.any, .any]), (false, [.any])] (decOut sig)
noncomputable def c (p : Nat) : Code := codeAt (Tryz.f107.body.getD .skip) (pathN p)
abbrev t1 : Type := Bool → Int → Int → Int → Int → Int → Int → Int → Int → Option R
def s1 (v0 : Bool) (v1 v2 v3 v4 v5 v6 v7 v8 : Int) : St D0 := mkSt [(2, .one (.ptr 2 0)), (3, .one (.ptr 3 0)), (4, .one (.ptr 4 0)), (13, .one (.bool v0))] [(2, some (27, [.i v1, .i v2, .i v3, .i v4])), (3, some (95, [.i v5, .i v6])), (4, some (25, [.i v7, .i v8]))]
def K13 : Ex → St D0 → Option R := (onN (tk C (O N) N c 6 7 K0) K0)
def o1 (v0 : Bool) (v1 v2 v3 v4 v5 v6 v7 v8 : Int) : Option R :=
 bif v0 then
  some (0, 0, false)
 else
 (zq67.g N (w64 (v5 * (w64 (v3 - v4)))) (w64 (v6 * v4))).bind fun r1 =>
 (zq42.g N v1 v2 r1.1 r1.2).bind fun r2 =>
 (zq56.g N r2.1 r2.2).bind fun r3 =>
 some (r3.1, r3.2.1, r3.2.2)
def d1 (v0 : Bool) (v1 v2 v3 v4 v5 v6 v7 v8 : Int) : Option R := o1 N v0 v1 v2 v3 v4 v5 v6 v7 v8
theorem d1.run (v0 : Bool) (v1 v2 v3 v4 v5 v6 v7 v8 : Int) : runC C (O N) N (c 13) 13 (s1 v0 v1 v2 v3 v4 v5 v6 v7 v8) (K13 N) = d1 N v0 v1 v2 v3 v4 v5 v6 v7 v8 := by kernel_rfl
def o0 (a0_0 a0_1 a0_2 a0_3 a1_0 a1_1 : Int) (c1 : t1) : Option R :=
 (zq14.g N a0_0 a0_1 a0_2 a0_3).bind fun r1 =>
 bif (!r1) then
  c1 true a0_0 a0_1 a0_2 a0_3 a1_0 a1_1 0 0
 else
 (zq19.g N a1_0 a1_1).bind fun r2 =>
 c1 (!r2) a0_0 a0_1 a0_2 a0_3 a1_0 a1_1 0 0
theorem o0.run (H13 : Code) (a0_0 a0_1 a0_2 a0_3 a1_0 a1_1 : Int) : runC C (O N) N (.seq (c 2) (.seq (.seq (c 12) H13) (c 7))) 1 (st0 [.agg [.i a0_0, .i a0_1, .i a0_2, .i a0_3], .agg [.i a1_0, .i a1_1]] [] : St D0) K0 = o0 N a0_0 a0_1 a0_2 a0_3 a1_0 a1_1 ((fun w0 w1 w2 w3 w4 w5 w6 w7 w8 => runC C (O N) N H13 13 (s1 w0 w1 w2 w3 w4 w5 w6 w7 w8) (onN (tk C (O N) N c 6 7 K0) K0))) := by kernel_rfl
def g (a0_0 a0_1 a0_2 a0_3 a1_0 a1_1 : Int) : Option R := o0 N a0_0 a0_1 a0_2 a0_3 a1_0 a1_1 (d1 N · · · · · · · · ·)
theorem c1_0 : (c 1) = (.seq (c 2) (.seq (.seq (c 12) (c 13)) (c 7))) := by kernel_rfl
theorem g.run (a0_0 a0_1 a0_2 a0_3 a1_0 a1_1 : Int) : runC C (O N) N (c 1) 1 (st0 [.agg [.i a0_0, .i a0_1, .i a0_2, .i a0_3], .agg [.i a1_0, .i a1_1]] [] : St D0) K0 = g N a0_0 a0_1 a0_2 a0_3 a1_0 a1_1 := by
  rw [c1_0]; unfold g; exact (o0.run N (c 13) a0_0 a0_1 a0_2 a0_3 a1_0 a1_1).trans (congr rfl (fx9 (d1.run N)))
def ent : Ent Tryz.prog T0 := mkEntC C tabOk0 mixed0 107 [(true, [.any, .any, .any, .any]), (true, [.any, .any])] sig (E N) Tryz.func107 (by kernel_rfl) [(true, [.any, .any]), (false, [.any])] N (fun t => g N t.1 t.2.1 t.2.2.1 t.2.2.2.1 t.2.2.2.2.1 t.2.2.2.2.2) (fun _ => by kernel_rfl) (fun t => g.run N t.1 t.2.1 t.2.2.1 t.2.2.2.1 t.2.2.2.2.1 t.2.2.2.2.2)
end zq3
namespace zq105
variable (N : Nat)
abbrev R : Type := Int × Int × Bool
abbrev sig : Sig := ⟨[(true, 4), (true, 2)], [], [.i, .i, .i, .i, .i, .i], [(true, 2), (false, 1)], [], [.i, .i, .bool]⟩
noncomputable def C : Cfg D0 := ⟨Tryz.prog, T0, 575, 0, 16, 0, [], 0, false, []⟩
def E : List (Ent Tryz.prog T0) := [zq162.ent N, zq161.ent N]
def O : Orc D0 R := orcOf (E N)
def K0 : Ex → St D0 → Option R := exitK C Tryz.f135.results.toList [(true, [.any, .any]), (false, [.any])] (decOut sig)
noncomputable def c (p : Nat) : Code := codeAt (Tryz.f135.body.getD .skip) (pathN p)
def o0 (a0_0 a0_1 a0_2 a0_3 a1_0 a1_1 : Int) : Option R :=
 (zq162.g N a0_0 a0_1 a0_2 a0_3 a1_0 a1_1).bind fun r1 =>
 bif (!r1) then
  some (0, 0, false)
 else
 (zq161.g N a0_0 a0_1 a0_2 a0_3 a1_0 a1_1 1).bind fun r2 =>
 some (r2.1, r2.2.1, r2.2.2)
def g (a0_0 a0_1 a0_2 a0_3 a1_0 a1_1 : Int) : Option R := o0 N a0_0 a0_1 a0_2 a0_3 a1_0 a1_1
theorem g.run (a0_0 a0_1 a0_2 a0_3 a1_0 a1_1 : Int) : runC C (O N) N (c 1) 1 (st0 [.agg [.i a0_0, .i a0_1, .i a0_2, .i a0_3], .agg [.i a1_0, .i a1_1]] [] : St D0) K0 = g N a0_0 a0_1 a0_2 a0_3 a1_0 a1_1 := by kernel_rfl
def ent : Ent Tryz.prog T0 := mkEntC C tabOk0 mixed0 135 [(true, [.any, .any, .any, .any]), (true, [.any, .any])] sig (E N) Tryz.func135 (by kernel_rfl) [(true, [.any, .any]), (false, [.any])] N (fun t => g N t.1 t.2.1 t.2.2.1 t.2.2.2.1 t.2.2.2.2.1 t.2.2.2.2.2) (fun _ => by kernel_rfl) (fun t => g.run N t.1 t.2.1 t.2.2.1 t.2.2.2.1 t.2.2.2.2.1 t.2.2.2.2.2)
end zq105
namespace zq70
variable (N : Nat)
abbrev R : Type := Int × Int × Int × Int
abbrev sig : Sig := ⟨[], [], [], [(true, 4)], [], [.i, .i, .i, .i]⟩
noncomputable def C : Cfg D0 := ⟨Tryz.prog, T0, 1, 0, 3, 0, [], 0, false, []⟩
def E (N : Nat) : List (Ent Tryz.prog T0) := []
def O : Orc D0 R := orcOf (E N)
def K0 : Ex → St D0 → Option R := exitK C Tryz.f169.results.toList [(true, [.any, .any, .any, .any])] (decOut sig)
noncomputable def c (p : Nat) : Code := codeAt (Tryz.f169.body.getD .skip) (pathN p)
def o0 (N : Nat) : Option R :=
 some (0, 1, 1, 1)
def g : Option R := o0 N
theorem g.run : runC C (O N) N (c 1) 1 (st0 [] [] : St D0) K0 = g N := by kernel_rfl
def ent : Ent Tryz.prog T0 := mkEntC C tabOk0 mixed0 169 [] sig (E N) Tryz.func169 (by kernel_rfl) [(true, [.any, .any, .any, .any])] N (fun t => g N) (fun _ => by kernel_rfl) (fun t => g.run N)
end zq70
namespace zq54
variable (N : Nat)
abbrev R : Type := Int × Int
abbrev sig : Sig := ⟨[(true, 4), (true, 4)], [], [.i, .i, .i, .i, .i, .i, .i, .i], [(false, 1), (false, 1)], [], [.i, .i]⟩
noncomputable def C : Cfg D0 := ⟨Tryz.prog, T0, 63, 0, 22, 0, [], 0, false, []⟩
def E (N : Nat) : List (Ent Tryz.prog T0) := []
def O : Orc D0 R := orcOf (E N)
def K0 : Ex → St D0 → Option R := exitK C Tryz.f210.results.toList [(false, [.any]), (false, [.any])] (decOut sig)
noncomputable def c (p : Nat) : Code := codeAt (Tryz.f210.body.getD .skip) (pathN p)
def o0 (N : Nat) (a0_0 a0_1 a0_2 a0_3 a1_0 a1_1 a1_2 a1_3 : Int) : Option R :=
 some ((w64 ((w64 (a0_2 * a1_3)) - (w64 (a1_2 * a0_3)))), (w64 (a0_3 * a1_3)))
def g (a0_0 a0_1 a0_2 a0_3 a1_0 a1_1 a1_2 a1_3 : Int) : Option R := o0 N a0_0 a0_1 a0_2 a0_3 a1_0 a1_1 a1_2 a1_3
theorem g.run (a0_0 a0_1 a0_2 a0_3 a1_0 a1_1 a1_2 a1_3 : Int) : runC C (O N) N (c 1) 1 (st0 [.agg [.i a0_0, .i a0_1, .i a0_2, .i a0_3], .agg [.i a1_0, .i a1_1, .i a1_2, .i a1_3]] [] : St D0) K0 = g N a0_0 a0_1 a0_2 a0_3 a1_0 a1_1 a1_2 a1_3 := by kernel_rfl
def ent : Ent Tryz.prog T0 := mkEntC C tabOk0 mixed0 210 [(true, [.any, .any, .any, .any]), (true, [.any, .any, .any, .any])] sig (E N) Tryz.func210 (by kernel_rfl) [(false, [.any]), (false, [.any])] N (fun t => g N t.1 t.2.1 t.2.2.1 t.2.2.2.1 t.2.2.2.2.1 t.2.2.2.2.2.1 t.2.2.2.2.2.2.1 t.2.2.2.2.2.2.2) (fun _ => by kernel_rfl) (fun t => g.run N t.1 t.2.1 t.2.2.1 t.2.2.2.1 t.2.2.2.2.1 t.2.2.2.2.2.1 t.2.2.2.2.2.2.1 t.2.2.2.2.2.2.2)
end zq54
namespace zq73
variable (N : Nat)
abbrev R : Type := Int × Int × Bool
abbrev sig : Sig := ⟨[(false, 1), (false, 1)], [], [.i, .i], [(true, 2), (false, 1)], [], [.i, .i, .bool]⟩
noncomputable def C : Cfg D0 := ⟨Tryz.prog, T0, 1048819, 0, 23, 0, [], 56064, false, []⟩
def E : List (Ent Tryz.prog T0) := [zq55.ent N, zq19.ent N]
def O : Orc D0 R := orcOf (E N)
def K0 : Ex → St D0 → Option R := exitK C Tryz.f211.results.toList [(true, [.any, .any]), (false, [.any])] (decOut sig)
noncomputable def c (p : Nat) : Code := codeAt (Tryz.f211.body.getD .skip) (pathN p)
def o0 (a0 a1 : Int) : Option R :=
 (zq55.g N a0 a1).bind fun r1 =>
 bif (r1 == 0) then
  none
 else
 bif (r1 == 0) then
  none
 else
 (zq19.g N (w64 (Int.tdiv a0 r1)) (w64 (Int.tdiv a1 r1))).bind fun r2 =>
 bif (!r2) then
  some (0, 0, false)
 else
 some ((w64 (Int.tdiv a0 r1)), (w64 (Int.tdiv a1 r1)), true)
def g (a0 a1 : Int) : Option R := o0 N a0 a1
theorem g.run (a0 a1 : Int) : runC C (O N) N (c 1) 1 (st0 [.one (.i a0), .one (.i a1)] [] : St D0) K0 = g N a0 a1 := by kernel_rfl
def ent : Ent Tryz.prog T0 := mkEntC C tabOk0 mixed0 211 [(false, [.any]), (false, [.any])] sig (E N) Tryz.func211 (by kernel_rfl) [(true, [.any, .any]), (false, [.any])] N (fun t => g N t.1 t.2) (fun _ => by kernel_rfl) (fun t => g.run N t.1 t.2)
end zq73
namespace zq51
variable (N : Nat)
abbrev R : Type := Int × Int × Bool
abbrev QQ : Type := St D0 → Option R
abbrev sig : Sig := ⟨[(true, 4), (true, 4)], [], [.i, .i, .i, .i, .i, .i, .i, .i], [(true, 2), (false, 1)], [], [.i, .i, .bool]⟩
noncomputable def C : Cfg D0 := ⟨Tryz.prog, T0, 567002792447, 0, 55, 0, [(28, [2, 3, 4, 6, 7, 26], [2, 3, 4]), (62, [4, 6, 7, 8], [4, 8]), (126, [4, 6, 7, 8], [4, 8])], 431017164800000, false, []⟩
def E : List (Ent Tryz.prog T0) := [zq54.ent N, zq14.ent N, zq40.ent N, zq41.ent N, zq73.ent N]
def O : Orc D0 R := orcOf (E N)
def K0 : Ex → QQ := exitK C Tryz.f168.results.toList [(true, [.any, .any]), (false, [.any])] (decOut sig)
noncomputable def c (p : Nat) : Code := codeAt (Tryz.f168.body.getD .skip) (pathN p)
abbrev t1 : Type := Int → Int → Bool → Int → Int → Int → Int → Int → Int → Int → Int → Int → Int → Option R
abbrev t2 : Type := Int → Int → Int → Int → Int → Int → Option R
abbrev t3 : Type := Int → Int → Int → Int → Int → Int → Option R
def s1 (v0 v1 : Int) (v2 : Bool) (v3 v4 v5 v6 v7 v8 v9 v10 v11 v12 : Int) : St D0 := mkSt [(2, .one (.ptr 2 0)), (3, .one (.ptr 3 0)), (4, .one (.ptr 4 0)), (6, .one (.i v0)), (7, .one (.i v1)), (26, .one (.bool v2))] [(2, some (27, [.i v3, .i v4, .i v5, .i v6])), (3, some (27, [.i v7, .i v8, .i v9, .i v10])), (4, some (95, [.i v11, .i v12]))]
def s2 (v0 v1 v2 v3 v4 v5 : Int) : St D0 := mkSt [(4, .one (.ptr 4 0)), (6, .one (.i v0)), (7, .one (.i v1)), (8, .one (.ptr 8 0))] [(4, some (95, [.i v2, .i v3])), (8, some (25, [.i v4, .i v5]))]
def s3 (v0 v1 v2 v3 v4 v5 : Int) : St D0 := mkSt [(4, .one (.ptr 4 0)), (6, .one (.i v0)), (7, .one (.i v1)), (8, .one (.ptr 8 0))] [(4, some (95, [.i v2, .i v3])), (8, some (25, [.i v4, .i v5]))]
def K127 (N : Nat) : Ex → QQ := K0
def o3 (v0 v1 v2 v3 v4 v5 : Int) : Option R :=
 (zq73.g N (w64 (v4 * v1)) (w64 (v5 * (if (w64 (0 - v0)) > v0 then (w64 (0 - v0)) else v0)))).bind fun r1 =>
 some (r1.1, r1.2.1, r1.2.2)
def d3 (v0 v1 v2 v3 v4 v5 : Int) : Option R := o3 N v0 v1 v2 v3 v4 v5
theorem d3.run (v0 v1 v2 v3 v4 v5 : Int) : runC C (O N) N (c 127) 127 (s3 v0 v1 v2 v3 v4 v5) (K127 N) = d3 N v0 v1 v2 v3 v4 v5 := by kernel_rfl
def K63 (N : Nat) : Ex → QQ := K0
def o2 (N : Nat) (v0 v1 v2 v3 v4 v5 : Int) (c3 : t3) : Option R :=
 bif (v4 == 0) then
  c3 v0 v1 v2 v3 1 1
 else
 c3 v0 v1 v2 v3 v4 v5
theorem o2.run (H127 : Code) (v0 v1 v2 v3 v4 v5 : Int) : runC C (O N) N (.seq (c 126) H127) 63 (s2 v0 v1 v2 v3 v4 v5) K0 = o2 N v0 v1 v2 v3 v4 v5 ((fun w0 w1 w2 w3 w4 w5 => runC C (O N) N H127 127 (s3 w0 w1 w2 w3 w4 w5) K0)) := by kernel_rfl
def B63 : QQ := fun s' => runC C (O N) N (c 127) 127 s' (K127 N)
def d2 (v0 v1 v2 v3 v4 v5 : Int) : Option R := o2 N v0 v1 v2 v3 v4 v5 (d3 N · · · · · ·)
theorem c63_2 : (c 63) = (.seq (c 126) (c 127)) := by kernel_rfl
theorem d2.run (v0 v1 v2 v3 v4 v5 : Int) : runC C (O N) N (c 63) 63 (s2 v0 v1 v2 v3 v4 v5) (K63 N) = d2 N v0 v1 v2 v3 v4 v5 := by
  rw [c63_2]; unfold d2; exact (o2.run N (c 127) v0 v1 v2 v3 v4 v5).trans (congr rfl (fx6 (d3.run N)))
def K29 : Ex → QQ := (onN (tk C (O N) N c 14 15 K0) K0)
def o1 (v0 v1 : Int) (v2 : Bool) (v3 v4 v5 v6 v7 v8 v9 v10 v11 v12 : Int) (c2 : t2) : Option R :=
 bif v2 then
  some (0, 0, false)
 else
 (zq40.g N v3 v4 v7 v8).bind fun r1 =>
 bif (decide (v0 > 0)) then
  (zq41.g N r1.1 r1.2).bind fun r2 =>
  c2 v0 v1 v11 v12 r2.1 r2.2
 else
 c2 v0 v1 v11 v12 r1.1 r1.2
theorem o1.run (H63 : Code) (v0 v1 : Int) (v2 : Bool) (v3 v4 v5 v6 v7 v8 v9 v10 v11 v12 : Int) : runC C (O N) N (c 29) 29 (s1 v0 v1 v2 v3 v4 v5 v6 v7 v8 v9 v10 v11 v12) (onN (fun s => C.tidy 14 s (fun s' => runC C (O N) N (.seq (c 30) (.seq (c 62) H63)) 15 s' K0)) K0) = o1 N v0 v1 v2 v3 v4 v5 v6 v7 v8 v9 v10 v11 v12 ((fun w0 w1 w2 w3 w4 w5 => runC C (O N) N H63 63 (s2 w0 w1 w2 w3 w4 w5) K0)) := by kernel_rfl
def B31 : QQ := fun s' => runC C (O N) N (c 63) 63 s' (K63 N)
def d1 (v0 v1 : Int) (v2 : Bool) (v3 v4 v5 v6 v7 v8 v9 v10 v11 v12 : Int) : Option R := o1 N v0 v1 v2 v3 v4 v5 v6 v7 v8 v9 v10 v11 v12 (d2 N · · · · · ·)
theorem d1.run (v0 v1 : Int) (v2 : Bool) (v3 v4 v5 v6 v7 v8 v9 v10 v11 v12 : Int) : runC C (O N) N (c 29) 29 (s1 v0 v1 v2 v3 v4 v5 v6 v7 v8 v9 v10 v11 v12) (K29 N) = d1 N v0 v1 v2 v3 v4 v5 v6 v7 v8 v9 v10 v11 v12 := by
  unfold d1; exact (o1.run N (c 63) v0 v1 v2 v3 v4 v5 v6 v7 v8 v9 v10 v11 v12).trans (congr rfl (fx6 (d2.run N)))
def o0 (a0_0 a0_1 a0_2 a0_3 a1_0 a1_1 a1_2 a1_3 : Int) (c1 : t1) : Option R :=
 (zq54.g N a0_0 a0_1 a0_2 a0_3 a1_0 a1_1 a1_2 a1_3).bind fun r1 =>
 (zq14.g N a0_0 a0_1 a0_2 a0_3).bind fun r2 =>
 bif (!r2) then
  c1 r1.1 r1.2 true a0_0 a0_1 a0_2 a0_3 a1_0 a1_1 a1_2 a1_3 0 0
 else
 (zq14.g N a1_0 a1_1 a1_2 a1_3).bind fun r3 =>
 bif (!r3) then
  c1 r1.1 r1.2 true a0_0 a0_1 a0_2 a0_3 a1_0 a1_1 a1_2 a1_3 0 0
 else
 c1 r1.1 r1.2 (r1.1 == 0) a0_0 a0_1 a0_2 a0_3 a1_0 a1_1 a1_2 a1_3 0 0
theorem o0.run (H29 : Code) (a0_0 a0_1 a0_2 a0_3 a1_0 a1_1 a1_2 a1_3 : Int) : runC C (O N) N (.seq (c 2) (.seq (c 6) (.seq (.seq (c 28) H29) (c 15)))) 1 (st0 [.agg [.i a0_0, .i a0_1, .i a0_2, .i a0_3], .agg [.i a1_0, .i a1_1, .i a1_2, .i a1_3]] [] : St D0) K0 = o0 N a0_0 a0_1 a0_2 a0_3 a1_0 a1_1 a1_2 a1_3 ((fun w0 w1 w2 w3 w4 w5 w6 w7 w8 w9 w10 w11 w12 => runC C (O N) N H29 29 (s1 w0 w1 w2 w3 w4 w5 w6 w7 w8 w9 w10 w11 w12) (onN (tk C (O N) N c 14 15 K0) K0))) := by kernel_rfl
def g (a0_0 a0_1 a0_2 a0_3 a1_0 a1_1 a1_2 a1_3 : Int) : Option R := o0 N a0_0 a0_1 a0_2 a0_3 a1_0 a1_1 a1_2 a1_3 (d1 N · · · · · · · · · · · · ·)
theorem c1_0 : (c 1) = (.seq (c 2) (.seq (c 6) (.seq (.seq (c 28) (c 29)) (c 15)))) := by kernel_rfl
theorem g.run (a0_0 a0_1 a0_2 a0_3 a1_0 a1_1 a1_2 a1_3 : Int) : runC C (O N) N (c 1) 1 (st0 [.agg [.i a0_0, .i a0_1, .i a0_2, .i a0_3], .agg [.i a1_0, .i a1_1, .i a1_2, .i a1_3]] [] : St D0) K0 = g N a0_0 a0_1 a0_2 a0_3 a1_0 a1_1 a1_2 a1_3 := by
  rw [c1_0]; unfold g; exact (o0.run N (c 29) a0_0 a0_1 a0_2 a0_3 a1_0 a1_1 a1_2 a1_3).trans (congr rfl (fx13 (d1.run N)))
def ent : Ent Tryz.prog T0 := mkEntC C tabOk0 mixed0 168 [(true, [.any, .any, .any, .any]), (true, [.any, .any, .any, .any])] sig (E N) Tryz.func168 (by kernel_rfl) [(true, [.any, .any]), (false, [.any])] N (fun t => g N t.1 t.2.1 t.2.2.1 t.2.2.2.1 t.2.2.2.2.1 t.2.2.2.2.2.1 t.2.2.2.2.2.2.1 t.2.2.2.2.2.2.2) (fun _ => by kernel_rfl) (fun t => g.run N t.1 t.2.1 t.2.2.1 t.2.2.2.1 t.2.2.2.2.1 t.2.2.2.2.2.1 t.2.2.2.2.2.2.1 t.2.2.2.2.2.2.2)
end zq51
namespace zq13
variable (N : Nat)
abbrev R : Type := Int × Int × Bool
abbrev sig : Sig := ⟨[(true, 4)], [], [.i, .i, .i, .i], [(true, 2), (false, 1)], [], [.i, .i, .bool]⟩
noncomputable def C : Cfg D0 := ⟨Tryz.prog, T0, 15, 0, 9, 0, [], 384, false, []⟩
def E : List (Ent Tryz.prog T0) := [zq70.ent N, zq51.ent N]
def O : Orc D0 R := orcOf (E N)
def K0 : Ex → St D0 → Option R := exitK C Tryz.f109.results.toList [(true, [.any, .any]), (false, [.any])] (decOut sig)
noncomputable def c (p : Nat) : Code := codeAt (Tryz.f109.body.getD .skip) (pathN p)
def o0 (a0_0 a0_1 a0_2 a0_3 : Int) : Option R :=
 (zq70.g N).bind fun r1 =>
 (zq51.g N a0_0 a0_1 a0_2 a0_3 r1.1 r1.2.1 r1.2.2.1 r1.2.2.2).bind fun r2 =>
 some (r2.1, r2.2.1, r2.2.2)
def g (a0_0 a0_1 a0_2 a0_3 : Int) : Option R := o0 N a0_0 a0_1 a0_2 a0_3
theorem g.run (a0_0 a0_1 a0_2 a0_3 : Int) : runC C (O N) N (c 1) 1 (st0 [.agg [.i a0_0, .i a0_1, .i a0_2, .i a0_3]] [] : St D0) K0 = g N a0_0 a0_1 a0_2 a0_3 := by kernel_rfl
def ent : Ent Tryz.prog T0 := mkEntC C tabOk0 mixed0 109 [(true, [.any, .any, .any, .any])] sig (E N) Tryz.func109 (by kernel_rfl) [(true, [.any, .any]), (false, [.any])] N (fun t => g N t.1 t.2.1 t.2.2.1 t.2.2.2) (fun _ => by kernel_rfl) (fun t => g.run N t.1 t.2.1 t.2.2.1 t.2.2.2)
end zq13
namespace zq160
variable (N : Nat)
abbrev R : Type := Int × Int × Bool
abbrev sig : Sig := ⟨[(false, 1), (false, 1)], [], [.i, .i], [(true, 2), (false, 1)], [], [.i, .i, .bool]⟩
noncomputable def C : Cfg D0 := ⟨Tryz.prog, T0, 1048819, 0, 23, 0, [], 56064, false, []⟩
def E : List (Ent Tryz.prog T0) := [zq147.ent N, zq159.ent N]
def O : Orc D0 R := orcOf (E N)
def K0 : Ex → St D0 → Option R := exitK C Tryz.f184.results.toList [(true, [.any, .any]), (false, [.any])] (decOut sig)
noncomputable def c (p : Nat) : Code := codeAt (Tryz.f184.body.getD .skip) (pathN p)
def o0 (a0 a1 : Int) : Option R :=
 (zq147.g N a0 a1).bind fun r1 =>
 bif (r1 == 0) then
  none
 else
 bif (r1 == 0) then
  none
 else
 (zq159.g N (w64 (Int.tdiv a0 r1)) (w64 (Int.tdiv a1 r1))).bind fun r2 =>
 bif (!r2) then
  some (0, 0, false)
 else
 some ((w64 (Int.tdiv a0 r1)), (w64 (Int.tdiv a1 r1)), true)
def g (a0 a1 : Int) : Option R := o0 N a0 a1
theorem g.run (a0 a1 : Int) : runC C (O N) N (c 1) 1 (st0 [.one (.i a0), .one (.i a1)] [] : St D0) K0 = g N a0 a1 := by kernel_rfl
def ent : Ent Tryz.prog T0 := mkEntC C tabOk0 mixed0 184 [(false, [.any]), (false, [.any])] sig (E N) Tryz.func184 (by kernel_rfl) [(true, [.any, .any]), (false, [.any])] N (fun t => g N t.1 t.2) (fun _ => by kernel_rfl) (fun t => g.run N t.1 t.2)
end zq160
namespace zq158
variable (N : Nat)
abbrev R : Type := Int × Int × Bool
abbrev QQ : Type := St D0 → Option R
abbrev sig : Sig := ⟨[(true, 2), (false, 1), (false, 1), (false, 1)], [], [.i, .i, .i, .i, .bool], [(true, 2), (false, 1)], [], [.i, .i, .bool]⟩
noncomputable def C : Cfg D0 := ⟨Tryz.prog, T0, 269027103, 0, 45, 0, [(12, [1, 2, 4, 8, 16], [4, 8]), (62, [1, 2, 4, 8, 10], [4, 8]), (124, [1, 2, 4, 8, 10, 28], [4, 8])], 26989650247680, false, []⟩
def E : List (Ent Tryz.prog T0) := [zq163.ent N, zq160.ent N]
def O : Orc D0 R := orcOf (E N)
def K0 : Ex → QQ := exitK C Tryz.f183.results.toList [(true, [.any, .any]), (false, [.any])] (decOut sig)
noncomputable def c (p : Nat) : Code := codeAt (Tryz.f183.body.getD .skip) (pathN p)
abbrev t1 : Type := Int → Int → Bool → Int → Int → Int → Int → Option R
abbrev t2 : Type := Int → Int → Int → Bool → Int → Int → Int → Int → Option R
abbrev t3 : Type := Int → Int → Int → Int → Int → Int → Int → Option R
def s1 (v0 v1 : Int) (v2 : Bool) (v3 v4 v5 v6 : Int) : St D0 := mkSt [(1, .one (.i v0)), (2, .one (.i v1)), (4, .one (.ptr 4 0)), (8, .one (.ptr 8 0)), (16, .one (.bool v2))] [(4, some (25, [.i v3, .i v4])), (8, some (95, [.i v5, .i v6]))]
def s2 (v0 v1 v2 : Int) (v3 : Bool) (v4 v5 v6 v7 : Int) : St D0 := mkSt [(1, .one (.i v0)), (2, .one (.i v1)), (4, .one (.ptr 4 0)), (8, .one (.ptr 8 0)), (10, .one (.i v2)), (28, .one (.bool v3))] [(4, some (25, [.i v4, .i v5])), (8, some (95, [.i v6, .i v7]))]
def s3 (v0 v1 v2 v3 v4 v5 v6 : Int) : St D0 := mkSt [(1, .one (.i v0)), (2, .one (.i v1)), (4, .one (.ptr 4 0)), (8, .one (.ptr 8 0)), (10, .one (.i v2))] [(4, some (25, [.i v3, .i v4])), (8, some (95, [.i v5, .i v6]))]
def K63 (N : Nat) : Ex → QQ := K0
def o3 (v0 v1 v2 v3 v4 v5 v6 : Int) : Option R :=
 (zq163.g N v0).bind fun r1 =>
 (zq160.g N (w64 (v2 * v1)) (w64 (v4 * r1))).bind fun r2 =>
 some (r2.1, r2.2.1, r2.2.2)
def d3 (v0 v1 v2 v3 v4 v5 v6 : Int) : Option R := o3 N v0 v1 v2 v3 v4 v5 v6
theorem d3.run (v0 v1 v2 v3 v4 v5 v6 : Int) : runC C (O N) N (c 63) 63 (s3 v0 v1 v2 v3 v4 v5 v6) (K63 N) = d3 N v0 v1 v2 v3 v4 v5 v6 := by kernel_rfl
def B31 : QQ := fun s' => runC C (O N) N (c 63) 63 s' (K63 N)
def K125 : Ex → QQ := (onN (fun s => C.tidy 62 s (B31 N)) K0)
def o2 (N : Nat) (v0 v1 v2 : Int) (v3 : Bool) (v4 v5 v6 v7 : Int) (c3 : t3) : Option R :=
 bif v3 then
  c3 v0 v1 (w64 (v5 - v4)) v4 v5 v6 v7
 else
 c3 v0 v1 v2 v4 v5 v6 v7
theorem o2.run (Kb31 : QQ) (v0 v1 v2 : Int) (v3 : Bool) (v4 v5 v6 v7 : Int) : runC C (O N) N (c 125) 125 (s2 v0 v1 v2 v3 v4 v5 v6 v7) (onN (fun s => C.tidy 62 s Kb31) K0) = o2 N v0 v1 v2 v3 v4 v5 v6 v7 (Kb31 <| s3 · · · · · · ·) := by kernel_rfl
def d2 (v0 v1 v2 : Int) (v3 : Bool) (v4 v5 v6 v7 : Int) : Option R := o2 N v0 v1 v2 v3 v4 v5 v6 v7 (d3 N · · · · · · ·)
theorem d2.run (v0 v1 v2 : Int) (v3 : Bool) (v4 v5 v6 v7 : Int) : runC C (O N) N (c 125) 125 (s2 v0 v1 v2 v3 v4 v5 v6 v7) (K125 N) = d2 N v0 v1 v2 v3 v4 v5 v6 v7 := by
  unfold d2; exact (o2.run N (B31 N) v0 v1 v2 v3 v4 v5 v6 v7).trans (congr rfl (fx7 (d3.run N)))
def K13 : Ex → QQ := (onN (tk C (O N) N c 6 7 K0) K0)
def o1 (N : Nat) (v0 v1 : Int) (v2 : Bool) (v3 v4 v5 v6 : Int) (c2 : t2) : Option R :=
 bif v2 then
  some (0, 1, true)
 else
 bif (v0 == 0) then
  some (0, 0, false)
 else
 bif (decide (v0 > 0)) then
  c2 v0 v1 v3 true v3 v4 v5 v6
 else
 c2 v0 v1 v3 (v3 == 0) v3 v4 v5 v6
theorem o1.run (H125 : Code) (v0 v1 : Int) (v2 : Bool) (v3 v4 v5 v6 : Int) : runC C (O N) N (c 13) 13 (s1 v0 v1 v2 v3 v4 v5 v6) (onN (fun s => C.tidy 6 s (fun s' => runC C (O N) N (.seq (c 14) (.seq (c 30) (.seq (.seq (c 124) H125) (c 63)))) 7 s' K0)) K0) = o1 N v0 v1 v2 v3 v4 v5 v6 ((fun w0 w1 w2 w3 w4 w5 w6 w7 => runC C (O N) N H125 125 (s2 w0 w1 w2 w3 w4 w5 w6 w7) (onN (tk C (O N) N c 62 63 K0) K0))) := by kernel_rfl
def d1 (v0 v1 : Int) (v2 : Bool) (v3 v4 v5 v6 : Int) : Option R := o1 N v0 v1 v2 v3 v4 v5 v6 (d2 N · · · · · · · ·)
theorem d1.run (v0 v1 : Int) (v2 : Bool) (v3 v4 v5 v6 : Int) : runC C (O N) N (c 13) 13 (s1 v0 v1 v2 v3 v4 v5 v6) (K13 N) = d1 N v0 v1 v2 v3 v4 v5 v6 := by
  unfold d1; exact (o1.run N (c 125) v0 v1 v2 v3 v4 v5 v6).trans (congr rfl (fx8 (d2.run N)))
def o0 (N : Nat) (a0_0 a0_1 a1 a2 : Int) (a3 : Bool) (c1 : t1) : Option R :=
 bif (a0_0 == 0) then
  c1 a1 a2 a3 a0_0 a0_1 0 0
 else
 c1 a1 a2 false a0_0 a0_1 0 0
theorem o0.run (H13 : Code) (a0_0 a0_1 a1 a2 : Int) (a3 : Bool) : runC C (O N) N (.seq (c 2) (.seq (.seq (c 12) H13) (c 7))) 1 (st0 [.agg [.i a0_0, .i a0_1], .one (.i a1), .one (.i a2), .one (.bool a3)] [] : St D0) K0 = o0 N a0_0 a0_1 a1 a2 a3 ((fun w0 w1 w2 w3 w4 w5 w6 => runC C (O N) N H13 13 (s1 w0 w1 w2 w3 w4 w5 w6) (onN (tk C (O N) N c 6 7 K0) K0))) := by kernel_rfl
def g (a0_0 a0_1 a1 a2 : Int) (a3 : Bool) : Option R := o0 N a0_0 a0_1 a1 a2 a3 (d1 N · · · · · · ·)
theorem c1_0 : (c 1) = (.seq (c 2) (.seq (.seq (c 12) (c 13)) (c 7))) := by kernel_rfl
theorem g.run (a0_0 a0_1 a1 a2 : Int) (a3 : Bool) : runC C (O N) N (c 1) 1 (st0 [.agg [.i a0_0, .i a0_1], .one (.i a1), .one (.i a2), .one (.bool a3)] [] : St D0) K0 = g N a0_0 a0_1 a1 a2 a3 := by
  rw [c1_0]; unfold g; exact (o0.run N (c 13) a0_0 a0_1 a1 a2 a3).trans (congr rfl (fx7 (d1.run N)))
def ent : Ent Tryz.prog T0 := mkEntC C tabOk0 mixed0 183 [(true, [.any, .any]), (false, [.any]), (false, [.any]), (false, [.any])] sig (E N) Tryz.func183 (by kernel_rfl) [(true, [.any, .any]), (false, [.any])] N (fun t => g N t.1 t.2.1 t.2.2.1 t.2.2.2.1 t.2.2.2.2) (fun _ => by kernel_rfl) (fun t => g.run N t.1 t.2.1 t.2.2.1 t.2.2.2.1 t.2.2.2.2)
end zq158
namespace zq115
variable (N : Nat)
abbrev R : Type := Int × Int × Bool
abbrev sig : Sig := ⟨[(true, 4)], [], [.i, .i, .i, .i], [(true, 2), (false, 1)], [], [.i, .i, .bool]⟩
noncomputable def C : Cfg D0 := ⟨Tryz.prog, T0, 79, 0, 20, 0, [], 0, false, []⟩
def E : List (Ent Tryz.prog T0) := [zq157.ent N, zq158.ent N]
def O : Orc D0 R := orcOf (E N)
def K0 : Ex → St D0 → Option R := exitK C Tryz.f137.results.toList [(true, [.any, .any]), (false, [.any])] (decOut sig)
noncomputable def c (p : Nat) : Code := codeAt (Tryz.f137.body.getD .skip) (pathN p)
def o0 (a0_0 a0_1 a0_2 a0_3 : Int) : Option R :=
 (zq157.g N a0_0 a0_1 a0_2 a0_3).bind fun r1 =>
 bif (!r1) then
  some (0, 0, false)
 else
 (zq158.g N a0_0 a0_1 (w64 (a0_2 - a0_3)) a0_3 false).bind fun r2 =>
 some (r2.1, r2.2.1, r2.2.2)
def g (a0_0 a0_1 a0_2 a0_3 : Int) : Option R := o0 N a0_0 a0_1 a0_2 a0_3
theorem g.run (a0_0 a0_1 a0_2 a0_3 : Int) : runC C (O N) N (c 1) 1 (st0 [.agg [.i a0_0, .i a0_1, .i a0_2, .i a0_3]] [] : St D0) K0 = g N a0_0 a0_1 a0_2 a0_3 := by kernel_rfl
def ent : Ent Tryz.prog T0 := mkEntC C tabOk0 mixed0 137 [(true, [.any, .any, .any, .any])] sig (E N) Tryz.func137 (by kernel_rfl) [(true, [.any, .any]), (false, [.any])] N (fun t => g N t.1 t.2.1 t.2.2.1 t.2.2.2) (fun _ => by kernel_rfl) (fun t => g.run N t.1 t.2.1 t.2.2.1 t.2.2.2)
end zq115
namespace zq50
variable (N : Nat)
abbrev R : Type := Int × Int × Bool
abbrev sig : Sig := ⟨[(true, 4), (true, 4)], [], [.i, .i, .i, .i, .i, .i, .i, .i], [(true, 2), (false, 1)], [], [.i, .i, .bool]⟩
noncomputable def C : Cfg D0 := ⟨Tryz.prog, T0, 33554687, 0, 35, 0, [(28, [4, 6, 7, 25], [4])], 947912704, false, []⟩
def E : List (Ent Tryz.prog T0) := [zq54.ent N, zq14.ent N, zq73.ent N]
def O : Orc D0 R := orcOf (E N)
def K0 : Ex → St D0 → Option R := exitK C Tryz.f170.results.toList [(true, [.any, .any]), (false, [.any])] (decOut sig)
noncomputable def c (p : Nat) : Code := codeAt (Tryz.f170.body.getD .skip) (pathN p)
abbrev t1 : Type := Int → Int → Bool → Int → Int → Option R
def s1 (v0 v1 : Int) (v2 : Bool) (v3 v4 : Int) : St D0 := mkSt [(4, .one (.ptr 4 0)), (6, .one (.i v0)), (7, .one (.i v1)), (25, .one (.bool v2))] [(4, some (95, [.i v3, .i v4]))]
def K29 : Ex → St D0 → Option R := (onN (tk C (O N) N c 14 15 K0) K0)
def o1 (v0 v1 : Int) (v2 : Bool) (v3 v4 : Int) : Option R :=
 bif v2 then
  some (0, 0, false)
 else
 (zq73.g N v1 (if (w64 (0 - v0)) > v0 then (w64 (0 - v0)) else v0)).bind fun r1 =>
 some (r1.1, r1.2.1, r1.2.2)
def d1 (v0 v1 : Int) (v2 : Bool) (v3 v4 : Int) : Option R := o1 N v0 v1 v2 v3 v4
theorem d1.run (v0 v1 : Int) (v2 : Bool) (v3 v4 : Int) : runC C (O N) N (c 29) 29 (s1 v0 v1 v2 v3 v4) (K29 N) = d1 N v0 v1 v2 v3 v4 := by kernel_rfl
def o0 (a0_0 a0_1 a0_2 a0_3 a1_0 a1_1 a1_2 a1_3 : Int) (c1 : t1) : Option R :=
 (zq54.g N a0_0 a0_1 a0_2 a0_3 a1_0 a1_1 a1_2 a1_3).bind fun r1 =>
 (zq14.g N a0_0 a0_1 a0_2 a0_3).bind fun r2 =>
 bif (!r2) then
  c1 r1.1 r1.2 true 0 0
 else
 (zq14.g N a1_0 a1_1 a1_2 a1_3).bind fun r3 =>
 bif (!r3) then
  c1 r1.1 r1.2 true 0 0
 else
 c1 r1.1 r1.2 (r1.1 == 0) 0 0
theorem o0.run (H29 : Code) (a0_0 a0_1 a0_2 a0_3 a1_0 a1_1 a1_2 a1_3 : Int) : runC C (O N) N (.seq (c 2) (.seq (c 6) (.seq (.seq (c 28) H29) (c 15)))) 1 (st0 [.agg [.i a0_0, .i a0_1, .i a0_2, .i a0_3], .agg [.i a1_0, .i a1_1, .i a1_2, .i a1_3]] [] : St D0) K0 = o0 N a0_0 a0_1 a0_2 a0_3 a1_0 a1_1 a1_2 a1_3 ((fun w0 w1 w2 w3 w4 => runC C (O N) N H29 29 (s1 w0 w1 w2 w3 w4) (onN (tk C (O N) N c 14 15 K0) K0))) := by kernel_rfl
def g (a0_0 a0_1 a0_2 a0_3 a1_0 a1_1 a1_2 a1_3 : Int) : Option R := o0 N a0_0 a0_1 a0_2 a0_3 a1_0 a1_1 a1_2 a1_3 (d1 N · · · · ·)
theorem c1_0 : (c 1) = (.seq (c 2) (.seq (c 6) (.seq (.seq (c 28) (c 29)) (c 15)))) := by kernel_rfl
theorem g.run (a0_0 a0_1 a0_2 a0_3 a1_0 a1_1 a1_2 a1_3 : Int) : runC C (O N) N (c 1) 1 (st0 [.agg [.i a0_0, .i a0_1, .i a0_2, .i a0_3], .agg [.i a1_0, .i a1_1, .i a1_2, .i a1_3]] [] : St D0) K0 = g N a0_0 a0_1 a0_2 a0_3 a1_0 a1_1 a1_2 a1_3 := by
  rw [c1_0]; unfold g; exact (o0.run N (c 29) a0_0 a0_1 a0_2 a0_3 a1_0 a1_1 a1_2 a1_3).trans (congr rfl (fx5 (d1.run N)))
def ent : Ent Tryz.prog T0 := mkEntC C tabOk0 mixed0 170 [(true, [.any, .any, .any, .any]), (true, [.any, .any, .any, .any])] sig (E N) Tryz.func170 (by kernel_rfl) [(true, [.any, .any]), (false, [.any])] N (fun t => g N t.1 t.2.1 t.2.2.1 t.2.2.2.1 t.2.2.2.2.1 t.2.2.2.2.2.1 t.2.2.2.2.2.2.1 t.2.2.2.2.2.2.2) (fun _ => by kernel_rfl) (fun t => g.run N t.1 t.2.1 t.2.2.1 t.2.2.2.1 t.2.2.2.2.1 t.2.2.2.2.2.1 t.2.2.2.2.2.2.1 t.2.2.2.2.2.2.2)
end zq50
namespace zq29
variable (N : Nat)
abbrev R : Type := Int × Int × Bool
abbrev sig : Sig := ⟨[(true, 4)], [], [.i, .i, .i, .i], [(true, 2), (false, 1)], [], [.i, .i, .bool]⟩
noncomputable def C : Cfg D0 := ⟨Tryz.prog, T0, 15, 0, 9, 0, [], 384, false, []⟩
def E : List (Ent Tryz.prog T0) := [zq70.ent N, zq50.ent N]
def O : Orc D0 R := orcOf (E N)
def K0 : Ex → St D0 → Option R := exitK C Tryz.f110.results.toList [(true, [.any, .any]), (false, [.any])] (decOut sig)
noncomputable def c (p : Nat) : Code := codeAt (Tryz.f110.body.getD .skip) (pathN p)
def o0 (a0_0 a0_1 a0_2 a0_3 : Int) : Option R :=
 (zq70.g N).bind fun r1 =>
 (zq50.g N a0_0 a0_1 a0_2 a0_3 r1.1 r1.2.1 r1.2.2.1 r1.2.2.2).bind fun r2 =>
 some (r2.1, r2.2.1, r2.2.2)
def g (a0_0 a0_1 a0_2 a0_3 : Int) : Option R := o0 N a0_0 a0_1 a0_2 a0_3
theorem g.run (a0_0 a0_1 a0_2 a0_3 : Int) : runC C (O N) N (c 1) 1 (st0 [.agg [.i a0_0, .i a0_1, .i a0_2, .i a0_3]] [] : St D0) K0 = g N a0_0 a0_1 a0_2 a0_3 := by kernel_rfl
def ent : Ent Tryz.prog T0 := mkEntC C tabOk0 mixed0 110 [(true, [.any, .any, .any, .any])] sig (E N) Tryz.func110 (by kernel_rfl) [(true, [.any, .any]), (false, [.any])] N (fun t => g N t.1 t.2.1 t.2.2.1 t.2.2.2) (fun _ => by kernel_rfl) (fun t => g.run N t.1 t.2.1 t.2.2.1 t.2.2.2)
end zq29
namespace zq121
variable (N : Nat)
abbrev R : Type := Int × Int × Bool
abbrev sig : Sig := ⟨[(true, 4)], [], [.i, .i, .i, .i], [(true, 2), (false, 1)], [], [.i, .i, .bool]⟩
noncomputable def C : Cfg D0 := ⟨Tryz.prog, T0, 8207, 0, 26, 0, [(12, [1, 2, 13], [1, 2])], 50331648, false, []⟩
def E : List (Ent Tryz.prog T0) := [zq157.ent N, zq163.ent N, zq160.ent N]
def O : Orc D0 R := orcOf (E N)
def K0 : Ex → St D0 → Option R := exitK C Tryz.f138.results.toList [(true, [.any, .any]), (false, [.any])] (decOut sig)
noncomputable def c (p : Nat) : Code := codeAt (Tryz.f138.body.getD .skip) (pathN p)
abbrev t1 : Type := Bool → Int → Int → Int → Int → Int → Int → Option R
def s1 (v0 : Bool) (v1 v2 v3 v4 v5 v6 : Int) : St D0 := mkSt [(1, .one (.ptr 1 0)), (2, .one (.ptr 2 0)), (13, .one (.bool v0))] [(1, some (27, [.i v1, .i v2, .i v3, .i v4])), (2, some (95, [.i v5, .i v6]))]
def K13 : Ex → St D0 → Option R := (onN (tk C (O N) N c 6 7 K0) K0)
def o1 (v0 : Bool) (v1 v2 v3 v4 v5 v6 : Int) : Option R :=
 bif v0 then
  some (0, 0, false)
 else
 (zq163.g N (w64 (v3 - v4))).bind fun r1 =>
 (zq160.g N v4 r1).bind fun r2 =>
 some (r2.1, r2.2.1, r2.2.2)
def d1 (v0 : Bool) (v1 v2 v3 v4 v5 v6 : Int) : Option R := o1 N v0 v1 v2 v3 v4 v5 v6
theorem d1.run (v0 : Bool) (v1 v2 v3 v4 v5 v6 : Int) : runC C (O N) N (c 13) 13 (s1 v0 v1 v2 v3 v4 v5 v6) (K13 N) = d1 N v0 v1 v2 v3 v4 v5 v6 := by kernel_rfl
def o0 (a0_0 a0_1 a0_2 a0_3 : Int) (c1 : t1) : Option R :=
 (zq157.g N a0_0 a0_1 a0_2 a0_3).bind fun r1 =>
 bif (!r1) then
  c1 true a0_0 a0_1 a0_2 a0_3 0 0
 else
 c1 (a0_2 == a0_3) a0_0 a0_1 a0_2 a0_3 0 0
theorem o0.run (H13 : Code) (a0_0 a0_1 a0_2 a0_3 : Int) : runC C (O N) N (.seq (c 2) (.seq (.seq (c 12) H13) (c 7))) 1 (st0 [.agg [.i a0_0, .i a0_1, .i a0_2, .i a0_3]] [] : St D0) K0 = o0 N a0_0 a0_1 a0_2 a0_3 ((fun w0 w1 w2 w3 w4 w5 w6 => runC C (O N) N H13 13 (s1 w0 w1 w2 w3 w4 w5 w6) (onN (tk C (O N) N c 6 7 K0) K0))) := by kernel_rfl
def g (a0_0 a0_1 a0_2 a0_3 : Int) : Option R := o0 N a0_0 a0_1 a0_2 a0_3 (d1 N · · · · · · ·)
theorem c1_0 : (c 1) = (.seq (c 2) (.seq (.seq (c 12) (c 13)) (c 7))) := by kernel_rfl
theorem g.run (a0_0 a0_1 a0_2 a0_3 : Int) : runC C (O N) N (c 1) 1 (st0 [.agg [.i a0_0, .i a0_1, .i a0_2, .i a0_3]] [] : St D0) K0 = g N a0_0 a0_1 a0_2 a0_3 := by
  rw [c1_0]; unfold g; exact (o0.run N (c 13) a0_0 a0_1 a0_2 a0_3).trans (congr rfl (fx7 (d1.run N)))
def ent : Ent Tryz.prog T0 := mkEntC C tabOk0 mixed0 138 [(true, [.any, .any, .any, .any])] sig (E N) Tryz.func138 (by kernel_rfl) [(true, [.any, .any]), (false, [.any])] N (fun t => g N t.1 t.2.1 t.2.2.1 t.2.2.2) (fun _ => by kernel_rfl) (fun t => g.run N t.1 t.2.1 t.2.2.1 t.2.2.2)
end zq121
namespace zq153
variable (N : Nat)
abbrev R : Type := Int × Int × Bool
abbrev QQ : Type := St D0 → Option R
abbrev sig : Sig := ⟨[(false, 1), (false, 1)], [], [.i, .str], [(true, 2), (false, 1)], [], [.i, .i, .bool]⟩
noncomputable def C : Cfg D0 := ⟨Tryz.prog, T0, 85070596803467639362531009403438761971, 0, 152, 0, [(12, [0, 1, 4, 18], [4]), (122, [0, 1, 4, 6, 7], [4]), (124, [0, 1, 4, 6, 87], [4]), (254, [0, 4, 6, 8, 9], [4]), (978, [0, 1, 4, 6, 7], [4]), (8148, [0, 4, 6, 10, 102], [4]), (31302, [0, 1, 4, 6, 7, 46], [4]), (32606, [0, 4, 6, 8, 9, 126], [4])], 4518868521305257541366425633343999197456664576, true, [(250431, false, 6, [0, 1, 4, 7], [4]), (250431, true, 6, [0, 1, 4, 7], [4])]⟩
def E : List (Ent Tryz.prog T0) := [zq178.ent N, zq176.ent N, zq173.ent N, zq147.ent N, zq151.ent N]
def O : Orc D0 R := orcOf (E N)
def K0 : Ex → QQ := exitK C Tryz.f121.results.toList [(true, [.any, .any]), (false, [.any])] (decOut sig)
noncomputable def c (p : Nat) : Code := codeAt (Tryz.f121.body.getD .skip) (pathN p)
abbrev t1 : Type := Int → BA → Bool → Int → Int → Option R
abbrev t2 : Type := Int → BA → Int → Int → Int → Option R
abbrev t3 : Type := Int → BA → Int → Int → Int → Option R
abbrev t4 : Type := Int → BA → Int → Bool → Int → Int → Option R
abbrev t5 : Type := Int → BA → (List Int) → Int → Int → Int → Option R
abbrev t6 : Type := Int → BA → (List Int) → Int → Int → Int → Option R
abbrev t7 : Type := Int → BA → (List Int) → Int → Bool → Int → Int → Option R
abbrev t8 : Type := Int → BA → (List Int) → Bool → Int → Int → Option R
abbrev t9 : Type := Int → (List Int) → (List BA) → Bool → Int → Int → Option R
abbrev t10 : Type := Int → (List Int) → Int → Int → Int → Int → Option R
abbrev t11 : Type := Int → (List Int) → Int → Int → Bool → Int → Int → Option R
def s1 (v0 : Int) (v1 : BA) (v2 : Bool) (v3 v4 : Int) : St D0 := mkSt [(0, .one (.i v0)), (1, .one (.str v1)), (4, .one (.ptr 4 0)), (18, .one (.bool v2))] [(4, some (25, [.i v3, .i v4]))]
def s2 (v0 : Int) (v1 : BA) (v2 v3 v4 : Int) : St D0 := mkSt [(0, .one (.i v0)), (1, .one (.str v1)), (4, .one (.ptr 4 0)), (6, .one (.nl)), (7, .one (.i v2))] [(4, some (25, [.i v3, .i v4]))]
def s3 (v0 : Int) (v1 : BA) (v2 v3 v4 : Int) : St D0 := mkSt [(0, .one (.i v0)), (1, .one (.str v1)), (4, .one (.ptr 4 0)), (6, .one (.nl)), (7, .one (.i v2))] [(4, some (25, [.i v3, .i v4]))]
def s4 (v0 : Int) (v1 : BA) (v2 : Int) (v3 : Bool) (v4 v5 : Int) : St D0 := mkSt [(0, .one (.i v0)), (1, .one (.str v1)), (4, .one (.ptr 4 0)), (6, .one (.nl)), (7, .one (.i v2)), (46, .one (.bool v3))] [(4, some (25, [.i v4, .i v5]))]
def s5 (v0 : Int) (v1 : BA) (v2 : List Int) (v3 v4 v5 : Int) : St D0 := mkSt [(0, .one (.i v0)), (1, .one (.str v1)), (4, .one (.ptr 4 0)), (6, .one (.sl true 3 v2)), (7, .one (.i v3))] [(4, some (25, [.i v4, .i v5]))]
def s6 (v0 : Int) (v1 : BA) (v2 : List Int) (v3 v4 v5 : Int) : St D0 := mkSt [(0, .one (.i v0)), (1, .one (.str v1)), (4, .one (.ptr 4 0)), (6, .one (.sl true 3 v2)), (7, .one (.i v3))] [(4, some (25, [.i v4, .i v5]))]
def s7 (v0 : Int) (v1 : BA) (v2 : List Int) (v3 : Int) (v4 : Bool) (v5 v6 : Int) : St D0 := mkSt [(0, .one (.i v0)), (1, .one (.str v1)), (4, .one (.ptr 4 0)), (6, .one (.sl true 3 v2)), (7, .one (.i v3)), (46, .one (.bool v4))] [(4, some (25, [.i v5, .i v6]))]
def s8 (v0 : Int) (v1 : BA) (v2 : List Int) (v3 : Bool) (v4 v5 : Int) : St D0 := mkSt [(0, .one (.i v0)), (1, .one (.str v1)), (4, .one (.ptr 4 0)), (6, .one (.sl true 3 v2)), (87, .one (.bool v3))] [(4, some (25, [.i v4, .i v5]))]
def s9 (v0 : Int) (v1 : List Int) (v2 : List BA) (v3 : Bool) (v4 v5 : Int) : St D0 := mkSt [(0, .one (.i v0)), (4, .one (.ptr 4 0)), (6, .one (.sl true 3 v1)), (10, .one (.sl true 9 v2)), (102, .one (.bool v3))] [(4, some (25, [.i v4, .i v5]))]
def s10 (v0 : Int) (v1 : List Int) (v2 v3 v4 v5 : Int) : St D0 := mkSt [(0, .one (.i v0)), (4, .one (.ptr 4 0)), (6, .one (.sl true 3 v1)), (8, .one (.i v2)), (9, .one (.i v3))] [(4, some (25, [.i v4, .i v5]))]
def s11 (v0 : Int) (v1 : List Int) (v2 v3 : Int) (v4 : Bool) (v5 v6 : Int) : St D0 := mkSt [(0, .one (.i v0)), (4, .one (.ptr 4 0)), (6, .one (.sl true 3 v1)), (8, .one (.i v2)), (9, .one (.i v3)), (126, .one (.bool v4))] [(4, some (25, [.i v5, .i v6]))]
def K979 (Kn122 : QQ) : Ex → QQ := ((fun up => (onN (fun s => C.tidy 122 s ((onN Kn122 up) .normal)) (onN Kn122 up))) (blockK 0 (onN (tk C (O N) N c 30 31 K0) K0)))
def o3 (N : Nat) (v0 : Int) (v1 : BA) (v2 v3 v4 : Int) (c2 : t2) : Option R :=
 c2 v0 v1 (w64 (v2 + 1)) v3 v4
def d3 (v0 : Int) (v1 : BA) (v2 v3 v4 : Int) (c2 : t2) : Option R := o3 N v0 v1 v2 v3 v4 c2
theorem d3.run (Kn122 : QQ) (v0 : Int) (v1 : BA) (v2 v3 v4 : Int) : runC C (O N) N (c 979) 979 (s3 v0 v1 v2 v3 v4) (K979 N Kn122) = d3 N v0 v1 v2 v3 v4 (Kn122 <| s2 · · · · ·) := by kernel_rfl
def o5 (N : Nat) (v0 : Int) (v1 : BA) (v2 : List Int) (v3 v4 v5 : Int) (c6 : t6) : Option R :=
 c6 v0 v1 v2 (w64 (v3 + 1)) v4 v5
def d5 (v0 : Int) (v1 : BA) (v2 : List Int) (v3 v4 v5 : Int) (c6 : t6) : Option R := o5 N v0 v1 v2 v3 v4 v5 c6
theorem d5.run (Kn122 : QQ) (v0 : Int) (v1 : BA) (v2 : List Int) (v3 v4 v5 : Int) : runC C (O N) N (c 979) 979 (s5 v0 v1 v2 v3 v4 v5) (K979 N Kn122) = d5 N v0 v1 v2 v3 v4 v5 (Kn122 <| s6 · · · · · ·) := by kernel_rfl
def B489 (Kn122 : QQ) : QQ := fun s' => runC C (O N) N (c 979) 979 s' (K979 N Kn122)
def K31303 (Kn122 : QQ) : Ex → QQ := (blockK 2 (blockK 1 ((fun up => (onN (fun s => C.tidy 978 s (B489 N Kn122)) up)) ((fun up => (onN (fun s => C.tidy 122 s ((onN Kn122 up) .normal)) (onN Kn122 up))) (blockK 0 (onN (tk C (O N) N c 30 31 K0) K0))))))
def o4 (N : Nat) (v0 : Int) (v1 : BA) (v2 : Int) (v3 : Bool) (v4 v5 : Int) (c5 : t5) : Option R :=
 bif v3 then
  some (0, 0, false)
 else
 bif ((Int.tmod v2 3) == 0) then
  bif (decide (0 ≤ v2)) then
   bif (decide (v2 < (v1.size : Int))) then
    bif (Nat.blt (([] : List Int).length + ([(w64 (10 * (w64 ((IntKind.wrap .u8) ((bt v1 v2) - 48)))))] : List Int).length) 17592186044416) then
     c5 v0 v1 (([] : List Int) ++ ([(w64 (10 * (w64 ((IntKind.wrap .u8) ((bt v1 v2) - 48)))))] : List Int)) v2 v4 v5
    else
    none
   else
   none
  else
  none
 else
 none
theorem o4.run (Kb489 : QQ) (Kn122 : QQ) (v0 : Int) (v1 : BA) (v2 : Int) (v3 : Bool) (v4 v5 : Int) : runC C (O N) N (c 31303) 31303 (s4 v0 v1 v2 v3 v4 v5) (blockK 2 (blockK 1 ((fun up => (onN (fun s => C.tidy 978 s Kb489) up)) ((fun up => (onN (fun s => C.tidy 122 s ((onN Kn122 up) .normal)) (onN Kn122 up))) (blockK 0 (onN (tk C (O N) N c 30 31 K0) K0)))))) = o4 N v0 v1 v2 v3 v4 v5 (Kb489 <| s5 · · · · · ·) := by kernel_rfl
def d4 (v0 : Int) (v1 : BA) (v2 : Int) (v3 : Bool) (v4 v5 : Int) (c6 : t6) : Option R := o4 N v0 v1 v2 v3 v4 v5 (d5 N · · · · · · c6)
theorem d4.run (Kn122 : QQ) (v0 : Int) (v1 : BA) (v2 : Int) (v3 : Bool) (v4 v5 : Int) : runC C (O N) N (c 31303) 31303 (s4 v0 v1 v2 v3 v4 v5) (K31303 N Kn122) = d4 N v0 v1 v2 v3 v4 v5 (Kn122 <| s6 · · · · · ·) := by
  unfold d4; exact (o4.run N (B489 N Kn122) Kn122 v0 v1 v2 v3 v4 v5).trans (congr rfl (fx6 (d5.run N Kn122)))
def K244 (Kn122 : QQ) : Ex → QQ := ((fun up => (onN (fun s => C.tidy 122 s ((onN Kn122 up) .normal)) (onN Kn122 up))) (blockK 0 (onN (tk C (O N) N c 30 31 K0) K0)))
def o2 (N : Nat) (v0 : Int) (v1 : BA) (v2 v3 v4 : Int) (c3 : t3) (c4 : t4) : Option R :=
 bif (decide (v2 < 8)) then
  bif ((Int.tmod v2 3) == 2) then
   bif (decide (0 ≤ v2)) then
    bif (decide (v2 < (v1.size : Int))) then
     bif ((bt v1 v2) != 58) then
      some (0, 0, false)
     else
     c3 v0 v1 v2 v3 v4
    else
    none
   else
   none
  else
  bif (decide (0 ≤ v2)) then
   bif (decide (v2 < (v1.size : Int))) then
    bif (decide ((bt v1 v2) < 48)) then
     c4 v0 v1 v2 true v3 v4
    else
    bif (decide (0 ≤ v2)) then
     bif (decide (v2 < (v1.size : Int))) then
      c4 v0 v1 v2 (decide ((bt v1 v2) > 57)) v3 v4
     else
     none
    else
    none
   else
   none
  else
  none
 else
 none
theorem o2.run (Kn122 : QQ) (H979 : Code) (H31303 : Code) (v0 : Int) (v1 : BA) (v2 v3 v4 : Int) : runC C (O N) N (.seq (c 488) (.seq (.block 1 (.block 2 (.seq (c 7824) (.cond (.tmp 37) (c 15650) (.seq (c 31302) H31303))))) H979)) 244 (s2 v0 v1 v2 v3 v4) ((fun up => (onN (fun s => C.tidy 122 s ((onN Kn122 up) .normal)) (onN Kn122 up))) (blockK 0 (onN (tk C (O N) N c 30 31 K0) K0))) = o2 N v0 v1 v2 v3 v4 ((fun w0 w1 w2 w3 w4 => runC C (O N) N H979 979 (s3 w0 w1 w2 w3 w4) ((fun up => (onN (fun s => C.tidy 122 s ((onN Kn122 up) .normal)) (onN Kn122 up))) (blockK 0 (onN (tk C (O N) N c 30 31 K0) K0))))) ((fun w0 w1 w2 w3 w4 w5 => runC C (O N) N H31303 31303 (s4 w0 w1 w2 w3 w4 w5) (blockK 2 (blockK 1 ((fun up => (onN (fun s => C.tidy 978 s (fun s' => runC C (O N) N H979 979 s' up)) up)) ((fun up => (onN (fun s => C.tidy 122 s ((onN Kn122 up) .normal)) (onN Kn122 up))) (blockK 0 (onN (tk C (O N) N c 30 31 K0) K0)))))))) := by kernel_rfl
def d2 (v0 : Int) (v1 : BA) (v2 v3 v4 : Int) (c2 : t2) (c6 : t6) : Option R := o2 N v0 v1 v2 v3 v4 (d3 N · · · · · c2) (d4 N · · · · · · c6)
theorem c244_2 : (c 244) = (.seq (c 488) (.seq (.block 1 (.block 2 (.seq (c 7824) (.cond (.tmp 37) (c 15650) (.seq (c 31302) (c 31303)))))) (c 979))) := by kernel_rfl
theorem d2.run (Kn122 : QQ) (v0 : Int) (v1 : BA) (v2 v3 v4 : Int) : runC C (O N) N (c 244) 244 (s2 v0 v1 v2 v3 v4) (K244 N Kn122) = d2 N v0 v1 v2 v3 v4 (Kn122 <| s2 · · · · ·) (Kn122 <| s6 · · · · · ·) := by
  rw [c244_2]; unfold d2; exact (o2.run N Kn122 (c 979) (c 31303) v0 v1 v2 v3 v4).trans (congr (congr rfl (fx5 (d3.run N Kn122))) (fx6 (d4.run N Kn122)))
def o7 (N : Nat) (v0 : Int) (v1 : BA) (v2 : List Int) (v3 : Int) (v4 : Bool) (v5 v6 : Int) (c5 : t5) : Option R :=
 bif v4 then
  some (0, 0, false)
 else
 bif ((Int.tmod v3 3) == 0) then
  bif (decide (0 ≤ v3)) then
   bif (decide (v3 < (v1.size : Int))) then
    bif (Nat.blt (v2.length + ([(w64 (10 * (w64 ((IntKind.wrap .u8) ((bt v1 v3) - 48)))))] : List Int).length) 17592186044416) then
     c5 v0 v1 (v2 ++ ([(w64 (10 * (w64 ((IntKind.wrap .u8) ((bt v1 v3) - 48)))))] : List Int)) v3 v5 v6
    else
    none
   else
   none
  else
  none
 else
 bif (Nat.blt 0 v2.length) then
  bif (decide (0 ≤ (w64 (((v2.length : Nat) : Int) - 1)))) then
   bif (decide ((w64 (((v2.length : Nat) : Int) - 1)) < ((v2.length : Nat) : Int))) then
    (v2[((w64 (((v2.length : Nat) : Int) - 1)) : Int).toNat]?).bind fun x1 =>
    bif (decide (0 ≤ v3)) then
     bif (decide (v3 < (v1.size : Int))) then
      bif (decide (0 ≤ (w64 (((v2.length : Nat) : Int) - 1)))) then
       bif (decide ((w64 (((v2.length : Nat) : Int) - 1)) < ((v2.length : Nat) : Int))) then
        (v2[((w64 (((v2.length : Nat) : Int) - 1)) : Int).toNat]?).bind fun x2 =>
        bif (Nat.ble v2.length (v2.set ((w64 (((v2.length : Nat) : Int) - 1)) : Int).toNat (w64 (x1 + (w64 ((IntKind.wrap .u8) ((bt v1 v3) - 48)))))).length) then
         c5 v0 v1 ((v2.set ((w64 (((v2.length : Nat) : Int) - 1)) : Int).toNat (w64 (x1 + (w64 ((IntKind.wrap .u8) ((bt v1 v3) - 48)))))).take v2.length) v3 v5 v6
        else
        none
       else
       none
      else
      none
     else
     none
    else
    none
   else
   none
  else
  none
 else
 bif (decide (0 ≤ (w64 ((v2.length : Int) - 1)))) then
  bif (decide ((w64 ((v2.length : Int) - 1)) < (v2.length : Int))) then
   (v2[((w64 ((v2.length : Int) - 1)) : Int).toNat]?).bind fun x3 =>
   bif (decide (0 ≤ v3)) then
    bif (decide (v3 < (v1.size : Int))) then
     bif (decide (0 ≤ (w64 ((v2.length : Int) - 1)))) then
      bif (decide ((w64 ((v2.length : Int) - 1)) < (v2.length : Int))) then
       none
      else
      none
     else
     none
    else
    none
   else
   none
  else
  none
 else
 none
theorem o7.run (Kb489 : QQ) (Kn122 : QQ) (v0 : Int) (v1 : BA) (v2 : List Int) (v3 : Int) (v4 : Bool) (v5 v6 : Int) : runC C (O N) N (c 31303) 31303 (s7 v0 v1 v2 v3 v4 v5 v6) (blockK 2 (blockK 1 ((fun up => (onN (fun s => C.tidy 978 s Kb489) up)) ((fun up => (onN (fun s => C.tidy 122 s ((onN Kn122 up) .normal)) (onN Kn122 up))) (blockK 0 (onN (tk C (O N) N c 30 31 K0) K0)))))) = o7 N v0 v1 v2 v3 v4 v5 v6 (Kb489 <| s5 · · · · · ·) := by kernel_rfl
def d7 (v0 : Int) (v1 : BA) (v2 : List Int) (v3 : Int) (v4 : Bool) (v5 v6 : Int) (c6 : t6) : Option R := o7 N v0 v1 v2 v3 v4 v5 v6 (d5 N · · · · · · c6)
theorem d7.run (Kn122 : QQ) (v0 : Int) (v1 : BA) (v2 : List Int) (v3 : Int) (v4 : Bool) (v5 v6 : Int) : runC C (O N) N (c 31303) 31303 (s7 v0 v1 v2 v3 v4 v5 v6) (K31303 N Kn122) = d7 N v0 v1 v2 v3 v4 v5 v6 (Kn122 <| s6 · · · · · ·) := by
  unfold d7; exact (o7.run N (B489 N Kn122) Kn122 v0 v1 v2 v3 v4 v5 v6).trans (congr rfl (fx6 (d5.run N Kn122)))
def K255 (N : Nat) : Ex → QQ := K0
def o10 (v0 : Int) (v1 : List Int) (v2 v3 v4 v5 : Int) : Option R :=
 bif (decide (0 < (v1.length : Int))) then
  (v1[(0 : Int).toNat]?).bind fun x1 =>
  bif (decide (1 < (v1.length : Int))) then
   (v1[(1 : Int).toNat]?).bind fun x2 =>
   bif (decide (2 < (v1.length : Int))) then
    (v1[(2 : Int).toNat]?).bind fun x3 =>
    (zq151.g N (w64 ((w64 ((w64 ((w64 ((w64 ((w64 (x1 * 60)) + x2)) * 60)) + x3)) * v3)) + v2)) (w64 ((w64 (v0 * 3600)) * v3))).bind fun r4 =>
    some (r4.1, r4.2.1, r4.2.2)
   else
   none
  else
  none
 else
 none
def d10 (v0 : Int) (v1 : List Int) (v2 v3 v4 v5 : Int) : Option R := o10 N v0 v1 v2 v3 v4 v5
theorem d10.run (v0 : Int) (v1 : List Int) (v2 v3 v4 v5 : Int) : runC C (O N) N (c 255) 255 (s10 v0 v1 v2 v3 v4 v5) (K255 N) = d10 N v0 v1 v2 v3 v4 v5 := by kernel_rfl
def B127 : QQ := fun s' => runC C (O N) N (c 255) 255 s' (K255 N)
def K32607 : Ex → QQ := (onN (fun s => C.tidy 254 s (B127 N)) K0)
def o11 (N : Nat) (v0 : Int) (v1 : List Int) (v2 v3 : Int) (v4 : Bool) (v5 v6 : Int) (c10 : t10) : Option R :=
 bif v4 then
  some (0, 0, false)
 else
 c10 v0 v1 v2 v3 v5 v6
theorem o11.run (Kb127 : QQ) (v0 : Int) (v1 : List Int) (v2 v3 : Int) (v4 : Bool) (v5 v6 : Int) : runC C (O N) N (c 32607) 32607 (s11 v0 v1 v2 v3 v4 v5 v6) (onN (fun s => C.tidy 254 s Kb127) K0) = o11 N v0 v1 v2 v3 v4 v5 v6 (Kb127 <| s10 · · · · · ·) := by kernel_rfl
def d11 (v0 : Int) (v1 : List Int) (v2 v3 : Int) (v4 : Bool) (v5 v6 : Int) : Option R := o11 N v0 v1 v2 v3 v4 v5 v6 (d10 N · · · · · ·)
theorem d11.run (v0 : Int) (v1 : List Int) (v2 v3 : Int) (v4 : Bool) (v5 v6 : Int) : runC C (O N) N (c 32607) 32607 (s11 v0 v1 v2 v3 v4 v5 v6) (K32607 N) = d11 N v0 v1 v2 v3 v4 v5 v6 := by
  unfold d11; exact (o11.run N (B127 N) v0 v1 v2 v3 v4 v5 v6).trans (congr rfl (fx6 (d10.run N)))
def K8149 : Ex → QQ := (onN (fun s => C.tidy 4074 s (fun s' => runC C (O N) N (c 4075) 4075 s' (onN (fun s => C.tidy 254 s (B127 N)) K0))) (onN (fun s => C.tidy 254 s (B127 N)) K0))
def o9 (v0 : Int) (v1 : List Int) (v2 : List BA) (v3 : Bool) (v4 v5 : Int) (c11 : t11) : Option R :=
 bif v3 then
  some (0, 0, false)
 else
 bif (decide (0 < (v2.length : Int))) then
  (v2[(0 : Int).toNat]?).bind fun x1 =>
  (zq176.g N x1).bind fun r2 =>
  bif (decide (1 < (v2.length : Int))) then
   (v2[(1 : Int).toNat]?).bind fun x3 =>
   (zq176.g N x3).bind fun r4 =>
   bif (decide (r4 < 2)) then
    c11 v0 v1 r2 r4 true v4 v5
   else
   (zq173.g N r2 1 (w64 (r4 - 1))).bind fun r5 =>
   bif (!r5) then
    c11 v0 v1 r2 r4 true v4 v5
   else
   (zq147.g N r2 r4).bind fun r6 =>
   c11 v0 v1 r2 r4 (r6 != 1) v4 v5
  else
  none
 else
 none
theorem o9.run (Kb127 : QQ) (H32607 : Code) (v0 : Int) (v1 : List Int) (v2 : List BA) (v3 : Bool) (v4 v5 : Int) : runC C (O N) N (c 8149) 8149 (s9 v0 v1 v2 v3 v4 v5) (onN (fun s => C.tidy 4074 s (fun s' => runC C (O N) N (.seq (c 8150) (.seq (c 16302) (.seq (c 32606) H32607))) 4075 s' (onN (fun s => C.tidy 254 s Kb127) K0))) (onN (fun s => C.tidy 254 s Kb127) K0)) = o9 N v0 v1 v2 v3 v4 v5 ((fun w0 w1 w2 w3 w4 w5 w6 => runC C (O N) N H32607 32607 (s11 w0 w1 w2 w3 w4 w5 w6) (onN (fun s => C.tidy 254 s Kb127) K0))) := by kernel_rfl
def d9 (v0 : Int) (v1 : List Int) (v2 : List BA) (v3 : Bool) (v4 v5 : Int) : Option R := o9 N v0 v1 v2 v3 v4 v5 (d11 N · · · · · · ·)
theorem d9.run (v0 : Int) (v1 : List Int) (v2 : List BA) (v3 : Bool) (v4 v5 : Int) : runC C (O N) N (c 8149) 8149 (s9 v0 v1 v2 v3 v4 v5) (K8149 N) = d9 N v0 v1 v2 v3 v4 v5 := by
  unfold d9; exact (o9.run N (B127 N) (c 32607) v0 v1 v2 v3 v4 v5).trans (congr rfl (fx7 (d11.run N)))
def K125 : Ex → QQ := (onN (tk C (O N) N c 62 63 K0) K0)
def o8 (v0 : Int) (v1 : BA) (v2 : List Int) (v3 : Bool) (v4 v5 : Int) (c9 : t9) (c10 : t10) : Option R :=
 bif v3 then
  some (0, 0, false)
 else
 bif (decide ((v1.size : Int) > 8)) then
  bif (decide (0 ≤ (v1.size : Int))) then
   bif (decide ((v1.size : Int) ≤ (v1.size : Int))) then
    bif (decide (9 ≤ (v1.size : Int))) then
     (zq178.g N (v1.extract (9 : Int).toNat ((v1.size : Int) : Int).toNat) 47).bind fun r1 =>
     bif (decide (8 < (v1.size : Int))) then
      bif ((bt v1 8) != 43) then
       c9 v0 v2 r1 true v4 v5
      else
      c9 v0 v2 r1 ((r1.length : Int) != 2) v4 v5
     else
     none
    else
    none
   else
   none
  else
  none
 else
 c10 v0 v2 0 1 v4 v5
theorem o8.run (H255 : Code) (H8149 : Code) (v0 : Int) (v1 : BA) (v2 : List Int) (v3 : Bool) (v4 v5 : Int) : runC C (O N) N (c 125) 125 (s8 v0 v1 v2 v3 v4 v5) (onN (fun s => C.tidy 62 s (fun s' => runC C (O N) N (.seq (c 126) (.seq (.seq (c 508) (.cond (.tmp 91) (.seq (c 2036) (.seq (.seq (c 8148) H8149) (c 4075))) (c 1019))) H255)) 63 s' K0)) K0) = o8 N v0 v1 v2 v3 v4 v5 ((fun w0 w1 w2 w3 w4 w5 => runC C (O N) N H8149 8149 (s9 w0 w1 w2 w3 w4 w5) ((fun up => (onN (tk C (O N) N c 4074 4075 up) up)) (onN (fun s => C.tidy 254 s (fun s' => runC C (O N) N H255 255 s' K0)) K0)))) ((fun w0 w1 w2 w3 w4 w5 => runC C (O N) N H255 255 (s10 w0 w1 w2 w3 w4 w5) K0)) := by kernel_rfl
def d8 (v0 : Int) (v1 : BA) (v2 : List Int) (v3 : Bool) (v4 v5 : Int) : Option R := o8 N v0 v1 v2 v3 v4 v5 (d9 N · · · · · ·) (d10 N · · · · · ·)
theorem d8.run (v0 : Int) (v1 : BA) (v2 : List Int) (v3 : Bool) (v4 v5 : Int) : runC C (O N) N (c 125) 125 (s8 v0 v1 v2 v3 v4 v5) (K125 N) = d8 N v0 v1 v2 v3 v4 v5 := by
  unfold d8; exact (o8.run N (c 255) (c 8149) v0 v1 v2 v3 v4 v5).trans (congr (congr rfl (fx6 (d9.run N))) (fx6 (d10.run N)))
def o6 (N : Nat) (v0 : Int) (v1 : BA) (v2 : List Int) (v3 v4 v5 : Int) (c5 : t5) (c7 : t7) (c8 : t8) : Option R :=
 bif (decide (v3 < 8)) then
  bif ((Int.tmod v3 3) == 2) then
   bif (decide (0 ≤ v3)) then
    bif (decide (v3 < (v1.size : Int))) then
     bif ((bt v1 v3) != 58) then
      some (0, 0, false)
     else
     c5 v0 v1 v2 v3 v4 v5
    else
    none
   else
   none
  else
  bif (decide (0 ≤ v3)) then
   bif (decide (v3 < (v1.size : Int))) then
    bif (decide ((bt v1 v3) < 48)) then
     c7 v0 v1 v2 v3 true v4 v5
    else
    bif (decide (0 ≤ v3)) then
     bif (decide (v3 < (v1.size : Int))) then
      c7 v0 v1 v2 v3 (decide ((bt v1 v3) > 57)) v4 v5
     else
     none
    else
    none
   else
   none
  else
  none
 else
 bif (decide (0 < (v2.length : Int))) then
  (v2[(0 : Int).toNat]?).bind fun x1 =>
  bif (decide (x1 ≥ v0)) then
   c8 v0 v1 v2 true v4 v5
  else
  bif (decide (1 < (v2.length : Int))) then
   (v2[(1 : Int).toNat]?).bind fun x2 =>
   bif (decide (x2 > 59)) then
    c8 v0 v1 v2 true v4 v5
   else
   bif (decide (2 < (v2.length : Int))) then
    (v2[(2 : Int).toNat]?).bind fun x3 =>
    c8 v0 v1 v2 (decide (x3 > 59)) v4 v5
   else
   none
  else
  none
 else
 none
theorem o6.run (Kn122 : QQ) (H125 : Code) (H979 : Code) (H31303 : Code) (v0 : Int) (v1 : BA) (v2 : List Int) (v3 v4 v5 : Int) : runC C (O N) N (.seq (c 488) (.seq (.block 1 (.block 2 (.seq (c 7824) (.cond (.tmp 37) (c 15650) (.seq (c 31302) H31303))))) H979)) 244 (s6 v0 v1 v2 v3 v4 v5) ((fun up => (onN (fun s => C.tidy 122 s ((onN Kn122 up) .normal)) (onN Kn122 up))) (blockK 0 (onN (fun s => C.tidy 30 s (fun s' => runC C (O N) N (.seq (.seq (c 124) H125) (c 63)) 31 s' K0)) K0))) = o6 N v0 v1 v2 v3 v4 v5 ((fun w0 w1 w2 w3 w4 w5 => runC C (O N) N H979 979 (s5 w0 w1 w2 w3 w4 w5) ((fun up => (onN (fun s => C.tidy 122 s ((onN Kn122 up) .normal)) (onN Kn122 up))) (blockK 0 (onN (fun s => C.tidy 30 s (fun s' => runC C (O N) N (.seq (.seq (c 124) H125) (c 63)) 31 s' K0)) K0))))) ((fun w0 w1 w2 w3 w4 w5 w6 => runC C (O N) N H31303 31303 (s7 w0 w1 w2 w3 w4 w5 w6) (blockK 2 (blockK 1 ((fun up => (onN (fun s => C.tidy 978 s (fun s' => runC C (O N) N H979 979 s' up)) up)) ((fun up => (onN (fun s => C.tidy 122 s ((onN Kn122 up) .normal)) (onN Kn122 up))) (blockK 0 (onN (fun s => C.tidy 30 s (fun s' => runC C (O N) N (.seq (.seq (c 124) H125) (c 63)) 31 s' K0)) K0)))))))) ((fun w0 w1 w2 w3 w4 w5 => runC C (O N) N H125 125 (s8 w0 w1 w2 w3 w4 w5) (onN (tk C (O N) N c 62 63 K0) K0))) := by kernel_rfl
def d6 (v0 : Int) (v1 : BA) (v2 : List Int) (v3 v4 v5 : Int) (c6 : t6) : Option R := o6 N v0 v1 v2 v3 v4 v5 (d5 N · · · · · · c6) (d7 N · · · · · · · c6) (d8 N · · · · · ·)
theorem c244_6 : (c 244) = (.seq (c 488) (.seq (.block 1 (.block 2 (.seq (c 7824) (.cond (.tmp 37) (c 15650) (.seq (c 31302) (c 31303)))))) (c 979))) := by kernel_rfl
theorem d6.run (Kn122 : QQ) (v0 : Int) (v1 : BA) (v2 : List Int) (v3 v4 v5 : Int) : runC C (O N) N (c 244) 244 (s6 v0 v1 v2 v3 v4 v5) (K244 N Kn122) = d6 N v0 v1 v2 v3 v4 v5 (Kn122 <| s6 · · · · · ·) := by
  rw [c244_6]; unfold d6; exact (o6.run N Kn122 (c 125) (c 979) (c 31303) v0 v1 v2 v3 v4 v5).trans (congr (congr (congr rfl (fx6 (d5.run N Kn122))) (fx7 (d7.run N Kn122))) (fx6 (d8.run N)))
def K122 : Ex → QQ := (blockK 0 (onN (tk C (O N) N c 30 31 K0) K0))
mutual
def l2 (N : Nat) : Nat → Int → BA → Int → Int → Int → Option R
  | 0, _, _, _, _, _ => none
  | n + 1, v0, v1, v2, v3, v4 => d2 N v0 v1 v2 v3 v4 (l2 N n · · · · ·) (l6 N n · · · · · ·)
def l6 (N : Nat) : Nat → Int → BA → (List Int) → Int → Int → Int → Option R
  | 0, _, _, _, _, _, _ => none
  | n + 1, v0, v1, v2, v3, v4, v5 => d6 N v0 v1 v2 v3 v4 v5 (l6 N n · · · · · ·)
end
theorem loop122 (N : Nat) : ∀ n, (∀ (v0 : Int) (v1 : BA) (v2 v3 v4 : Int), iter (loopF C (O N) N (c 244) 122) n (s2 v0 v1 v2 v3 v4) (K122 N) = l2 N n v0 v1 v2 v3 v4) ∧ (∀ (v0 : Int) (v1 : BA) (v2 : List Int) (v3 v4 v5 : Int), iter (loopF C (O N) N (c 244) 122) n (s6 v0 v1 v2 v3 v4 v5) (K122 N) = l6 N n v0 v1 v2 v3 v4 v5)
  | 0 => ⟨(by intros; rfl), (by intros; rfl)⟩
  | n + 1 => ⟨(fun v0 v1 v2 v3 v4 => (d2.run N (fun s => iter (loopF C (O N) N (c 244) 122) n s (K122 N)) v0 v1 v2 v3 v4).trans (show _ = d2 N v0 v1 v2 v3 v4 (l2 N n · · · · ·) (l6 N n · · · · · ·) from (congr (congr rfl (fx5 ((loop122 N n).1))) (fx6 ((loop122 N n).2))))), (fun v0 v1 v2 v3 v4 v5 => (d6.run N (fun s => iter (loopF C (O N) N (c 244) 122) n s (K122 N)) v0 v1 v2 v3 v4 v5).trans (show _ = d6 N v0 v1 v2 v3 v4 v5 (l6 N n · · · · · ·) from (congr rfl (fx6 ((loop122 N n).2)))))⟩
def K13 : Ex → QQ := (onN (tk C (O N) N c 6 7 K0) K0)
def o1 (N : Nat) (v0 : Int) (v1 : BA) (v2 : Bool) (v3 v4 : Int) (c2 : t2) : Option R :=
 bif v2 then
  some (0, 0, false)
 else
 c2 v0 v1 0 v3 v4
theorem o1.run (H244 : Code) (v0 : Int) (v1 : BA) (v2 : Bool) (v3 v4 : Int) : runC C (O N) N (c 13) 13 (s1 v0 v1 v2 v3 v4) (onN (fun s => C.tidy 6 s (fun s' => runC C (O N) N (.seq (c 14) (.seq (.seq (c 60) (.block 0 (.loop H244))) (c 31))) 7 s' K0)) K0) = o1 N v0 v1 v2 v3 v4 ((fun w0 w1 w2 w3 w4 => iter (loopF C (O N) N H244 122) N (s2 w0 w1 w2 w3 w4) (blockK 0 (onN (tk C (O N) N c 30 31 K0) K0)))) := by kernel_rfl
def d1 (v0 : Int) (v1 : BA) (v2 : Bool) (v3 v4 : Int) : Option R := o1 N v0 v1 v2 v3 v4 (l2 N N · · · · ·)
theorem d1.run (v0 : Int) (v1 : BA) (v2 : Bool) (v3 v4 : Int) : runC C (O N) N (c 13) 13 (s1 v0 v1 v2 v3 v4) (K13 N) = d1 N v0 v1 v2 v3 v4 := by
  unfold d1; exact (o1.run N (c 244) v0 v1 v2 v3 v4).trans (congr rfl (fx5 ((loop122 N N).1)))
def o0 (N : Nat) (a0 : Int) (a1 : BA) (c1 : t1) : Option R :=
 bif (decide ((a1.size : Int) < 8)) then
  c1 a0 a1 true 0 0
 else
 c1 a0 a1 (decide ((a1.size : Int) > 22)) 0 0
theorem o0.run (H13 : Code) (a0 : Int) (a1 : BA) : runC C (O N) N (.seq (c 2) (.seq (.seq (c 12) H13) (c 7))) 1 (st0 [.one (.i a0), .one (.str a1)] [] : St D0) K0 = o0 N a0 a1 ((fun w0 w1 w2 w3 w4 => runC C (O N) N H13 13 (s1 w0 w1 w2 w3 w4) (onN (tk C (O N) N c 6 7 K0) K0))) := by kernel_rfl
def g (a0 : Int) (a1 : BA) : Option R := o0 N a0 a1 (d1 N · · · · ·)
theorem c1_0 : (c 1) = (.seq (c 2) (.seq (.seq (c 12) (c 13)) (c 7))) := by kernel_rfl
theorem g.run (a0 : Int) (a1 : BA) : runC C (O N) N (c 1) 1 (st0 [.one (.i a0), .one (.str a1)] [] : St D0) K0 = g N a0 a1 := by
  rw [c1_0]; unfold g; exact (o0.run N (c 13) a0 a1).trans (congr rfl (fx5 (d1.run N)))
def ent : Ent Tryz.prog T0 := mkEntC C tabOk0 mixed0 121 [(false, [.any]), (false, [.any])] sig (E N) Tryz.func121 (by kernel_rfl) [(true, [.any, .any]), (false, [.any])] N (fun t => g N t.1 t.2) (fun _ => by kernel_rfl) (fun t => g.run N t.1 t.2)
end zq153
end Go.Proofs.YtdidghlibfopgaaGreatDoor.M
namespace Go.Proofs.YtdidghlibfopgaaGreatDoor.M
open Go Go.PM Go.Proofs.YtdidghlibfopgaaGreatDoor.P
set_option linter.unusedVariables false
set_option maxRecDepth 100000
open Go.RowKit Go.Lib
abbrev zq186.R : Type := ByteArray × ByteArray × Bool
abbrev zq186.sig : Sig := ⟨[(false, 1), (false, 1)], [], [.str, .str], [(false, 1), (false, 1), (false, 1)], [], [.str, .str, .bool]⟩
theorem zq186.asd {p : Prop} (h : p) : Aside p := h
noncomputable def zq186.g (N : Nat) (a0 : ByteArray) (a1 : ByteArray) : Option zq186.R := match a1.data.toList with
  | [c] => bif decide (a0.size < 4294967281) then some (if Lib.indexByte a0.data.toList c < 0 then (a0, ⟨#[]⟩, false) else (a0.extract 0 (Lib.indexByte a0.data.toList c).toNat, a0.extract ((Lib.indexByte a0.data.toList c).toNat + 1) a0.size, true)) else none
  | _ => none
set_option maxHeartbeats 2000000 in
theorem zq186.walk0 (a0 : ByteArray) (c : UInt8) (hs : a0.size < 4294967281) (r : ByteArray × ByteArray × Bool) (w : World) (h : (if Lib.indexByte a0.data.toList c < 0 then (a0, ⟨#[]⟩, false) else (a0.extract 0 (Lib.indexByte a0.data.toList c).toNat, a0.extract ((Lib.indexByte a0.data.toList c).toNat + 1) a0.size, true)) = r) :
    Calls Tryz.prog 201 #[.string a0, .string ⟨#[c]⟩] w fun e w' => e = .returned (.tuple #[.string r.1, .string r.2.1, .bool r.2.2]) ∧ Below w.heap.size w w' := by
  have hge := Lib.indexByte_ge a0.data.toList c
  by_cases hn : Lib.indexByte a0.data.toList c < 0
  · rw [if_pos hn] at h
    subst h
    have hix : Lib.indexByte a0.data.toList c = -1 := by omega
    have HI := zq186.asd (fun W => (by have := Tryz.stringslite_Index_one a0 c W; rw [hix] at this; exact this : Calls Tryz.prog 90 #[.string a0, .string ⟨#[c]⟩] W fun e w' => e = .returned (.int .i64 (-1)) ∧ w' = W))
    clear hix hn hge
    go_enter Tryz.func201, Tryz.ntmps201
    go_wp2_with (go_at_call 90; refine (HI.out _).mono ?_; rintro e w' ⟨rfl, rfl⟩)
    go_ret3
    exact ⟨rfl, Below.refl _ _⟩
  · rw [if_neg hn] at h
    subst h
    obtain ⟨i, hi⟩ : ∃ i : Nat, Lib.indexByte a0.data.toList c = i := ⟨(Lib.indexByte a0.data.toList c).toNat, by omega⟩
    have hlt : i < a0.size := by
      have h1 := (Lib.indexByte_some hi).1
      rcases Nat.lt_or_ge i a0.data.toList.length with z | z
      · rw [Array.length_toList] at z; exact z
      · rw [List.getElem?_eq_none z] at h1; cases h1
    have HI := zq186.asd (fun W => (by have := Tryz.stringslite_Index_one a0 c W; rw [hi] at this; exact this : Calls Tryz.prog 90 #[.string a0, .string ⟨#[c]⟩] W fun e w' => e = .returned (.int .i64 (i : Int)) ∧ w' = W))
    rw [hi, Int.toNat_natCast]
    clear hi hn hge
    have c1 : (0 : Int) ≤ ↑i := by omega
    have c2 : (↑i : Int) ≤ ↑a0.size := by omega
    have c3 : (0 : Int) ≤ ↑i + 1 := by omega
    have c4 : (↑i + 1 : Int) ≤ ↑a0.size := by omega
    go_enter Tryz.func201, Tryz.ntmps201
    go_wp2_with (go_at_call 90; refine (HI.out _).mono ?_; rintro e w' ⟨rfl, rfl⟩)
    go_region
    all_goals (try go_wp2)
    all_goals go_ret3
    all_goals exact ⟨rfl, by repeat (first | exact Below.refl _ _ | apply Below.drew)⟩
theorem zq186.walk (a0 : ByteArray) (c : UInt8) (hs : a0.size < 4294967281) (r : ByteArray × ByteArray × Bool) (w : World) (h : (if Lib.indexByte a0.data.toList c < 0 then (a0, ⟨#[]⟩, false) else (a0.extract 0 (Lib.indexByte a0.data.toList c).toNat, a0.extract ((Lib.indexByte a0.data.toList c).toNat + 1) a0.size, true)) = r) :
    Calls Tryz.prog 152 #[.string a0, .string ⟨#[c]⟩] w fun e w' => e = .returned (.tuple #[.string r.1, .string r.2.1, .bool r.2.2]) ∧ Below w.heap.size w w' := by
  have HC := zq186.asd (zq186.walk0 a0 c hs r w h)
  clear h
  go_enter Tryz.func152, Tryz.ntmps152
  go_wp2_with (go_at_call 201; refine HC.out.mono ?_; rintro e w' ⟨rfl, hB⟩; have HB := zq186.asd hB; clear hB)
  go_ret3
  exact ⟨rfl, HB.out⟩
theorem zq186.good (N : Nat) (a0 : ByteArray) (a1 : ByteArray) (r : zq186.R) (h : zq186.g N a0 a1 = some r) : Go.PM.Good Tryz.prog T0 152 [.one (.str a0), .one (.str a1)] [] (zq186.sig.ret r) (zq186.sig.bs r) := by
  obtain ⟨⟨l⟩⟩ := a1
  match l, h with
  | [ch], h =>
    obtain ⟨hc, h⟩ := bif_some (show (bif decide (a0.size < 4294967281) then some (if Lib.indexByte a0.data.toList ch < 0 then (a0, ⟨#[]⟩, false) else (a0.extract 0 (Lib.indexByte a0.data.toList ch).toNat, a0.extract ((Lib.indexByte a0.data.toList ch).toNat + 1) a0.size, true)) else none) = some r from h)
    have hc := of_decide_eq_true hc
    refine good_still (T := T0) ⟨_, Tryz.func152, by kernel_rfl, rfl⟩ [.one (.str a0), .one (.str ⟨#[ch]⟩)] (ret := zq186.sig.ret r) rfl rfl ?_
    intro w C blk vargs hsz hrep hag
    have ev : vargs = #[.string a0, .string ⟨#[ch]⟩] := (args2 hsz).trans (by rw [rep_str (hrep 0), rep_str (hrep 1)])
    rw [ev]
    refine (zq186.walk a0 ch hc r w (Option.some.inj h)).mono ?_
    rintro e w' ⟨rfl, hB⟩
    exact ⟨_, rfl, ⟨_, rfl, .cons (crep1 (ERep.str _)) (.cons (crep1 (ERep.str _)) (.cons (crep1 (ERep.bool _)) .nil))⟩, hB⟩
noncomputable def zq186.ent (N : Nat) : Ent Tryz.prog T0 := mkEnt 152 [(false, [.any]), (false, [.any])] zq186.sig (fun t => zq186.g N t.1 t.2) (fun t r h => zq186.good N t.1 t.2 r h)
end Go.Proofs.YtdidghlibfopgaaGreatDoor.M
namespace Go.Proofs.YtdidghlibfopgaaGreatDoor.M
open Go Go.PM Go.Proofs.YtdidghlibfopgaaGreatDoor.P
set_option linter.unusedVariables false
set_option maxRecDepth 100000
namespace zq28
variable (N : Nat)
abbrev R : Type := Int × Int × Bool
abbrev QQ : Type := St D0 → Option R
abbrev sig : Sig := ⟨[(false, 1), (false, 1)], [], [.i, .str], [(true, 2), (false, 1)], [], [.i, .i, .bool]⟩
noncomputable def C : Cfg D0 := ⟨Tryz.prog, T0, 713623846363364534323867243649489114482210803, 0, 152, 0, [(12, [0, 1, 4, 31], [4]), (30, [0, 1, 4, 6, 7], [4]), (506, [0, 1, 4, 6, 7, 16, 74, 75, 76], [4]), (508, [0, 1, 4, 6, 7, 16, 113], [4]), (4090, [4, 21, 149], [4, 21]), (7900, [0, 1, 4, 12, 14, 63], [4])], 279136710100675558372219274963812913734746112, false, []⟩
def E : List (Ent Tryz.prog T0) := [zq58.ent N, zq186.ent N, zq69.ent N, zq183.ent N, zq81.ent N, zq67.ent N, zq37.ent N]
def O : Orc D0 R := orcOf (E N)
def K0 : Ex → QQ := exitK C Tryz.f95.results.toList [(true, [.any, .any]), (false, [.any])] (decOut sig)
noncomputable def c (p : Nat) : Code := codeAt (Tryz.f95.body.getD .skip) (pathN p)
abbrev t1 : Type := Int → BA → Bool → Int → Int → Option R
abbrev t2 : Type := Int → BA → Int → Int → Bool → Int → Int → Option R
abbrev t3 : Type := Int → BA → Int → Int → Int → Int → Option R
abbrev t4 : Type := Int → BA → Int → Int → (List Int) → (List BA) → Int → Int → Int → Int → Option R
abbrev t5 : Type := Int → BA → Int → Int → (List Int) → Bool → Int → Int → Option R
abbrev t6 : Type := Bool → Int → Int → Int → Int → Option R
def s1 (v0 : Int) (v1 : BA) (v2 : Bool) (v3 v4 : Int) : St D0 := mkSt [(0, .one (.i v0)), (1, .one (.str v1)), (4, .one (.ptr 4 0)), (31, .one (.bool v2))] [(4, some (25, [.i v3, .i v4]))]
def s2 (v0 : Int) (v1 : BA) (v2 v3 : Int) (v4 : Bool) (v5 v6 : Int) : St D0 := mkSt [(0, .one (.i v0)), (1, .one (.str v1)), (4, .one (.ptr 4 0)), (12, .one (.i v2)), (14, .one (.i v3)), (63, .one (.bool v4))] [(4, some (25, [.i v5, .i v6]))]
def s3 (v0 : Int) (v1 : BA) (v2 v3 v4 v5 : Int) : St D0 := mkSt [(0, .one (.i v0)), (1, .one (.str v1)), (4, .one (.ptr 4 0)), (6, .one (.i v2)), (7, .one (.i v3))] [(4, some (25, [.i v4, .i v5]))]
def s4 (v0 : Int) (v1 : BA) (v2 v3 : Int) (v4 : List Int) (v5 : List BA) (v6 v7 v8 v9 : Int) : St D0 := mkSt [(0, .one (.i v0)), (1, .one (.str v1)), (4, .one (.ptr 4 0)), (6, .one (.i v2)), (7, .one (.i v3)), (16, .one (.sl true 3 v4)), (74, .one (.sl true 9 v5)), (75, .one (.i v6)), (76, .one (.i v7))] [(4, some (25, [.i v8, .i v9]))]
def s5 (v0 : Int) (v1 : BA) (v2 v3 : Int) (v4 : List Int) (v5 : Bool) (v6 v7 : Int) : St D0 := mkSt [(0, .one (.i v0)), (1, .one (.str v1)), (4, .one (.ptr 4 0)), (6, .one (.i v2)), (7, .one (.i v3)), (16, .one (.sl true 3 v4)), (113, .one (.bool v5))] [(4, some (25, [.i v6, .i v7]))]
def s6 (v0 : Bool) (v1 v2 v3 v4 : Int) : St D0 := mkSt [(4, .one (.ptr 4 0)), (21, .one (.ptr 21 0)), (149, .one (.bool v0))] [(4, some (25, [.i v1, .i v2])), (21, some (25, [.i v3, .i v4]))]
def K4091 : Ex → QQ := (onN (tk C (O N) N c 1022 1023 K0) K0)
def o6 (N : Nat) (v0 : Bool) (v1 v2 v3 v4 : Int) : Option R :=
 bif v0 then
  some (0, 0, false)
 else
 some (v3, v4, true)
def d6 (v0 : Bool) (v1 v2 v3 v4 : Int) : Option R := o6 N v0 v1 v2 v3 v4
theorem d6.run (v0 : Bool) (v1 v2 v3 v4 : Int) : runC C (O N) N (c 4091) 4091 (s6 v0 v1 v2 v3 v4) (K4091 N) = d6 N v0 v1 v2 v3 v4 := by kernel_rfl
def K509 : Ex → QQ := (onN (tk C (O N) N c 254 255 K0) K0)
def o5 (v0 : Int) (v1 : BA) (v2 v3 : Int) (v4 : List Int) (v5 : Bool) (v6 v7 : Int) (c6 : t6) : Option R :=
 bif v5 then
  some (0, 0, false)
 else
 bif (decide (0 < (v4.length : Int))) then
  (v4[(0 : Int).toNat]?).bind fun x1 =>
  bif (decide (1 < (v4.length : Int))) then
   (v4[(1 : Int).toNat]?).bind fun x2 =>
   bif (decide (2 < (v4.length : Int))) then
    (v4[(2 : Int).toNat]?).bind fun x3 =>
    (zq67.g N (w64 ((w64 ((w64 ((w64 ((w64 (x1 * 3600)) + (w64 (x2 * 60)))) + x3)) * v3)) + v2)) (w64 ((w64 (v0 * 3600)) * v3))).bind fun r4 =>
    (zq37.g N v0 r4.1 r4.2).bind fun r5 =>
    bif (!r5.2) then
     c6 true v6 v7 r4.1 r4.2
    else
    c6 (!(r5.1.toList == v1.toList)) v6 v7 r4.1 r4.2
   else
   none
  else
  none
 else
 none
theorem o5.run (H4091 : Code) (v0 : Int) (v1 : BA) (v2 v3 : Int) (v4 : List Int) (v5 : Bool) (v6 v7 : Int) : runC C (O N) N (c 509) 509 (s5 v0 v1 v2 v3 v4 v5 v6 v7) (onN (fun s => C.tidy 254 s (fun s' => runC C (O N) N (.seq (c 510) (.seq (.seq (c 2044) (.seq (c 4090) H4091)) (c 1023))) 255 s' K0)) K0) = o5 N v0 v1 v2 v3 v4 v5 v6 v7 ((fun w0 w1 w2 w3 w4 => runC C (O N) N H4091 4091 (s6 w0 w1 w2 w3 w4) (onN (tk C (O N) N c 1022 1023 K0) K0))) := by kernel_rfl
def d5 (v0 : Int) (v1 : BA) (v2 v3 : Int) (v4 : List Int) (v5 : Bool) (v6 v7 : Int) : Option R := o5 N v0 v1 v2 v3 v4 v5 v6 v7 (d6 N · · · · ·)
theorem d5.run (v0 : Int) (v1 : BA) (v2 v3 : Int) (v4 : List Int) (v5 : Bool) (v6 v7 : Int) : runC C (O N) N (c 509) 509 (s5 v0 v1 v2 v3 v4 v5 v6 v7) (K509 N) = d5 N v0 v1 v2 v3 v4 v5 v6 v7 := by
  unfold d5; exact (o5.run N (c 4091) v0 v1 v2 v3 v4 v5 v6 v7).trans (congr rfl (fx5 (d6.run N)))
def K1012 (Kn506 : QQ) : Ex → QQ := ((fun up => (onN (fun s => C.tidy 506 s ((onN Kn506 up) .normal)) (onN Kn506 up))) (blockK 0 (onN (tk C (O N) N c 126 127 K0) K0)))
def o4 (v0 : Int) (v1 : BA) (v2 v3 : Int) (v4 : List Int) (v5 : List BA) (v6 v7 v8 v9 : Int) (c4 : t4) (c5 : t5) : Option R :=
 bif (decide (v7 < v6)) then
  bif (decide (0 ≤ v7)) then
   bif (decide (v7 < (v5.length : Int))) then
    (v5[(v7 : Int).toNat]?).bind fun x1 =>
    (zq183.g N x1).bind fun r2 =>
    bif (!r2.2) then
     some (0, 0, false)
    else
    bif (Nat.blt (v4.length + ([r2.1] : List Int).length) 17592186044416) then
     c4 v0 v1 v2 v3 (v4 ++ ([r2.1] : List Int)) v5 v6 (w64 (v7 + 1)) v8 v9
    else
    none
   else
   none
  else
  none
 else
 bif (decide (0 < (v4.length : Int))) then
  (v4[(0 : Int).toNat]?).bind fun x3 =>
  (zq81.g N x3 0 (w64 (v0 - 1))).bind fun r4 =>
  bif (!r4) then
   c5 v0 v1 v2 v3 v4 true v8 v9
  else
  bif (decide (1 < (v4.length : Int))) then
   (v4[(1 : Int).toNat]?).bind fun x5 =>
   (zq81.g N x5 0 59).bind fun r6 =>
   bif (!r6) then
    c5 v0 v1 v2 v3 v4 true v8 v9
   else
   bif (decide (2 < (v4.length : Int))) then
    (v4[(2 : Int).toNat]?).bind fun x7 =>
    (zq81.g N x7 0 59).bind fun r8 =>
    c5 v0 v1 v2 v3 v4 (!r8) v8 v9
   else
   none
  else
  none
 else
 none
theorem o4.run (Kn506 : QQ) (H509 : Code) (v0 : Int) (v1 : BA) (v2 v3 : Int) (v4 : List Int) (v5 : List BA) (v6 v7 v8 v9 : Int) : runC C (O N) N (c 1012) 1012 (s4 v0 v1 v2 v3 v4 v5 v6 v7 v8 v9) ((fun up => (onN (fun s => C.tidy 506 s ((onN Kn506 up) .normal)) (onN Kn506 up))) (blockK 0 (onN (fun s => C.tidy 126 s (fun s' => runC C (O N) N (.seq (.seq (c 508) H509) (c 255)) 127 s' K0)) K0))) = o4 N v0 v1 v2 v3 v4 v5 v6 v7 v8 v9 (Kn506 <| s4 · · · · · · · · · ·) ((fun w0 w1 w2 w3 w4 w5 w6 w7 => runC C (O N) N H509 509 (s5 w0 w1 w2 w3 w4 w5 w6 w7) (onN (tk C (O N) N c 254 255 K0) K0))) := by kernel_rfl
def d4 (v0 : Int) (v1 : BA) (v2 v3 : Int) (v4 : List Int) (v5 : List BA) (v6 v7 v8 v9 : Int) (c4 : t4) : Option R := o4 N v0 v1 v2 v3 v4 v5 v6 v7 v8 v9 c4 (d5 N · · · · · · · ·)
theorem d4.run (Kn506 : QQ) (v0 : Int) (v1 : BA) (v2 v3 : Int) (v4 : List Int) (v5 : List BA) (v6 v7 v8 v9 : Int) : runC C (O N) N (c 1012) 1012 (s4 v0 v1 v2 v3 v4 v5 v6 v7 v8 v9) (K1012 N Kn506) = d4 N v0 v1 v2 v3 v4 v5 v6 v7 v8 v9 (Kn506 <| s4 · · · · · · · · · ·) := by
  unfold d4; exact (o4.run N Kn506 (c 509) v0 v1 v2 v3 v4 v5 v6 v7 v8 v9).trans (congr (congr rfl rfl) (fx8 (d5.run N)))
def K506 : Ex → QQ := (blockK 0 (onN (tk C (O N) N c 126 127 K0) K0))
def l4 (N : Nat) : Nat → Int → BA → Int → Int → (List Int) → (List BA) → Int → Int → Int → Int → Option R
  | 0, _, _, _, _, _, _, _, _, _, _ => none
  | n + 1, v0, v1, v2, v3, v4, v5, v6, v7, v8, v9 => d4 N v0 v1 v2 v3 v4 v5 v6 v7 v8 v9 (l4 N n · · · · · · · · · ·)
theorem loop506 (N : Nat) : ∀ n, (∀ (v0 : Int) (v1 : BA) (v2 v3 : Int) (v4 : List Int) (v5 : List BA) (v6 v7 v8 v9 : Int), iter (loopF C (O N) N (c 1012) 506) n (s4 v0 v1 v2 v3 v4 v5 v6 v7 v8 v9) (K506 N) = l4 N n v0 v1 v2 v3 v4 v5 v6 v7 v8 v9)
  | 0 => (by intros; rfl)
  | n + 1 => (fun v0 v1 v2 v3 v4 v5 v6 v7 v8 v9 => (d4.run N (fun s => iter (loopF C (O N) N (c 1012) 506) n s (K506 N)) v0 v1 v2 v3 v4 v5 v6 v7 v8 v9).trans (show _ = d4 N v0 v1 v2 v3 v4 v5 v6 v7 v8 v9 (l4 N n · · · · · · · · · ·) from (congr rfl (fx10 ((loop506 N n))))))
def K31 (N : Nat) : Ex → QQ := K0
def o3 (N : Nat) (v0 : Int) (v1 : BA) (v2 v3 v4 v5 : Int) (c4 : t4) : Option R :=
 bif (decide (2 ≤ (v1.size : Int))) then
  bif (decide (5 ≤ (v1.size : Int))) then
   bif (decide (8 ≤ (v1.size : Int))) then
    c4 v0 v1 v2 v3 ([] : List Int) ([(v1.extract (0 : Int).toNat (2 : Int).toNat), (v1.extract (3 : Int).toNat (5 : Int).toNat), (v1.extract (6 : Int).toNat (8 : Int).toNat)] : List BA) (([(v1.extract (0 : Int).toNat (2 : Int).toNat), (v1.extract (3 : Int).toNat (5 : Int).toNat), (v1.extract (6 : Int).toNat (8 : Int).toNat)] : List BA).length : Int) 0 v4 v5
   else
   none
  else
  none
 else
 none
theorem o3.run (H1012 : Code) (v0 : Int) (v1 : BA) (v2 v3 v4 v5 : Int) : runC C (O N) N (.seq (c 62) (.seq (.seq (c 252) (.block 0 (.loop H1012))) (c 127))) 31 (s3 v0 v1 v2 v3 v4 v5) K0 = o3 N v0 v1 v2 v3 v4 v5 ((fun w0 w1 w2 w3 w4 w5 w6 w7 w8 w9 => iter (loopF C (O N) N H1012 506) N (s4 w0 w1 w2 w3 w4 w5 w6 w7 w8 w9) (blockK 0 (onN (tk C (O N) N c 126 127 K0) K0)))) := by kernel_rfl
def d3 (v0 : Int) (v1 : BA) (v2 v3 v4 v5 : Int) : Option R := o3 N v0 v1 v2 v3 v4 v5 (l4 N N · · · · · · · · · ·)
theorem c31_3 : (c 31) = (.seq (c 62) (.seq (.seq (c 252) (.block 0 (.loop (c 1012)))) (c 127))) := by kernel_rfl
theorem d3.run (v0 : Int) (v1 : BA) (v2 v3 v4 v5 : Int) : runC C (O N) N (c 31) 31 (s3 v0 v1 v2 v3 v4 v5) (K31 N) = d3 N v0 v1 v2 v3 v4 v5 := by
  rw [c31_3]; unfold d3; exact (o3.run N (c 1012) v0 v1 v2 v3 v4 v5).trans (congr rfl (fx10 ((loop506 N N))))
def B15 : QQ := fun s' => runC C (O N) N (c 31) 31 s' (K31 N)
def K7901 : Ex → QQ := ((fun up => (onN (tk C (O N) N c 3950 3951 up) up)) (onN (fun s => C.tidy 30 s (B15 N)) K0))
def o2 (N : Nat) (v0 : Int) (v1 : BA) (v2 v3 : Int) (v4 : Bool) (v5 v6 : Int) (c3 : t3) : Option R :=
 bif v4 then
  some (0, 0, false)
 else
 c3 v0 v1 v2 v3 v5 v6
theorem o2.run (Kb15 : QQ) (v0 : Int) (v1 : BA) (v2 v3 : Int) (v4 : Bool) (v5 v6 : Int) : runC C (O N) N (c 7901) 7901 (s2 v0 v1 v2 v3 v4 v5 v6) (onN (fun s => C.tidy 3950 s (fun s' => runC C (O N) N (c 3951) 3951 s' (onN (fun s => C.tidy 30 s Kb15) K0))) (onN (fun s => C.tidy 30 s Kb15) K0)) = o2 N v0 v1 v2 v3 v4 v5 v6 (Kb15 <| s3 · · · · · ·) := by kernel_rfl
def d2 (v0 : Int) (v1 : BA) (v2 v3 : Int) (v4 : Bool) (v5 v6 : Int) : Option R := o2 N v0 v1 v2 v3 v4 v5 v6 (d3 N · · · · · ·)
theorem d2.run (v0 : Int) (v1 : BA) (v2 v3 : Int) (v4 : Bool) (v5 v6 : Int) : runC C (O N) N (c 7901) 7901 (s2 v0 v1 v2 v3 v4 v5 v6) (K7901 N) = d2 N v0 v1 v2 v3 v4 v5 v6 := by
  unfold d2; exact (o2.run N (B15 N) v0 v1 v2 v3 v4 v5 v6).trans (congr rfl (fx6 (d3.run N)))
def K13 : Ex → QQ := (onN (tk C (O N) N c 6 7 K0) K0)
def o1 (v0 : Int) (v1 : BA) (v2 : Bool) (v3 v4 : Int) (c2 : t2) (c3 : t3) : Option R :=
 bif v2 then
  some (0, 0, false)
 else
 bif (decide (0 ≤ (v1.size : Int))) then
  bif (decide ((v1.size : Int) ≤ (v1.size : Int))) then
   bif (decide (8 ≤ (v1.size : Int))) then
    bif (!((v1.extract (8 : Int).toNat ((v1.size : Int) : Int).toNat).toList == (⟨#[]⟩ : BA).toList)) then
     bif (decide (0 ≤ ((v1.extract (8 : Int).toNat ((v1.size : Int) : Int).toNat).size : Int))) then
      bif (decide (((v1.extract (8 : Int).toNat ((v1.size : Int) : Int).toNat).size : Int) ≤ ((v1.extract (8 : Int).toNat ((v1.size : Int) : Int).toNat).size : Int))) then
       bif (decide (1 ≤ ((v1.extract (8 : Int).toNat ((v1.size : Int) : Int).toNat).size : Int))) then
        (zq186.g N ((v1.extract (8 : Int).toNat ((v1.size : Int) : Int).toNat).extract (1 : Int).toNat (((v1.extract (8 : Int).toNat ((v1.size : Int) : Int).toNat).size : Int) : Int).toNat) (⟨#[47]⟩ : BA)).bind fun r1 =>
        (zq69.g N r1.1 1000000).bind fun r2 =>
        (zq69.g N r1.2.1 1000000).bind fun r3 =>
        bif (!r2.2) then
         c2 v0 v1 r2.1 r3.1 true v3 v4
        else
        bif (!r3.2) then
         c2 v0 v1 r2.1 r3.1 true v3 v4
        else
        c2 v0 v1 r2.1 r3.1 (r3.1 == 0) v3 v4
       else
       none
      else
      none
     else
     none
    else
    c3 v0 v1 0 1 v3 v4
   else
   none
  else
  none
 else
 none
theorem o1.run (H31 : Code) (H7901 : Code) (v0 : Int) (v1 : BA) (v2 : Bool) (v3 v4 : Int) : runC C (O N) N (c 13) 13 (s1 v0 v1 v2 v3 v4) (onN (fun s => C.tidy 6 s (fun s' => runC C (O N) N (.seq (c 14) (.seq (.seq (c 60) (.seq (c 122) (.cond (.tmp 36) (.seq (c 492) (.seq (c 986) (.seq (c 1974) (.seq (.seq (c 7900) H7901) (c 3951))))) (c 247)))) H31)) 7 s' K0)) K0) = o1 N v0 v1 v2 v3 v4 ((fun w0 w1 w2 w3 w4 w5 w6 => runC C (O N) N H7901 7901 (s2 w0 w1 w2 w3 w4 w5 w6) ((fun up => (onN (tk C (O N) N c 3950 3951 up) up)) (onN (fun s => C.tidy 30 s (fun s' => runC C (O N) N H31 31 s' K0)) K0)))) ((fun w0 w1 w2 w3 w4 w5 => runC C (O N) N H31 31 (s3 w0 w1 w2 w3 w4 w5) K0)) := by kernel_rfl
def d1 (v0 : Int) (v1 : BA) (v2 : Bool) (v3 v4 : Int) : Option R := o1 N v0 v1 v2 v3 v4 (d2 N · · · · · · ·) (d3 N · · · · · ·)
theorem d1.run (v0 : Int) (v1 : BA) (v2 : Bool) (v3 v4 : Int) : runC C (O N) N (c 13) 13 (s1 v0 v1 v2 v3 v4) (K13 N) = d1 N v0 v1 v2 v3 v4 := by
  unfold d1; exact (o1.run N (c 31) (c 7901) v0 v1 v2 v3 v4).trans (congr (congr rfl (fx7 (d2.run N))) (fx6 (d3.run N)))
def o0 (a0 : Int) (a1 : BA) (c1 : t1) : Option R :=
 (zq58.g N a0).bind fun r1 =>
 bif (!r1) then
  c1 a0 a1 true 0 0
 else
 c1 a0 a1 (decide ((a1.size : Int) < 8)) 0 0
theorem o0.run (H13 : Code) (a0 : Int) (a1 : BA) : runC C (O N) N (.seq (c 2) (.seq (.seq (c 12) H13) (c 7))) 1 (st0 [.one (.i a0), .one (.str a1)] [] : St D0) K0 = o0 N a0 a1 ((fun w0 w1 w2 w3 w4 => runC C (O N) N H13 13 (s1 w0 w1 w2 w3 w4) (onN (tk C (O N) N c 6 7 K0) K0))) := by kernel_rfl
def g (a0 : Int) (a1 : BA) : Option R := o0 N a0 a1 (d1 N · · · · ·)
theorem c1_0 : (c 1) = (.seq (c 2) (.seq (.seq (c 12) (c 13)) (c 7))) := by kernel_rfl
theorem g.run (a0 : Int) (a1 : BA) : runC C (O N) N (c 1) 1 (st0 [.one (.i a0), .one (.str a1)] [] : St D0) K0 = g N a0 a1 := by
  rw [c1_0]; unfold g; exact (o0.run N (c 13) a0 a1).trans (congr rfl (fx5 (d1.run N)))
def ent : Ent Tryz.prog T0 := mkEntC C tabOk0 mixed0 95 [(false, [.any]), (false, [.any])] sig (E N) Tryz.func95 (by kernel_rfl) [(true, [.any, .any]), (false, [.any])] N (fun t => g N t.1 t.2) (fun _ => by kernel_rfl) (fun t => g.run N t.1 t.2)
end zq28
namespace zq27
variable (N : Nat)
abbrev R : Type := Int × Int × Bool
abbrev sig : Sig := ⟨[(false, 1)], [], [.str], [(true, 2), (false, 1)], [], [.i, .i, .bool]⟩
noncomputable def C : Cfg D0 := ⟨Tryz.prog, T0, 2199023259581, 0, 44, 0, [(252, [2, 11, 41], [2, 11])], 19344662528, false, []⟩
def E : List (Ent Tryz.prog T0) := [zq186.ent N, zq69.ent N, zq19.ent N]
def O : Orc D0 R := orcOf (E N)
def K0 : Ex → St D0 → Option R := exitK C Tryz.f93.results.toList [(true, [.any, .any]), (false, [.any])] (decOut sig)
noncomputable def c (p : Nat) : Code := codeAt (Tryz.f93.body.getD .skip) (pathN p)
abbrev t1 : Type := Bool → Int → Int → Int → Int → Option R
def s1 (v0 : Bool) (v1 v2 v3 v4 : Int) : St D0 := mkSt [(2, .one (.ptr 2 0)), (11, .one (.ptr 11 0)), (41, .one (.bool v0))] [(2, some (95, [.i v1, .i v2])), (11, some (95, [.i v3, .i v4]))]
def K253 : Ex → St D0 → Option R := (onN (tk C (O N) N c 126 127 K0) K0)
def o1 (N : Nat) (v0 : Bool) (v1 v2 v3 v4 : Int) : Option R :=
 bif v0 then
  some (0, 0, false)
 else
 some (v3, v4, true)
def d1 (v0 : Bool) (v1 v2 v3 v4 : Int) : Option R := o1 N v0 v1 v2 v3 v4
theorem d1.run (v0 : Bool) (v1 v2 v3 v4 : Int) : runC C (O N) N (c 253) 253 (s1 v0 v1 v2 v3 v4) (K253 N) = d1 N v0 v1 v2 v3 v4 := by kernel_rfl
def o0 (a0 : BA) (c1 : t1) : Option R :=
 (zq186.g N a0 (⟨#[47]⟩ : BA)).bind fun r1 =>
 (zq69.g N r1.1 1000000).bind fun r2 =>
 (zq69.g N r1.2.1 10000).bind fun r3 =>
 bif (!r2.2) then
  c1 true 0 0 r2.1 r3.1
 else
 bif (!r3.2) then
  c1 true 0 0 r2.1 r3.1
 else
 (zq19.g N r2.1 r3.1).bind fun r4 =>
 c1 (!r4) 0 0 r2.1 r3.1
theorem o0.run (H253 : Code) (a0 : BA) : runC C (O N) N (.seq (c 2) (.seq (c 6) (.seq (c 14) (.seq (c 30) (.seq (c 62) (.seq (.seq (c 252) H253) (c 127))))))) 1 (st0 [.one (.str a0)] [] : St D0) K0 = o0 N a0 ((fun w0 w1 w2 w3 w4 => runC C (O N) N H253 253 (s1 w0 w1 w2 w3 w4) (onN (tk C (O N) N c 126 127 K0) K0))) := by kernel_rfl
def g (a0 : BA) : Option R := o0 N a0 (d1 N · · · · ·)
theorem c1_0 : (c 1) = (.seq (c 2) (.seq (c 6) (.seq (c 14) (.seq (c 30) (.seq (c 62) (.seq (.seq (c 252) (c 253)) (c 127))))))) := by kernel_rfl
theorem g.run (a0 : BA) : runC C (O N) N (c 1) 1 (st0 [.one (.str a0)] [] : St D0) K0 = g N a0 := by
  rw [c1_0]; unfold g; exact (o0.run N (c 253) a0).trans (congr rfl (fx5 (d1.run N)))
def ent : Ent Tryz.prog T0 := mkEntC C tabOk0 mixed0 93 [(false, [.any])] sig (E N) Tryz.func93 (by kernel_rfl) [(true, [.any, .any]), (false, [.any])] N (fun t => g N t) (fun _ => by kernel_rfl) (fun t => g.run N t)
end zq27
namespace zq120
variable (N : Nat)
abbrev R : Type := Int × Int × Bool
abbrev QQ : Type := St D0 → Option R
abbrev sig : Sig := ⟨[(false, 1)], [], [.str], [(true, 2), (false, 1)], [], [.i, .i, .bool]⟩
noncomputable def C : Cfg D0 := ⟨Tryz.prog, T0, 9126838333, 0, 36, 0, [(28, [2, 4, 15], [2]), (62, [2, 5], [2, 5])], 69341504, false, []⟩
def E : List (Ent Tryz.prog T0) := [zq178.ent N, zq176.ent N, zq159.ent N]
def O : Orc D0 R := orcOf (E N)
def K0 : Ex → QQ := exitK C Tryz.f120.results.toList [(true, [.any, .any]), (false, [.any])] (decOut sig)
noncomputable def c (p : Nat) : Code := codeAt (Tryz.f120.body.getD .skip) (pathN p)
abbrev t1 : Type := (List BA) → Bool → Int → Int → Option R
abbrev t2 : Type := Int → Int → Int → Int → Option R
def s1 (v0 : List BA) (v1 : Bool) (v2 v3 : Int) : St D0 := mkSt [(2, .one (.ptr 2 0)), (4, .one (.sl true 9 v0)), (15, .one (.bool v1))] [(2, some (95, [.i v2, .i v3]))]
def s2 (v0 v1 v2 v3 : Int) : St D0 := mkSt [(2, .one (.ptr 2 0)), (5, .one (.ptr 5 0))] [(2, some (95, [.i v0, .i v1])), (5, some (95, [.i v2, .i v3]))]
def K63 (N : Nat) : Ex → QQ := K0
def o2 (v0 v1 v2 v3 : Int) : Option R :=
 (zq159.g N v2 v3).bind fun r1 =>
 bif (!r1) then
  some (0, 0, false)
 else
 some (v2, v3, true)
def d2 (v0 v1 v2 v3 : Int) : Option R := o2 N v0 v1 v2 v3
theorem d2.run (v0 v1 v2 v3 : Int) : runC C (O N) N (c 63) 63 (s2 v0 v1 v2 v3) (K63 N) = d2 N v0 v1 v2 v3 := by kernel_rfl
def K29 : Ex → QQ := (onN (tk C (O N) N c 14 15 K0) K0)
def o1 (v0 : List BA) (v1 : Bool) (v2 v3 : Int) (c2 : t2) : Option R :=
 bif v1 then
  some (0, 0, false)
 else
 bif (decide (0 < (v0.length : Int))) then
  (v0[(0 : Int).toNat]?).bind fun x1 =>
  (zq176.g N x1).bind fun r2 =>
  bif (decide (1 < (v0.length : Int))) then
   (v0[(1 : Int).toNat]?).bind fun x3 =>
   (zq176.g N x3).bind fun r4 =>
   bif (decide (0 < (v0.length : Int))) then
    (v0[(0 : Int).toNat]?).bind fun x5 =>
    bif (x5.toList == (⟨#[49, 48, 48, 48, 48, 48, 48]⟩ : BA).toList) then
     c2 v2 v3 1000000 r4
    else
    c2 v2 v3 r2 r4
   else
   none
  else
  none
 else
 none
theorem o1.run (H63 : Code) (v0 : List BA) (v1 : Bool) (v2 v3 : Int) : runC C (O N) N (c 29) 29 (s1 v0 v1 v2 v3) (onN (fun s => C.tidy 14 s (fun s' => runC C (O N) N (.seq (c 30) (.seq (c 62) H63)) 15 s' K0)) K0) = o1 N v0 v1 v2 v3 ((fun w0 w1 w2 w3 => runC C (O N) N H63 63 (s2 w0 w1 w2 w3) K0)) := by kernel_rfl
def B31 : QQ := fun s' => runC C (O N) N (c 63) 63 s' (K63 N)
def d1 (v0 : List BA) (v1 : Bool) (v2 v3 : Int) : Option R := o1 N v0 v1 v2 v3 (d2 N · · · ·)
theorem d1.run (v0 : List BA) (v1 : Bool) (v2 v3 : Int) : runC C (O N) N (c 29) 29 (s1 v0 v1 v2 v3) (K29 N) = d1 N v0 v1 v2 v3 := by
  unfold d1; exact (o1.run N (c 63) v0 v1 v2 v3).trans (congr rfl (fx4 (d2.run N)))
def o0 (a0 : BA) (c1 : t1) : Option R :=
 (zq178.g N a0 47).bind fun r1 =>
 bif (decide ((a0.size : Int) > 20)) then
  c1 r1 true 0 0
 else
 c1 r1 ((r1.length : Int) != 2) 0 0
theorem o0.run (H29 : Code) (a0 : BA) : runC C (O N) N (.seq (c 2) (.seq (c 6) (.seq (.seq (c 28) H29) (c 15)))) 1 (st0 [.one (.str a0)] [] : St D0) K0 = o0 N a0 ((fun w0 w1 w2 w3 => runC C (O N) N H29 29 (s1 w0 w1 w2 w3) (onN (tk C (O N) N c 14 15 K0) K0))) := by kernel_rfl
def g (a0 : BA) : Option R := o0 N a0 (d1 N · · · ·)
theorem c1_0 : (c 1) = (.seq (c 2) (.seq (c 6) (.seq (.seq (c 28) (c 29)) (c 15)))) := by kernel_rfl
theorem g.run (a0 : BA) : runC C (O N) N (c 1) 1 (st0 [.one (.str a0)] [] : St D0) K0 = g N a0 := by
  rw [c1_0]; unfold g; exact (o0.run N (c 29) a0).trans (congr rfl (fx4 (d1.run N)))
def ent : Ent Tryz.prog T0 := mkEntC C tabOk0 mixed0 120 [(false, [.any])] sig (E N) Tryz.func120 (by kernel_rfl) [(true, [.any, .any]), (false, [.any])] N (fun t => g N t) (fun _ => by kernel_rfl) (fun t => g.run N t)
end zq120
namespace zq78
variable (N : Nat)
abbrev R : Type := BA
abbrev sig : Sig := ⟨[(true, 2)], [], [.i, .i], [(false, 1)], [], [.str]⟩
noncomputable def C : Cfg D0 := ⟨Tryz.prog, T0, 7, 0, 11, 0, [], 0, false, []⟩
def E : List (Ent Tryz.prog T0) := [zq184.ent N]
def O : Orc D0 R := orcOf (E N)
def K0 : Ex → St D0 → Option R := exitK C Tryz.f100.results.toList [(false, [.any])] (decOut sig)
noncomputable def c (p : Nat) : Code := codeAt (Tryz.f100.body.getD .skip) (pathN p)
def o0 (a0_0 a0_1 : Int) : Option R :=
 (zq184.g N a0_0).bind fun r1 =>
 bif (Nat.ble (r1.size + (⟨#[47]⟩ : BA).size) 9223372036854775807) then
  (zq184.g N a0_1).bind fun r2 =>
  bif (Nat.ble ((r1 ++ (⟨#[47]⟩ : BA)).size + r2.size) 9223372036854775807) then
   some (((r1 ++ (⟨#[47]⟩ : BA)) ++ r2))
  else
  none
 else
 none
def g (a0_0 a0_1 : Int) : Option R := o0 N a0_0 a0_1
theorem g.run (a0_0 a0_1 : Int) : runC C (O N) N (c 1) 1 (st0 [.agg [.i a0_0, .i a0_1]] [] : St D0) K0 = g N a0_0 a0_1 := by kernel_rfl
def ent : Ent Tryz.prog T0 := mkEntC C tabOk0 mixed0 100 [(true, [.any, .any])] sig (E N) Tryz.func100 (by kernel_rfl) [(false, [.any])] N (fun t => g N t.1 t.2) (fun _ => by kernel_rfl) (fun t => g.run N t.1 t.2)
end zq78
namespace zq77
variable (N : Nat)
abbrev R : Type := BA × Bool
abbrev sig : Sig := ⟨[(true, 2), (false, 1)], [], [.i, .i, .bool], [(false, 1), (false, 1)], [], [.str, .bool]⟩
noncomputable def C : Cfg D0 := ⟨Tryz.prog, T0, 55, 0, 9, 0, [], 0, false, []⟩
def E : List (Ent Tryz.prog T0) := [zq78.ent N]
def O : Orc D0 R := orcOf (E N)
def K0 : Ex → St D0 → Option R := exitK C Tryz.f101.results.toList [(false, [.any]), (false, [.any])] (decOut sig)
noncomputable def c (p : Nat) : Code := codeAt (Tryz.f101.body.getD .skip) (pathN p)
def o0 (a0_0 a0_1 : Int) (a1 : Bool) : Option R :=
 (zq78.g N a0_0 a0_1).bind fun r1 =>
 some (r1, a1)
def g (a0_0 a0_1 : Int) (a1 : Bool) : Option R := o0 N a0_0 a0_1 a1
theorem g.run (a0_0 a0_1 : Int) (a1 : Bool) : runC C (O N) N (c 1) 1 (st0 [.agg [.i a0_0, .i a0_1], .one (.bool a1)] [] : St D0) K0 = g N a0_0 a0_1 a1 := by kernel_rfl
def ent : Ent Tryz.prog T0 := mkEntC C tabOk0 mixed0 101 [(true, [.any, .any]), (false, [.any])] sig (E N) Tryz.func101 (by kernel_rfl) [(false, [.any]), (false, [.any])] N (fun t => g N t.1 t.2.1 t.2.2) (fun _ => by kernel_rfl) (fun t => g.run N t.1 t.2.1 t.2.2)
end zq77
namespace zq75
variable (N : Nat)
abbrev R : Type := BA
abbrev sig : Sig := ⟨[(true, 2)], [], [.i, .i], [(false, 1)], [], [.str]⟩
noncomputable def C : Cfg D0 := ⟨Tryz.prog, T0, 7, 0, 11, 0, [], 0, false, []⟩
def E : List (Ent Tryz.prog T0) := [zq184.ent N]
def O : Orc D0 R := orcOf (E N)
def K0 : Ex → St D0 → Option R := exitK C Tryz.f167.results.toList [(false, [.any])] (decOut sig)
noncomputable def c (p : Nat) : Code := codeAt (Tryz.f167.body.getD .skip) (pathN p)
def o0 (a0_0 a0_1 : Int) : Option R :=
 (zq184.g N a0_0).bind fun r1 =>
 bif (Nat.ble (r1.size + (⟨#[47]⟩ : BA).size) 9223372036854775807) then
  (zq184.g N a0_1).bind fun r2 =>
  bif (Nat.ble ((r1 ++ (⟨#[47]⟩ : BA)).size + r2.size) 9223372036854775807) then
   some (((r1 ++ (⟨#[47]⟩ : BA)) ++ r2))
  else
  none
 else
 none
def g (a0_0 a0_1 : Int) : Option R := o0 N a0_0 a0_1
theorem g.run (a0_0 a0_1 : Int) : runC C (O N) N (c 1) 1 (st0 [.agg [.i a0_0, .i a0_1]] [] : St D0) K0 = g N a0_0 a0_1 := by kernel_rfl
def ent : Ent Tryz.prog T0 := mkEntC C tabOk0 mixed0 167 [(true, [.any, .any])] sig (E N) Tryz.func167 (by kernel_rfl) [(false, [.any])] N (fun t => g N t.1 t.2) (fun _ => by kernel_rfl) (fun t => g.run N t.1 t.2)
end zq75
namespace zq74
variable (N : Nat)
abbrev R : Type := BA × Bool
abbrev sig : Sig := ⟨[(true, 2), (false, 1)], [], [.i, .i, .bool], [(false, 1), (false, 1)], [], [.str, .bool]⟩
noncomputable def C : Cfg D0 := ⟨Tryz.prog, T0, 55, 0, 9, 0, [], 0, false, []⟩
def E : List (Ent Tryz.prog T0) := [zq75.ent N]
def O : Orc D0 R := orcOf (E N)
def K0 : Ex → St D0 → Option R := exitK C Tryz.f108.results.toList [(false, [.any]), (false, [.any])] (decOut sig)
noncomputable def c (p : Nat) : Code := codeAt (Tryz.f108.body.getD .skip) (pathN p)
def o0 (a0_0 a0_1 : Int) (a1 : Bool) : Option R :=
 (zq75.g N a0_0 a0_1).bind fun r1 =>
 some (r1, a1)
def g (a0_0 a0_1 : Int) (a1 : Bool) : Option R := o0 N a0_0 a0_1 a1
theorem g.run (a0_0 a0_1 : Int) (a1 : Bool) : runC C (O N) N (c 1) 1 (st0 [.agg [.i a0_0, .i a0_1], .one (.bool a1)] [] : St D0) K0 = g N a0_0 a0_1 a1 := by kernel_rfl
def ent : Ent Tryz.prog T0 := mkEntC C tabOk0 mixed0 108 [(true, [.any, .any]), (false, [.any])] sig (E N) Tryz.func108 (by kernel_rfl) [(false, [.any]), (false, [.any])] N (fun t => g N t.1 t.2.1 t.2.2) (fun _ => by kernel_rfl) (fun t => g.run N t.1 t.2.1 t.2.2)
end zq74
namespace zq139
variable (N : Nat)
abbrev R : Type := BA
abbrev sig : Sig := ⟨[(true, 2), (false, 1)], [], [.i, .i, .bool], [(false, 1)], [], [.str]⟩
noncomputable def C : Cfg D0 := ⟨Tryz.prog, T0, 87, 0, 15, 0, [], 32, false, []⟩
def E : List (Ent Tryz.prog T0) := [zq175.ent N]
def O : Orc D0 R := orcOf (E N)
def K0 : Ex → St D0 → Option R := exitK C Tryz.f128.results.toList [(false, [.any])] (decOut sig)
noncomputable def c (p : Nat) : Code := codeAt (Tryz.f128.body.getD .skip) (pathN p)
def o0 (a0_0 a0_1 : Int) (a1 : Bool) : Option R :=
 bif (!a1) then
  some ((⟨#[110, 111]⟩ : BA))
 else
 (zq175.g N a0_0).bind fun r1 =>
 bif (Nat.ble (r1.size + (⟨#[47]⟩ : BA).size) 9223372036854775807) then
  (zq175.g N a0_1).bind fun r2 =>
  bif (Nat.ble ((r1 ++ (⟨#[47]⟩ : BA)).size + r2.size) 9223372036854775807) then
   some (((r1 ++ (⟨#[47]⟩ : BA)) ++ r2))
  else
  none
 else
 none
def g (a0_0 a0_1 : Int) (a1 : Bool) : Option R := o0 N a0_0 a0_1 a1
theorem g.run (a0_0 a0_1 : Int) (a1 : Bool) : runC C (O N) N (c 1) 1 (st0 [.agg [.i a0_0, .i a0_1], .one (.bool a1)] [] : St D0) K0 = g N a0_0 a0_1 a1 := by kernel_rfl
def ent : Ent Tryz.prog T0 := mkEntC C tabOk0 mixed0 128 [(true, [.any, .any]), (false, [.any])] sig (E N) Tryz.func128 (by kernel_rfl) [(false, [.any])] N (fun t => g N t.1 t.2.1 t.2.2) (fun _ => by kernel_rfl) (fun t => g.run N t.1 t.2.1 t.2.2)
end zq139
namespace zq136
variable (N : Nat)
abbrev R : Type := BA
abbrev sig : Sig := ⟨[(true, 2), (false, 1)], [], [.i, .i, .bool], [(false, 1)], [], [.str]⟩
noncomputable def C : Cfg D0 := ⟨Tryz.prog, T0, 87, 0, 15, 0, [], 32, false, []⟩
def E : List (Ent Tryz.prog T0) := [zq175.ent N]
def O : Orc D0 R := orcOf (E N)
def K0 : Ex → St D0 → Option R := exitK C Tryz.f136.results.toList [(false, [.any])] (decOut sig)
noncomputable def c (p : Nat) : Code := codeAt (Tryz.f136.body.getD .skip) (pathN p)
def o0 (a0_0 a0_1 : Int) (a1 : Bool) : Option R :=
 bif (!a1) then
  some ((⟨#[110, 111]⟩ : BA))
 else
 (zq175.g N a0_0).bind fun r1 =>
 bif (Nat.ble (r1.size + (⟨#[47]⟩ : BA).size) 9223372036854775807) then
  (zq175.g N a0_1).bind fun r2 =>
  bif (Nat.ble ((r1 ++ (⟨#[47]⟩ : BA)).size + r2.size) 9223372036854775807) then
   some (((r1 ++ (⟨#[47]⟩ : BA)) ++ r2))
  else
  none
 else
 none
def g (a0_0 a0_1 : Int) (a1 : Bool) : Option R := o0 N a0_0 a0_1 a1
theorem g.run (a0_0 a0_1 : Int) (a1 : Bool) : runC C (O N) N (c 1) 1 (st0 [.agg [.i a0_0, .i a0_1], .one (.bool a1)] [] : St D0) K0 = g N a0_0 a0_1 a1 := by kernel_rfl
def ent : Ent Tryz.prog T0 := mkEntC C tabOk0 mixed0 136 [(true, [.any, .any]), (false, [.any])] sig (E N) Tryz.func136 (by kernel_rfl) [(false, [.any])] N (fun t => g N t.1 t.2.1 t.2.2) (fun _ => by kernel_rfl) (fun t => g.run N t.1 t.2.1 t.2.2)
end zq136
namespace zq25
variable (N : Nat)
abbrev R : Type := Int × Int × Bool
abbrev sig : Sig := ⟨[(false, 1), (false, 1)], [], [.i, .i], [(true, 2), (false, 1)], [], [.i, .i, .bool]⟩
noncomputable def C : Cfg D0 := ⟨Tryz.prog, T0, 8243, 0, 21, 0, [(12, [0, 1, 4, 13], [4])], 99392, false, []⟩
def E : List (Ent Tryz.prog T0) := [zq81.ent N, zq67.ent N, zq56.ent N]
def O : Orc D0 R := orcOf (E N)
def K0 : Ex → St D0 → Option R := exitK C Tryz.f94.results.toList [(true, [.any, .any]), (false, [.any])] (decOut sig)
noncomputable def c (p : Nat) : Code := codeAt (Tryz.f94.body.getD .skip) (pathN p)
abbrev t1 : Type := Int → Int → Bool → Int → Int → Option R
def s1 (v0 v1 : Int) (v2 : Bool) (v3 v4 : Int) : St D0 := mkSt [(0, .one (.i v0)), (1, .one (.i v1)), (4, .one (.ptr 4 0)), (13, .one (.bool v2))] [(4, some (25, [.i v3, .i v4]))]
def K13 : Ex → St D0 → Option R := (onN (tk C (O N) N c 6 7 K0) K0)
def o1 (v0 v1 : Int) (v2 : Bool) (v3 v4 : Int) : Option R :=
 bif v2 then
  some (0, 0, false)
 else
 (zq67.g N v0 v1).bind fun r1 =>
 (zq56.g N r1.1 r1.2).bind fun r2 =>
 some (r2.1, r2.2.1, r2.2.2)
def d1 (v0 v1 : Int) (v2 : Bool) (v3 v4 : Int) : Option R := o1 N v0 v1 v2 v3 v4
theorem d1.run (v0 v1 : Int) (v2 : Bool) (v3 v4 : Int) : runC C (O N) N (c 13) 13 (s1 v0 v1 v2 v3 v4) (K13 N) = d1 N v0 v1 v2 v3 v4 := by kernel_rfl
def o0 (a0 a1 : Int) (c1 : t1) : Option R :=
 (zq81.g N a0 (-1000000000000) 1000000000000).bind fun r1 =>
 bif (!r1) then
  c1 a0 a1 true 0 0
 else
 (zq81.g N a1 1 1000000000000).bind fun r2 =>
 c1 a0 a1 (!r2) 0 0
theorem o0.run (H13 : Code) (a0 a1 : Int) : runC C (O N) N (.seq (c 2) (.seq (.seq (c 12) H13) (c 7))) 1 (st0 [.one (.i a0), .one (.i a1)] [] : St D0) K0 = o0 N a0 a1 ((fun w0 w1 w2 w3 w4 => runC C (O N) N H13 13 (s1 w0 w1 w2 w3 w4) (onN (tk C (O N) N c 6 7 K0) K0))) := by kernel_rfl
def g (a0 a1 : Int) : Option R := o0 N a0 a1 (d1 N · · · · ·)
theorem c1_0 : (c 1) = (.seq (c 2) (.seq (.seq (c 12) (c 13)) (c 7))) := by kernel_rfl
theorem g.run (a0 a1 : Int) : runC C (O N) N (c 1) 1 (st0 [.one (.i a0), .one (.i a1)] [] : St D0) K0 = g N a0 a1 := by
  rw [c1_0]; unfold g; exact (o0.run N (c 13) a0 a1).trans (congr rfl (fx5 (d1.run N)))
def ent : Ent Tryz.prog T0 := mkEntC C tabOk0 mixed0 94 [(false, [.any]), (false, [.any])] sig (E N) Tryz.func94 (by kernel_rfl) [(true, [.any, .any]), (false, [.any])] N (fun t => g N t.1 t.2) (fun _ => by kernel_rfl) (fun t => g.run N t.1 t.2)
end zq25
namespace zq119
variable (N : Nat)
abbrev R : Type := Int × Int × Bool
abbrev sig : Sig := ⟨[(false, 1), (false, 1)], [], [.i, .i], [(true, 2), (false, 1)], [], [.i, .i, .bool]⟩
noncomputable def C : Cfg D0 := ⟨Tryz.prog, T0, 8243, 0, 20, 0, [(12, [0, 1, 4, 13], [4])], 99392, false, []⟩
def E : List (Ent Tryz.prog T0) := [zq173.ent N, zq151.ent N]
def O : Orc D0 R := orcOf (E N)
def K0 : Ex → St D0 → Option R := exitK C Tryz.f174.results.toList [(true, [.any, .any]), (false, [.any])] (decOut sig)
noncomputable def c (p : Nat) : Code := codeAt (Tryz.f174.body.getD .skip) (pathN p)
abbrev t1 : Type := Int → Int → Bool → Int → Int → Option R
def s1 (v0 v1 : Int) (v2 : Bool) (v3 v4 : Int) : St D0 := mkSt [(0, .one (.i v0)), (1, .one (.i v1)), (4, .one (.ptr 4 0)), (13, .one (.bool v2))] [(4, some (25, [.i v3, .i v4]))]
def K13 : Ex → St D0 → Option R := (onN (tk C (O N) N c 6 7 K0) K0)
def o1 (v0 v1 : Int) (v2 : Bool) (v3 v4 : Int) : Option R :=
 bif v2 then
  some (0, 0, false)
 else
 (zq151.g N v0 v1).bind fun r1 =>
 some (r1.1, r1.2.1, r1.2.2)
def d1 (v0 v1 : Int) (v2 : Bool) (v3 v4 : Int) : Option R := o1 N v0 v1 v2 v3 v4
theorem d1.run (v0 v1 : Int) (v2 : Bool) (v3 v4 : Int) : runC C (O N) N (c 13) 13 (s1 v0 v1 v2 v3 v4) (K13 N) = d1 N v0 v1 v2 v3 v4 := by kernel_rfl
def o0 (a0 a1 : Int) (c1 : t1) : Option R :=
 (zq173.g N a0 (-1000000000000) 1000000000000).bind fun r1 =>
 bif (!r1) then
  c1 a0 a1 true 0 0
 else
 (zq173.g N a1 1 1000000000000).bind fun r2 =>
 c1 a0 a1 (!r2) 0 0
theorem o0.run (H13 : Code) (a0 a1 : Int) : runC C (O N) N (.seq (c 2) (.seq (.seq (c 12) H13) (c 7))) 1 (st0 [.one (.i a0), .one (.i a1)] [] : St D0) K0 = o0 N a0 a1 ((fun w0 w1 w2 w3 w4 => runC C (O N) N H13 13 (s1 w0 w1 w2 w3 w4) (onN (tk C (O N) N c 6 7 K0) K0))) := by kernel_rfl
def g (a0 a1 : Int) : Option R := o0 N a0 a1 (d1 N · · · · ·)
theorem c1_0 : (c 1) = (.seq (c 2) (.seq (.seq (c 12) (c 13)) (c 7))) := by kernel_rfl
theorem g.run (a0 a1 : Int) : runC C (O N) N (c 1) 1 (st0 [.one (.i a0), .one (.i a1)] [] : St D0) K0 = g N a0 a1 := by
  rw [c1_0]; unfold g; exact (o0.run N (c 13) a0 a1).trans (congr rfl (fx5 (d1.run N)))
def ent : Ent Tryz.prog T0 := mkEntC C tabOk0 mixed0 174 [(false, [.any]), (false, [.any])] sig (E N) Tryz.func174 (by kernel_rfl) [(true, [.any, .any]), (false, [.any])] N (fun t => g N t.1 t.2) (fun _ => by kernel_rfl) (fun t => g.run N t.1 t.2)
end zq119
namespace zq104
variable (N : Nat)
abbrev R : Type := Int × Int × Bool
abbrev sig : Sig := ⟨[(true, 2), (true, 2)], [], [.i, .i, .i, .i], [(true, 2), (false, 1)], [], [.i, .i, .bool]⟩
noncomputable def C : Cfg D0 := ⟨Tryz.prog, T0, 8255, 0, 20, 0, [(12, [2, 3, 4, 13], [2, 3, 4])], 0, false, []⟩
def E : List (Ent Tryz.prog T0) := [zq149.ent N, zq145.ent N]
def O : Orc D0 R := orcOf (E N)
def K0 : Ex → St D0 → Option R := exitK C Tryz.f123.results.toList [(true, [.any, .any]), (false, [.any])] (decOut sig)
noncomputable def c (p : Nat) : Code := codeAt (Tryz.f123.body.getD .skip) (pathN p)
abbrev t1 : Type := Bool → Int → Int → Int → Int → Int → Int → Option R
def s1 (v0 : Bool) (v1 v2 v3 v4 v5 v6 : Int) : St D0 := mkSt [(2, .one (.ptr 2 0)), (3, .one (.ptr 3 0)), (4, .one (.ptr 4 0)), (13, .one (.bool v0))] [(2, some (25, [.i v1, .i v2])), (3, some (25, [.i v3, .i v4])), (4, some (25, [.i v5, .i v6]))]
def K13 : Ex → St D0 → Option R := (onN (tk C (O N) N c 6 7 K0) K0)
def o1 (v0 : Bool) (v1 v2 v3 v4 v5 v6 : Int) : Option R :=
 bif v0 then
  some (0, 0, false)
 else
 (zq145.g N v1 v2 v3 v4 1).bind fun r1 =>
 some (r1.1, r1.2.1, r1.2.2)
def d1 (v0 : Bool) (v1 v2 v3 v4 v5 v6 : Int) : Option R := o1 N v0 v1 v2 v3 v4 v5 v6
theorem d1.run (v0 : Bool) (v1 v2 v3 v4 v5 v6 : Int) : runC C (O N) N (c 13) 13 (s1 v0 v1 v2 v3 v4 v5 v6) (K13 N) = d1 N v0 v1 v2 v3 v4 v5 v6 := by kernel_rfl
def o0 (a0_0 a0_1 a1_0 a1_1 : Int) (c1 : t1) : Option R :=
 (zq149.g N a0_0 a0_1).bind fun r1 =>
 bif (!r1) then
  c1 true a0_0 a0_1 a1_0 a1_1 0 0
 else
 (zq149.g N a1_0 a1_1).bind fun r2 =>
 c1 (!r2) a0_0 a0_1 a1_0 a1_1 0 0
theorem o0.run (H13 : Code) (a0_0 a0_1 a1_0 a1_1 : Int) : runC C (O N) N (.seq (c 2) (.seq (.seq (c 12) H13) (c 7))) 1 (st0 [.agg [.i a0_0, .i a0_1], .agg [.i a1_0, .i a1_1]] [] : St D0) K0 = o0 N a0_0 a0_1 a1_0 a1_1 ((fun w0 w1 w2 w3 w4 w5 w6 => runC C (O N) N H13 13 (s1 w0 w1 w2 w3 w4 w5 w6) (onN (tk C (O N) N c 6 7 K0) K0))) := by kernel_rfl
def g (a0_0 a0_1 a1_0 a1_1 : Int) : Option R := o0 N a0_0 a0_1 a1_0 a1_1 (d1 N · · · · · · ·)
theorem c1_0 : (c 1) = (.seq (c 2) (.seq (.seq (c 12) (c 13)) (c 7))) := by kernel_rfl
theorem g.run (a0_0 a0_1 a1_0 a1_1 : Int) : runC C (O N) N (c 1) 1 (st0 [.agg [.i a0_0, .i a0_1], .agg [.i a1_0, .i a1_1]] [] : St D0) K0 = g N a0_0 a0_1 a1_0 a1_1 := by
  rw [c1_0]; unfold g; exact (o0.run N (c 13) a0_0 a0_1 a1_0 a1_1).trans (congr rfl (fx7 (d1.run N)))
def ent : Ent Tryz.prog T0 := mkEntC C tabOk0 mixed0 123 [(true, [.any, .any]), (true, [.any, .any])] sig (E N) Tryz.func123 (by kernel_rfl) [(true, [.any, .any]), (false, [.any])] N (fun t => g N t.1 t.2.1 t.2.2.1 t.2.2.2) (fun _ => by kernel_rfl) (fun t => g.run N t.1 t.2.1 t.2.2.1 t.2.2.2)
end zq104
namespace zq23
variable (N : Nat)
abbrev R : Type := Int × Int × Bool
abbrev sig : Sig := ⟨[(true, 2), (true, 2)], [], [.i, .i, .i, .i], [(true, 2), (false, 1)], [], [.i, .i, .bool]⟩
noncomputable def C : Cfg D0 := ⟨Tryz.prog, T0, 1087, 0, 18, 0, [], 0, false, []⟩
def E : List (Ent Tryz.prog T0) := [zq44.ent N, zq40.ent N, zq56.ent N]
def O : Orc D0 R := orcOf (E N)
def K0 : Ex → St D0 → Option R := exitK C Tryz.f97.results.toList [(true, [.any, .any]), (false, [.any])] (decOut sig)
noncomputable def c (p : Nat) : Code := codeAt (Tryz.f97.body.getD .skip) (pathN p)
def o0 (a0_0 a0_1 a1_0 a1_1 : Int) : Option R :=
 (zq44.g N ([(⟨a0_0, a0_1⟩ : S25), (⟨a1_0, a1_1⟩ : S25)] : List S25)).bind fun r1 =>
 bif (!r1) then
  some (0, 0, false)
 else
 (zq40.g N a0_0 a0_1 a1_0 a1_1).bind fun r2 =>
 (zq56.g N r2.1 r2.2).bind fun r3 =>
 some (r3.1, r3.2.1, r3.2.2)
def g (a0_0 a0_1 a1_0 a1_1 : Int) : Option R := o0 N a0_0 a0_1 a1_0 a1_1
theorem g.run (a0_0 a0_1 a1_0 a1_1 : Int) : runC C (O N) N (c 1) 1 (st0 [.agg [.i a0_0, .i a0_1], .agg [.i a1_0, .i a1_1]] [] : St D0) K0 = g N a0_0 a0_1 a1_0 a1_1 := by kernel_rfl
def ent : Ent Tryz.prog T0 := mkEntC C tabOk0 mixed0 97 [(true, [.any, .any]), (true, [.any, .any])] sig (E N) Tryz.func97 (by kernel_rfl) [(true, [.any, .any]), (false, [.any])] N (fun t => g N t.1 t.2.1 t.2.2.1 t.2.2.2) (fun _ => by kernel_rfl) (fun t => g.run N t.1 t.2.1 t.2.2.1 t.2.2.2)
end zq23
namespace zq117
variable (N : Nat)
abbrev R : Type := Int × Int × Bool
abbrev sig : Sig := ⟨[(true, 2), (true, 2)], [], [.i, .i, .i, .i], [(true, 2), (false, 1)], [], [.i, .i, .bool]⟩
noncomputable def C : Cfg D0 := ⟨Tryz.prog, T0, 8255, 0, 20, 0, [(12, [2, 3, 4, 13], [2, 3, 4])], 0, false, []⟩
def E : List (Ent Tryz.prog T0) := [zq149.ent N, zq145.ent N]
def O : Orc D0 R := orcOf (E N)
def K0 : Ex → St D0 → Option R := exitK C Tryz.f124.results.toList [(true, [.any, .any]), (false, [.any])] (decOut sig)
noncomputable def c (p : Nat) : Code := codeAt (Tryz.f124.body.getD .skip) (pathN p)
abbrev t1 : Type := Bool → Int → Int → Int → Int → Int → Int → Option R
def s1 (v0 : Bool) (v1 v2 v3 v4 v5 v6 : Int) : St D0 := mkSt [(2, .one (.ptr 2 0)), (3, .one (.ptr 3 0)), (4, .one (.ptr 4 0)), (13, .one (.bool v0))] [(2, some (25, [.i v1, .i v2])), (3, some (25, [.i v3, .i v4])), (4, some (25, [.i v5, .i v6]))]
def K13 : Ex → St D0 → Option R := (onN (tk C (O N) N c 6 7 K0) K0)
def o1 (v0 : Bool) (v1 v2 v3 v4 v5 v6 : Int) : Option R :=
 bif v0 then
  some (0, 0, false)
 else
 (zq145.g N v1 v2 v3 v4 (-1)).bind fun r1 =>
 some (r1.1, r1.2.1, r1.2.2)
def d1 (v0 : Bool) (v1 v2 v3 v4 v5 v6 : Int) : Option R := o1 N v0 v1 v2 v3 v4 v5 v6
theorem d1.run (v0 : Bool) (v1 v2 v3 v4 v5 v6 : Int) : runC C (O N) N (c 13) 13 (s1 v0 v1 v2 v3 v4 v5 v6) (K13 N) = d1 N v0 v1 v2 v3 v4 v5 v6 := by kernel_rfl
def o0 (a0_0 a0_1 a1_0 a1_1 : Int) (c1 : t1) : Option R :=
 (zq149.g N a0_0 a0_1).bind fun r1 =>
 bif (!r1) then
  c1 true a0_0 a0_1 a1_0 a1_1 0 0
 else
 (zq149.g N a1_0 a1_1).bind fun r2 =>
 c1 (!r2) a0_0 a0_1 a1_0 a1_1 0 0
theorem o0.run (H13 : Code) (a0_0 a0_1 a1_0 a1_1 : Int) : runC C (O N) N (.seq (c 2) (.seq (.seq (c 12) H13) (c 7))) 1 (st0 [.agg [.i a0_0, .i a0_1], .agg [.i a1_0, .i a1_1]] [] : St D0) K0 = o0 N a0_0 a0_1 a1_0 a1_1 ((fun w0 w1 w2 w3 w4 w5 w6 => runC C (O N) N H13 13 (s1 w0 w1 w2 w3 w4 w5 w6) (onN (tk C (O N) N c 6 7 K0) K0))) := by kernel_rfl
def g (a0_0 a0_1 a1_0 a1_1 : Int) : Option R := o0 N a0_0 a0_1 a1_0 a1_1 (d1 N · · · · · · ·)
theorem c1_0 : (c 1) = (.seq (c 2) (.seq (.seq (c 12) (c 13)) (c 7))) := by kernel_rfl
theorem g.run (a0_0 a0_1 a1_0 a1_1 : Int) : runC C (O N) N (c 1) 1 (st0 [.agg [.i a0_0, .i a0_1], .agg [.i a1_0, .i a1_1]] [] : St D0) K0 = g N a0_0 a0_1 a1_0 a1_1 := by
  rw [c1_0]; unfold g; exact (o0.run N (c 13) a0_0 a0_1 a1_0 a1_1).trans (congr rfl (fx7 (d1.run N)))
def ent : Ent Tryz.prog T0 := mkEntC C tabOk0 mixed0 124 [(true, [.any, .any]), (true, [.any, .any])] sig (E N) Tryz.func124 (by kernel_rfl) [(true, [.any, .any]), (false, [.any])] N (fun t => g N t.1 t.2.1 t.2.2.1 t.2.2.2) (fun _ => by kernel_rfl) (fun t => g.run N t.1 t.2.1 t.2.2.1 t.2.2.2)
end zq117
namespace zq7
variable (N : Nat)
abbrev R : Type := Int × Bool
abbrev sig : Sig := ⟨[(false, 1)], [], [.i], [(false, 1), (false, 1)], [], [.i, .bool]⟩
noncomputable def C : Cfg D0 := ⟨Tryz.prog, T0, 77, 0, 12, 0, [], 1424, false, []⟩
def E : List (Ent Tryz.prog T0) := [zq58.ent N]
def O : Orc D0 R := orcOf (E N)
def K0 : Ex → St D0 → Option R := exitK C Tryz.f111.results.toList [(false, [.any]), (false, [.any])] (decOut sig)
noncomputable def c (p : Nat) : Code := codeAt (Tryz.f111.body.getD .skip) (pathN p)
def o0 (a0 : Int) : Option R :=
 (zq58.g N a0).bind fun r1 =>
 bif (!r1) then
  some (0, false)
 else
 some ((w64 ((w64 (a0 * a0)) - a0)), true)
def g (a0 : Int) : Option R := o0 N a0
theorem g.run (a0 : Int) : runC C (O N) N (c 1) 1 (st0 [.one (.i a0)] [] : St D0) K0 = g N a0 := by kernel_rfl
def ent : Ent Tryz.prog T0 := mkEntC C tabOk0 mixed0 111 [(false, [.any])] sig (E N) Tryz.func111 (by kernel_rfl) [(false, [.any]), (false, [.any])] N (fun t => g N t) (fun _ => by kernel_rfl) (fun t => g.run N t)
end zq7
namespace zq108
variable (N : Nat)
abbrev R : Type := Int × Bool
abbrev sig : Sig := ⟨[(false, 1)], [], [.i], [(false, 1), (false, 1)], [], [.i, .bool]⟩
noncomputable def C : Cfg D0 := ⟨Tryz.prog, T0, 77, 0, 14, 0, [], 2448, false, []⟩
def E : List (Ent Tryz.prog T0) := [zq150.ent N]
def O : Orc D0 R := orcOf (E N)
def K0 : Ex → St D0 → Option R := exitK C Tryz.f139.results.toList [(false, [.any]), (false, [.any])] (decOut sig)
noncomputable def c (p : Nat) : Code := codeAt (Tryz.f139.body.getD .skip) (pathN p)
def o0 (a0 : Int) : Option R :=
 (zq150.g N a0).bind fun r1 =>
 bif (!r1) then
  some (0, false)
 else
 some ((w64 ((w64 ((w64 (a0 * a0)) - 1)) - (w64 (a0 - 1)))), true)
def g (a0 : Int) : Option R := o0 N a0
theorem g.run (a0 : Int) : runC C (O N) N (c 1) 1 (st0 [.one (.i a0)] [] : St D0) K0 = g N a0 := by kernel_rfl
def ent : Ent Tryz.prog T0 := mkEntC C tabOk0 mixed0 139 [(false, [.any])] sig (E N) Tryz.func139 (by kernel_rfl) [(false, [.any]), (false, [.any])] N (fun t => g N t) (fun _ => by kernel_rfl) (fun t => g.run N t)
end zq108
end Go.Proofs.YtdidghlibfopgaaGreatDoor.M
namespace Go.Proofs.YtdidghlibfopgaaGreatDoor.M
open Go Go.PM Go.Proofs.YtdidghlibfopgaaGreatDoor.P
set_option linter.unusedVariables false
set_option maxRecDepth 100000
open Go.RowKit Go.Lib
abbrev zq187.R : Type := ByteArray
abbrev zq187.sig : Sig := ⟨[(false, 1), (false, 1)], [], [.sl false 9, .str], [(false, 1)], [], [.str]⟩
noncomputable def zq187.g (N : Nat) (a0 : List ByteArray) (a1 : ByteArray) : Option zq187.R := bif decide ((Lib.join (a0.map (·.data.toList)) a1.data.toList).length ≤ 140737488355328 ∧ a0.length ≤ 140737488355328) then some ⟨(Lib.join (a0.map (·.data.toList)) a1.data.toList).toArray⟩ else none
theorem zq187.good (N : Nat) (a0 : List ByteArray) (a1 : ByteArray) (r : zq187.R) (h : zq187.g N a0 a1 = some r) : Go.PM.Good Tryz.prog T0 209 [.one (.sl false 9 a0), .one (.str a1)] [] (zq187.sig.ret r) (zq187.sig.bs r) := by
  unfold zq187.g at h
  obtain ⟨hc, h⟩ := bif_some h
  have hc := of_decide_eq_true hc
  cases Option.some.inj h
  refine good_flat ⟨_, Tryz.func209, by kernel_rfl, rfl⟩ _ (.str _) ?_
  intro w C blk vargs hsz hrep hag
  have e1 := rep_str (hrep 1)
  obtain ⟨A, cp, b, o, vals, e0, hcp, hA, hC, hR⟩ := inv_sl (T := T0) (e := 9) (xs := a0) (own := false) (hrep 0)
  have ev : vargs = #[.slice A a0.length cp, .string a1] := (args2 hsz).trans (by rw [e0, e1])
  rw [ev]
  cases a0 with
  | nil =>
    refine (Tryz.strings_Join_none A cp a1 w).mono ?_
    rintro e w' ⟨rfl, rfl⟩
    exact ⟨rfl, Below.refl _ _⟩
  | cons x xs =>
    have hA' := hA (by simp)
    subst hA'
    have hcell : ∀ (j : Nat) y, (x :: xs)[j]? = some y → w.cell? ⟨b, o + j, none⟩ = some (.string y) := by
      intro j y hj
      have h1 := hC j y 0 (.str y) hj rfl
      have h2 := hR j y 0 (.str y) hj rfl
      have h3 := hag _ _ _ h1
      rw [show vals j 0 = .string y from inv_str (C := C) (blk := blk) h2] at h3
      rw [← h3]
      show _ = w.cell? ⟨b, o + j * 1 + 0, none⟩
      rw [Nat.mul_one, Nat.add_zero]
    have hb : b < w.heap.size := World.block_lt_of_cell? w _ (hcell 0 x rfl)
    refine (Tryz.strings_Join b o cp (x :: xs) a1 w hcell hb hc.2 hcp hc.1).mono ?_
    rintro e w' ⟨rfl, hB⟩
    exact ⟨rfl, hB⟩
noncomputable def zq187.ent (N : Nat) : Ent Tryz.prog T0 := mkEnt 209 [(false, [.ro 9]), (false, [.any])] zq187.sig (fun t => zq187.g N t.1 t.2) (fun t r h => zq187.good N t.1 t.2 r h)
end Go.Proofs.YtdidghlibfopgaaGreatDoor.M
namespace Go.Proofs.YtdidghlibfopgaaGreatDoor.M
open Go Go.PM Go.Proofs.YtdidghlibfopgaaGreatDoor.P
set_option linter.unusedVariables false
set_option maxRecDepth 100000
namespace zq65
variable (N : Nat)
abbrev R : Type := BA
abbrev sig : Sig := ⟨[(false, 1)], [], [.sl false 9], [(false, 1)], [], [.str]⟩
noncomputable def C : Cfg D0 := ⟨Tryz.prog, T0, 37, 0, 8, 0, [], 72, false, []⟩
def E : List (Ent Tryz.prog T0) := [zq187.ent N]
def O : Orc D0 R := orcOf (E N)
def K0 : Ex → St D0 → Option R := exitK C Tryz.f165.results.toList [(false, [.any])] (decOut sig)
noncomputable def c (p : Nat) : Code := codeAt (Tryz.f165.body.getD .skip) (pathN p)
def o0 (a0 : List BA) : Option R :=
 bif ((a0.length : Int) == 0) then
  some ((⟨#[45]⟩ : BA))
 else
 (zq187.g N a0 (⟨#[44]⟩ : BA)).bind fun r1 =>
 some (r1)
def g (a0 : List BA) : Option R := o0 N a0
theorem g.run (a0 : List BA) : runC C (O N) N (c 1) 1 (st0 [.one (.sl false 9 a0)] [] : St D0) K0 = g N a0 := by kernel_rfl
def ent : Ent Tryz.prog T0 := mkEntC C tabOk0 mixed0 165 [(false, [.ro 9])] sig (E N) Tryz.func165 (by kernel_rfl) [(false, [.any])] N (fun t => g N t) (fun _ => by kernel_rfl) (fun t => g.run N t)
end zq65
namespace zq80
variable (N : Nat)
abbrev R : Type := BA × Bool
abbrev QQ : Type := St D0 → Option R
abbrev sig : Sig := ⟨[(false, 1), (false, 1), (false, 1)], [], [.i, .i, .i], [(false, 1), (false, 1)], [], [.str, .bool]⟩
noncomputable def C : Cfg D0 := ⟨Tryz.prog, T0, 4026556359, 0, 46, 0, [(250, [9, 11, 12, 28, 29, 30], [])], 1099516018688, false, []⟩
def E : List (Ent Tryz.prog T0) := [zq25.ent N, zq38.ent N, zq78.ent N, zq65.ent N]
def O : Orc D0 R := orcOf (E N)
def K0 : Ex → QQ := exitK C Tryz.f105.results.toList [(false, [.any]), (false, [.any])] (decOut sig)
noncomputable def c (p : Nat) : Code := codeAt (Tryz.f105.body.getD .skip) (pathN p)
abbrev t1 : Type := Bool → Bool → (List BA) → (List S25) → Int → Int → Option R
def s1 (v0 v1 : Bool) (v2 : List BA) (v3 : List S25) (v4 v5 : Int) : St D0 := mkSt [(9, .one (.bool v0)), (11, .one (.bool v1)), (12, .one (.sl true 9 v2)), (28, .one (.sl false 25 v3)), (29, .one (.i v4)), (30, .one (.i v5))] []
def K500 (Kn250 : QQ) : Ex → QQ := ((fun up => (onN (fun s => C.tidy 250 s ((onN Kn250 up) .normal)) (onN Kn250 up))) (blockK 0 (onN (tk C (O N) N c 62 63 K0) K0)))
def o1 (v0 v1 : Bool) (v2 : List BA) (v3 : List S25) (v4 v5 : Int) (c1 : t1) : Option R :=
 bif (decide (v5 < v4)) then
  bif (decide (0 ≤ v5)) then
   bif (decide (v5 < (v3.length : Int))) then
    (v3[(v5 : Int).toNat]?).bind fun x1 =>
    (zq78.g N x1.f0 x1.f1).bind fun r2 =>
    bif (Nat.blt (v2.length + ([r2] : List BA).length) 8796093022208) then
     c1 v0 v1 (v2 ++ ([r2] : List BA)) v3 v4 (w64 (v5 + 1))
    else
    none
   else
   none
  else
  none
 else
 (zq65.g N v2).bind fun r3 =>
 bif v0 then
  some (r3, v1)
 else
 some (r3, false)
def d1 (v0 v1 : Bool) (v2 : List BA) (v3 : List S25) (v4 v5 : Int) (c1 : t1) : Option R := o1 N v0 v1 v2 v3 v4 v5 c1
theorem d1.run (Kn250 : QQ) (v0 v1 : Bool) (v2 : List BA) (v3 : List S25) (v4 v5 : Int) : runC C (O N) N (c 500) 500 (s1 v0 v1 v2 v3 v4 v5) (K500 N Kn250) = d1 N v0 v1 v2 v3 v4 v5 (Kn250 <| s1 · · · · · ·) := by kernel_rfl
def K250 : Ex → QQ := (blockK 0 (onN (tk C (O N) N c 62 63 K0) K0))
def l1 (N : Nat) : Nat → Bool → Bool → (List BA) → (List S25) → Int → Int → Option R
  | 0, _, _, _, _, _, _ => none
  | n + 1, v0, v1, v2, v3, v4, v5 => d1 N v0 v1 v2 v3 v4 v5 (l1 N n · · · · · ·)
theorem loop250 (N : Nat) : ∀ n, (∀ (v0 v1 : Bool) (v2 : List BA) (v3 : List S25) (v4 v5 : Int), iter (loopF C (O N) N (c 500) 250) n (s1 v0 v1 v2 v3 v4 v5) (K250 N) = l1 N n v0 v1 v2 v3 v4 v5)
  | 0 => (by intros; rfl)
  | n + 1 => (fun v0 v1 v2 v3 v4 v5 => (d1.run N (fun s => iter (loopF C (O N) N (c 500) 250) n s (K250 N)) v0 v1 v2 v3 v4 v5).trans (show _ = d1 N v0 v1 v2 v3 v4 v5 (l1 N n · · · · · ·) from (congr rfl (fx6 ((loop250 N n))))))
def o0 (a0 a1 a2 : Int) (c1 : t1) : Option R :=
 (zq25.g N a1 a2).bind fun r1 =>
 (zq38.g N a0 r1.1 r1.2.1).bind fun r2 =>
 c1 r1.2.2 r2.2 ([] : List BA) r2.1 (r2.1.length : Int) 0
theorem o0.run (H500 : Code) (a0 a1 a2 : Int) : runC C (O N) N (.seq (c 2) (.seq (c 6) (.seq (c 14) (.seq (c 30) (.seq (.seq (c 124) (.block 0 (.loop H500))) (c 63)))))) 1 (st0 [.one (.i a0), .one (.i a1), .one (.i a2)] [] : St D0) K0 = o0 N a0 a1 a2 ((fun w0 w1 w2 w3 w4 w5 => iter (loopF C (O N) N H500 250) N (s1 w0 w1 w2 w3 w4 w5) (blockK 0 (onN (tk C (O N) N c 62 63 K0) K0)))) := by kernel_rfl
def g (a0 a1 a2 : Int) : Option R := o0 N a0 a1 a2 (l1 N N · · · · · ·)
theorem c1_0 : (c 1) = (.seq (c 2) (.seq (c 6) (.seq (c 14) (.seq (c 30) (.seq (.seq (c 124) (.block 0 (.loop (c 500)))) (c 63)))))) := by kernel_rfl
theorem g.run (a0 a1 a2 : Int) : runC C (O N) N (c 1) 1 (st0 [.one (.i a0), .one (.i a1), .one (.i a2)] [] : St D0) K0 = g N a0 a1 a2 := by
  rw [c1_0]; unfold g; exact (o0.run N (c 500) a0 a1 a2).trans (congr rfl (fx6 ((loop250 N N))))
def ent : Ent Tryz.prog T0 := mkEntC C tabOk0 mixed0 105 [(false, [.any]), (false, [.any]), (false, [.any])] sig (E N) Tryz.func105 (by kernel_rfl) [(false, [.any]), (false, [.any])] N (fun t => g N t.1 t.2.1 t.2.2) (fun _ => by kernel_rfl) (fun t => g.run N t.1 t.2.1 t.2.2)
end zq80
end Go.Proofs.YtdidghlibfopgaaGreatDoor.M
end
