/- What the program's functions compute, walked by the machine (part 2). No conditions but those stated. -/
import Derived.Test.YtehbhinaopdkeaaFnFnSeenTrue1
noncomputable section
namespace Go.Proofs.Ytehbhinaopdkeaa.M
open Go Go.PM Go.Proofs.Ytehbhinaopdkeaa.P
set_option linter.unusedVariables false
set_option maxRecDepth 100000
/-! ### zq51 -/
abbrev zq51.R : Type := Int × Int × Bool
abbrev zq51.sig : Sig := ⟨[(false, 1), (true, 4)], [], [.int .i64, .int .i64, .int .i64, .int .i64, .int .i64], [(true, 2), (false, 1)], [], [.int .i64, .int .i64, .bool]⟩
def zq51.C : Cfg D0 := ⟨Try.prog, T0, 32827, 0, 19, 0, [(12, [3, 4, 15], [3, 4])], 2112, false, []⟩
def zq51.E (N : Nat) : List (Ent Try.prog T0) := [zq71.ent N, zq78.ent N]
def zq51.O (N : Nat) : Orc D0 zq51.R := orcOf (zq51.E N)
def zq51.K0 : Ex → St D0 → Option zq51.R := exitK zq51.C Try.f28.results.toList [(true, [.any, .any]), (false, [.any])] (decOut zq51.sig)
def zq51.c1 : Code := codeAt (Try.f28.body.getD .skip) []
def zq51.c2 : Code := codeAt (Try.f28.body.getD .skip) [false]
def zq51.c7 : Code := codeAt (Try.f28.body.getD .skip) [true, true]
def zq51.c12 : Code := codeAt (Try.f28.body.getD .skip) [true, false, false]
def zq51.c13 : Code := codeAt (Try.f28.body.getD .skip) [true, false, true]
def zq51.K13 (N : Nat) : Ex → St D0 → Option zq51.R := (onN (fun s => zq51.C.tidy 6 s (fun s' => runC zq51.C (zq51.O N) N zq51.c7 7 s' zq51.K0)) zq51.K0)
def zq51.o1 (N : Nat) (v0 : Bool) (v1 : Int) (v2 : Int) (v3 : Int) (v4 : Int) (v5 : Int) (v6 : Int) : Option zq51.R :=
 bif v0 then
  some (0, 0, false)
 else
 some (v1, v2, true)
theorem zq51.o1.run (N : Nat) (v0 : Bool) (v1 : Int) (v2 : Int) (v3 : Int) (v4 : Int) (v5 : Int) (v6 : Int) : runC zq51.C (zq51.O N) N zq51.c13 13 (mkSt [(3, .one (.ptr 3 0)), (4, .one (.ptr 4 0)), (15, .one (.bool v0))] [(3, some (31, [.int .i64 v1, .int .i64 v2, .int .i64 v3, .int .i64 v4])), (4, some (25, [.int .i64 v5, .int .i64 v6]))] : St D0) (onN (fun s => zq51.C.tidy 6 s (fun s' => runC zq51.C (zq51.O N) N zq51.c7 7 s' zq51.K0)) zq51.K0) = zq51.o1 N v0 v1 v2 v3 v4 v5 v6 := by kernel_rfl
def zq51.d1 (N : Nat) (v0 : Bool) (v1 : Int) (v2 : Int) (v3 : Int) (v4 : Int) (v5 : Int) (v6 : Int) : Option zq51.R := zq51.o1 N v0 v1 v2 v3 v4 v5 v6
theorem zq51.d1.run (N : Nat) (v0 : Bool) (v1 : Int) (v2 : Int) (v3 : Int) (v4 : Int) (v5 : Int) (v6 : Int) : runC zq51.C (zq51.O N) N zq51.c13 13 (mkSt [(3, .one (.ptr 3 0)), (4, .one (.ptr 4 0)), (15, .one (.bool v0))] [(3, some (31, [.int .i64 v1, .int .i64 v2, .int .i64 v3, .int .i64 v4])), (4, some (25, [.int .i64 v5, .int .i64 v6]))] : St D0) (zq51.K13 N) = zq51.d1 N v0 v1 v2 v3 v4 v5 v6 := by
  exact (zq51.o1.run N v0 v1 v2 v3 v4 v5 v6).trans rfl
def zq51.o0 (N : Nat) (a0 : Int) (a1_0 : Int) (a1_1 : Int) (a1_2 : Int) (a1_3 : Int) (c1 : Bool → Int → Int → Int → Int → Int → Int → Option zq51.R) : Option zq51.R :=
 (zq71.g N a0 a1_0 a1_1 a1_2 a1_3).bind fun r1 =>
 bif (!r1) then
  c1 true a1_0 a1_1 a1_2 a1_3 0 0
 else
 (zq78.g N a0 a1_0 a1_1 a1_2 a1_3).bind fun r2 =>
 c1 (!r2) a1_0 a1_1 a1_2 a1_3 0 0
theorem zq51.o0.run (N : Nat) (H13 : Code) (a0 : Int) (a1_0 : Int) (a1_1 : Int) (a1_2 : Int) (a1_3 : Int) : runC zq51.C (zq51.O N) N (.seq zq51.c2 (.seq (.seq zq51.c12 H13) zq51.c7)) 1 (st0 [.one (.int .i64 a0), .agg [.int .i64 a1_0, .int .i64 a1_1, .int .i64 a1_2, .int .i64 a1_3]] [] : St D0) zq51.K0 = zq51.o0 N a0 a1_0 a1_1 a1_2 a1_3 ((fun w0 w1 w2 w3 w4 w5 w6 => runC zq51.C (zq51.O N) N H13 13 (mkSt [(3, .one (.ptr 3 0)), (4, .one (.ptr 4 0)), (15, .one (.bool w0))] [(3, some (31, [.int .i64 w1, .int .i64 w2, .int .i64 w3, .int .i64 w4])), (4, some (25, [.int .i64 w5, .int .i64 w6]))] : St D0) (onN (fun s => zq51.C.tidy 6 s (fun s' => runC zq51.C (zq51.O N) N zq51.c7 7 s' zq51.K0)) zq51.K0))) := by kernel_rfl
def zq51.g (N : Nat) (a0 : Int) (a1_0 : Int) (a1_1 : Int) (a1_2 : Int) (a1_3 : Int) : Option zq51.R := zq51.o0 N a0 a1_0 a1_1 a1_2 a1_3 ((fun w0 w1 w2 w3 w4 w5 w6 => zq51.d1 N w0 w1 w2 w3 w4 w5 w6))
theorem zq51.c1_0 : zq51.c1 = (.seq zq51.c2 (.seq (.seq zq51.c12 zq51.c13) zq51.c7)) := by kernel_rfl
theorem zq51.g.run (N : Nat) (a0 : Int) (a1_0 : Int) (a1_1 : Int) (a1_2 : Int) (a1_3 : Int) : runC zq51.C (zq51.O N) N zq51.c1 1 (st0 [.one (.int .i64 a0), .agg [.int .i64 a1_0, .int .i64 a1_1, .int .i64 a1_2, .int .i64 a1_3]] [] : St D0) zq51.K0 = zq51.g N a0 a1_0 a1_1 a1_2 a1_3 := by
  rw [zq51.c1_0]; unfold zq51.g; exact (zq51.o0.run N zq51.c13 a0 a1_0 a1_1 a1_2 a1_3).trans (congr rfl (funext fun w0 => funext fun w1 => funext fun w2 => funext fun w3 => funext fun w4 => funext fun w5 => funext fun w6 => zq51.d1.run N w0 w1 w2 w3 w4 w5 w6))
theorem zq51.good (N : Nat) (a0 : Int) (a1_0 : Int) (a1_1 : Int) (a1_2 : Int) (a1_3 : Int) (r : zq51.R) (h : zq51.g N a0 a1_0 a1_1 a1_2 a1_3 = some r) : Go.PM.Good Try.prog T0 28 [.one (.int .i64 a0), .agg [.int .i64 a1_0, .int .i64 a1_1, .int .i64 a1_2, .int .i64 a1_3]] [] (zq51.sig.ret r) (zq51.sig.bs r) :=
  good_fn tabOk0 mixed0 zq51.sig (zq51.E N) Try.func28 (by kernel_rfl) (by kernel_rfl) 32827 0 0 [(12, [3, 4, 15], [3, 4])] 2112 false [] [(true, [.any, .any]), (false, [.any])] (by kernel_rfl) rfl rfl ((zq51.g.run N a0 a1_0 a1_1 a1_2 a1_3).trans h)
def zq51.ent (N : Nat) : Ent Try.prog T0 := mkEnt 28 [(false, [.any]), (true, [.any, .any, .any, .any])] zq51.sig (fun t => zq51.g N t.1 t.2.1 t.2.2.1 t.2.2.2.1 t.2.2.2.2) (fun t r h => zq51.good N t.1 t.2.1 t.2.2.1 t.2.2.2.1 t.2.2.2.2 r h)
/-! ### zq48 -/
abbrev zq48.R : Type := Bool × Bool
abbrev zq48.sig : Sig := ⟨[(false, 1), (true, 4)], [], [.int .i64, .int .i64, .int .i64, .int .i64, .int .i64], [(false, 1), (false, 1)], [], [.bool, .bool]⟩
def zq48.C : Cfg D0 := ⟨Try.prog, T0, 571, 0, 13, 0, [], 1088, false, []⟩
def zq48.E (N : Nat) : List (Ent Try.prog T0) := [zq71.ent N, zq78.ent N]
def zq48.O (N : Nat) : Orc D0 zq48.R := orcOf (zq48.E N)
def zq48.K0 : Ex → St D0 → Option zq48.R := exitK zq48.C Try.f29.results.toList [(false, [.any]), (false, [.any])] (decOut zq48.sig)
def zq48.c1 : Code := codeAt (Try.f29.body.getD .skip) []
def zq48.o0 (N : Nat) (a0 : Int) (a1_0 : Int) (a1_1 : Int) (a1_2 : Int) (a1_3 : Int) : Option zq48.R :=
 (zq71.g N a0 a1_0 a1_1 a1_2 a1_3).bind fun r1 =>
 bif (!r1) then
  some (false, false)
 else
 (zq78.g N a0 a1_0 a1_1 a1_2 a1_3).bind fun r2 =>
 some (r2, true)
theorem zq48.o0.run (N : Nat) (a0 : Int) (a1_0 : Int) (a1_1 : Int) (a1_2 : Int) (a1_3 : Int) : runC zq48.C (zq48.O N) N zq48.c1 1 (st0 [.one (.int .i64 a0), .agg [.int .i64 a1_0, .int .i64 a1_1, .int .i64 a1_2, .int .i64 a1_3]] [] : St D0) zq48.K0 = zq48.o0 N a0 a1_0 a1_1 a1_2 a1_3 := by kernel_rfl
def zq48.g (N : Nat) (a0 : Int) (a1_0 : Int) (a1_1 : Int) (a1_2 : Int) (a1_3 : Int) : Option zq48.R := zq48.o0 N a0 a1_0 a1_1 a1_2 a1_3
theorem zq48.g.run (N : Nat) (a0 : Int) (a1_0 : Int) (a1_1 : Int) (a1_2 : Int) (a1_3 : Int) : runC zq48.C (zq48.O N) N zq48.c1 1 (st0 [.one (.int .i64 a0), .agg [.int .i64 a1_0, .int .i64 a1_1, .int .i64 a1_2, .int .i64 a1_3]] [] : St D0) zq48.K0 = zq48.g N a0 a1_0 a1_1 a1_2 a1_3 := by
  exact (zq48.o0.run N a0 a1_0 a1_1 a1_2 a1_3).trans rfl
theorem zq48.good (N : Nat) (a0 : Int) (a1_0 : Int) (a1_1 : Int) (a1_2 : Int) (a1_3 : Int) (r : zq48.R) (h : zq48.g N a0 a1_0 a1_1 a1_2 a1_3 = some r) : Go.PM.Good Try.prog T0 29 [.one (.int .i64 a0), .agg [.int .i64 a1_0, .int .i64 a1_1, .int .i64 a1_2, .int .i64 a1_3]] [] (zq48.sig.ret r) (zq48.sig.bs r) :=
  good_fn tabOk0 mixed0 zq48.sig (zq48.E N) Try.func29 (by kernel_rfl) (by kernel_rfl) 571 0 0 [] 1088 false [] [(false, [.any]), (false, [.any])] (by kernel_rfl) rfl rfl ((zq48.g.run N a0 a1_0 a1_1 a1_2 a1_3).trans h)
def zq48.ent (N : Nat) : Ent Try.prog T0 := mkEnt 29 [(false, [.any]), (true, [.any, .any, .any, .any])] zq48.sig (fun t => zq48.g N t.1 t.2.1 t.2.2.1 t.2.2.2.1 t.2.2.2.2) (fun t r h => zq48.good N t.1 t.2.1 t.2.2.1 t.2.2.2.1 t.2.2.2.2 r h)
/-! ### zq77 -/
abbrev zq77.R : Type := List S25
abbrev zq77.sig : Sig := ⟨[(false, 1), (true, 2)], [], [.sl false 25, .int .i64, .int .i64], [(false, 1)], [], [.sl false 25]⟩
def zq77.C : Cfg D0 := ⟨Try.prog, T0, 8590459003, 0, 48, 0, [(28, [0, 3, 5], [3]), (60, [0, 3, 5, 33], [3]), (112, [0, 3, 5], [3])], 52983132860800, false, []⟩
def zq77.E (N : Nat) : List (Ent Try.prog T0) := [zq55.ent N]
def zq77.O (N : Nat) : Orc D0 zq77.R := orcOf (zq77.E N)
def zq77.K0 : Ex → St D0 → Option zq77.R := exitK zq77.C Try.f78.results.toList [(false, [.ro 25])] (decOut zq77.sig)
def zq77.c1 : Code := codeAt (Try.f78.body.getD .skip) []
def zq77.c2 : Code := codeAt (Try.f78.body.getD .skip) [false]
def zq77.c6 : Code := codeAt (Try.f78.body.getD .skip) [true, false]
def zq77.c15 : Code := codeAt (Try.f78.body.getD .skip) [true, true, true]
def zq77.c31 : Code := codeAt (Try.f78.body.getD .skip) [true, true, true, true]
def zq77.c56 : Code := codeAt (Try.f78.body.getD .skip) [true, true, false, false, false]
def zq77.c60 : Code := codeAt (Try.f78.body.getD .skip) [true, true, true, false, false]
def zq77.c61 : Code := codeAt (Try.f78.body.getD .skip) [true, true, true, false, true]
def zq77.c112 : Code := codeAt (Try.f78.body.getD .skip) [true, true, false, false, false, false]
def zq77.c113 : Code := codeAt (Try.f78.body.getD .skip) [true, true, false, false, false, true]
def zq77.K113 (N : Nat) (Kn28 : St D0 → Option zq77.R) : Ex → St D0 → Option zq77.R := ((fun up => (onN (fun s => zq77.C.tidy 28 s ((onN Kn28 up) .normal)) (onN Kn28 up))) (blockK 0 (onN (fun s => zq77.C.tidy 14 s (fun s' => runC zq77.C (zq77.O N) N zq77.c15 15 s' zq77.K0)) zq77.K0)))
def zq77.o2 (N : Nat) (v0 : List S25) (v1 : Int) (v2 : Int) (v3 : Int) (c1 : (List S25) → Int → Int → Int → Option zq77.R) : Option zq77.R :=
 c1 v0 (w64 (v1 + 1)) v2 v3
theorem zq77.o2.run (N : Nat) (Kn28 : St D0 → Option zq77.R) (v0 : List S25) (v1 : Int) (v2 : Int) (v3 : Int) : runC zq77.C (zq77.O N) N zq77.c113 113 (mkSt [(0, .one (.sl false 25 v0)), (3, .one (.ptr 3 0)), (5, .one (.int .i64 v1))] [(3, some (25, [.int .i64 v2, .int .i64 v3]))] : St D0) ((fun up => (onN (fun s => zq77.C.tidy 28 s ((onN Kn28 up) .normal)) (onN Kn28 up))) (blockK 0 (onN (fun s => zq77.C.tidy 14 s (fun s' => runC zq77.C (zq77.O N) N zq77.c15 15 s' zq77.K0)) zq77.K0))) = zq77.o2 N v0 v1 v2 v3 ((fun w0 w1 w2 w3 => Kn28 (mkSt [(0, .one (.sl false 25 w0)), (3, .one (.ptr 3 0)), (5, .one (.int .i64 w1))] [(3, some (25, [.int .i64 w2, .int .i64 w3]))] : St D0))) := by kernel_rfl
def zq77.d2 (N : Nat) (v0 : List S25) (v1 : Int) (v2 : Int) (v3 : Int) (c1 : (List S25) → Int → Int → Int → Option zq77.R) : Option zq77.R := zq77.o2 N v0 v1 v2 v3 c1
theorem zq77.d2.run (N : Nat) (Kn28 : St D0 → Option zq77.R) (v0 : List S25) (v1 : Int) (v2 : Int) (v3 : Int) : runC zq77.C (zq77.O N) N zq77.c113 113 (mkSt [(0, .one (.sl false 25 v0)), (3, .one (.ptr 3 0)), (5, .one (.int .i64 v1))] [(3, some (25, [.int .i64 v2, .int .i64 v3]))] : St D0) (zq77.K113 N Kn28) = zq77.d2 N v0 v1 v2 v3 ((fun w0 w1 w2 w3 => Kn28 (mkSt [(0, .one (.sl false 25 w0)), (3, .one (.ptr 3 0)), (5, .one (.int .i64 w1))] [(3, some (25, [.int .i64 w2, .int .i64 w3]))] : St D0))) := by
  exact (zq77.o2.run N Kn28 v0 v1 v2 v3).trans rfl
def zq77.K61 (N : Nat) : Ex → St D0 → Option zq77.R := (onN (fun s => zq77.C.tidy 30 s (fun s' => runC zq77.C (zq77.O N) N zq77.c31 31 s' zq77.K0)) zq77.K0)
def zq77.o3 (N : Nat) (v0 : List S25) (v1 : Int) (v2 : Bool) (v3 : Int) (v4 : Int) : Option zq77.R :=
 bif v2 then
  some (v0)
 else
 bif (decide (0 ≤ v1)) then
  bif (decide (v1 ≤ (v0.length : Int))) then
   bif (decide (0 ≤ v1)) then
    bif (Nat.blt (([] : List S25).length + ((v0.take (v1 : Int).toNat).drop (0 : Int).toNat).length) 8796093022208) then
     bif (Nat.blt ((([] : List S25) ++ ((v0.take (v1 : Int).toNat).drop (0 : Int).toNat)).length + ([(⟨v3, v4⟩ : S25)] : List S25).length) 8796093022208) then
      bif (decide (0 ≤ (v0.length : Int))) then
       bif (decide ((v0.length : Int) ≤ (v0.length : Int))) then
        bif (decide (0 ≤ v1)) then
         bif (decide (v1 ≤ (v0.length : Int))) then
          bif (Nat.blt (((([] : List S25) ++ ((v0.take (v1 : Int).toNat).drop (0 : Int).toNat)) ++ ([(⟨v3, v4⟩ : S25)] : List S25)).length + ((v0.take ((v0.length : Int) : Int).toNat).drop (v1 : Int).toNat).length) 8796093022208) then
           some ((((([] : List S25) ++ ((v0.take (v1 : Int).toNat).drop (0 : Int).toNat)) ++ ([(⟨v3, v4⟩ : S25)] : List S25)) ++ ((v0.take ((v0.length : Int) : Int).toNat).drop (v1 : Int).toNat)))
          else
          none
         else
         none
        else
        none
       else
       none
      else
      none
     else
     none
    else
    none
   else
   none
  else
  none
 else
 none
theorem zq77.o3.run (N : Nat) (v0 : List S25) (v1 : Int) (v2 : Bool) (v3 : Int) (v4 : Int) : runC zq77.C (zq77.O N) N zq77.c61 61 (mkSt [(0, .one (.sl false 25 v0)), (3, .one (.ptr 3 0)), (5, .one (.int .i64 v1)), (33, .one (.bool v2))] [(3, some (25, [.int .i64 v3, .int .i64 v4]))] : St D0) (onN (fun s => zq77.C.tidy 30 s (fun s' => runC zq77.C (zq77.O N) N zq77.c31 31 s' zq77.K0)) zq77.K0) = zq77.o3 N v0 v1 v2 v3 v4 := by kernel_rfl
def zq77.d3 (N : Nat) (v0 : List S25) (v1 : Int) (v2 : Bool) (v3 : Int) (v4 : Int) : Option zq77.R := zq77.o3 N v0 v1 v2 v3 v4
theorem zq77.d3.run (N : Nat) (v0 : List S25) (v1 : Int) (v2 : Bool) (v3 : Int) (v4 : Int) : runC zq77.C (zq77.O N) N zq77.c61 61 (mkSt [(0, .one (.sl false 25 v0)), (3, .one (.ptr 3 0)), (5, .one (.int .i64 v1)), (33, .one (.bool v2))] [(3, some (25, [.int .i64 v3, .int .i64 v4]))] : St D0) (zq77.K61 N) = zq77.d3 N v0 v1 v2 v3 v4 := by
  exact (zq77.o3.run N v0 v1 v2 v3 v4).trans rfl
def zq77.K56 (N : Nat) (Kn28 : St D0 → Option zq77.R) : Ex → St D0 → Option zq77.R := ((fun up => (onN (fun s => zq77.C.tidy 28 s ((onN Kn28 up) .normal)) (onN Kn28 up))) (blockK 0 (onN (fun s => zq77.C.tidy 14 s (fun s' => runC zq77.C (zq77.O N) N zq77.c15 15 s' zq77.K0)) zq77.K0)))
def zq77.o1 (N : Nat) (v0 : List S25) (v1 : Int) (v2 : Int) (v3 : Int) (c2 : (List S25) → Int → Int → Int → Option zq77.R) (c3 : (List S25) → Int → Bool → Int → Int → Option zq77.R) : Option zq77.R :=
 bif (decide (v1 < (v0.length : Int))) then
  bif (decide (0 ≤ v1)) then
   bif (decide (v1 < (v0.length : Int))) then
    (v0[(v1 : Int).toNat]?).bind fun x1 =>
    (zq55.g N x1.f0 x1.f1 v2 v3).bind fun r2 =>
    bif (decide (r2 < 0)) then
     c2 v0 v1 v2 v3
    else
    bif (decide (v1 < (v0.length : Int))) then
     bif (decide (0 ≤ v1)) then
      bif (decide (v1 < (v0.length : Int))) then
       (v0[(v1 : Int).toNat]?).bind fun x3 =>
       c3 v0 v1 ((x3.f0 == v2) && ((x3.f1 == v3) && true)) v2 v3
      else
      none
     else
     none
    else
    c3 v0 v1 false v2 v3
   else
   none
  else
  none
 else
 bif (decide (v1 < (v0.length : Int))) then
  bif (decide (0 ≤ v1)) then
   bif (decide (v1 < (v0.length : Int))) then
    (v0[(v1 : Int).toNat]?).bind fun x4 =>
    c3 v0 v1 ((x4.f0 == v2) && ((x4.f1 == v3) && true)) v2 v3
   else
   none
  else
  none
 else
 c3 v0 v1 false v2 v3
theorem zq77.o1.run (N : Nat) (Kn28 : St D0 → Option zq77.R) (H61 : Code) (H113 : Code) (v0 : List S25) (v1 : Int) (v2 : Int) (v3 : Int) : runC zq77.C (zq77.O N) N (.seq zq77.c112 H113) 56 (mkSt [(0, .one (.sl false 25 v0)), (3, .one (.ptr 3 0)), (5, .one (.int .i64 v1))] [(3, some (25, [.int .i64 v2, .int .i64 v3]))] : St D0) ((fun up => (onN (fun s => zq77.C.tidy 28 s ((onN Kn28 up) .normal)) (onN Kn28 up))) (blockK 0 (onN (fun s => zq77.C.tidy 14 s (fun s' => runC zq77.C (zq77.O N) N (.seq (.seq zq77.c60 H61) zq77.c31) 15 s' zq77.K0)) zq77.K0))) = zq77.o1 N v0 v1 v2 v3 ((fun w0 w1 w2 w3 => runC zq77.C (zq77.O N) N H113 113 (mkSt [(0, .one (.sl false 25 w0)), (3, .one (.ptr 3 0)), (5, .one (.int .i64 w1))] [(3, some (25, [.int .i64 w2, .int .i64 w3]))] : St D0) ((fun up => (onN (fun s => zq77.C.tidy 28 s ((onN Kn28 up) .normal)) (onN Kn28 up))) (blockK 0 (onN (fun s => zq77.C.tidy 14 s (fun s' => runC zq77.C (zq77.O N) N (.seq (.seq zq77.c60 H61) zq77.c31) 15 s' zq77.K0)) zq77.K0))))) ((fun w0 w1 w2 w3 w4 => runC zq77.C (zq77.O N) N H61 61 (mkSt [(0, .one (.sl false 25 w0)), (3, .one (.ptr 3 0)), (5, .one (.int .i64 w1)), (33, .one (.bool w2))] [(3, some (25, [.int .i64 w3, .int .i64 w4]))] : St D0) (onN (fun s => zq77.C.tidy 30 s (fun s' => runC zq77.C (zq77.O N) N zq77.c31 31 s' zq77.K0)) zq77.K0))) := by kernel_rfl
def zq77.d1 (N : Nat) (v0 : List S25) (v1 : Int) (v2 : Int) (v3 : Int) (c1 : (List S25) → Int → Int → Int → Option zq77.R) : Option zq77.R := zq77.o1 N v0 v1 v2 v3 ((fun w0 w1 w2 w3 => zq77.d2 N w0 w1 w2 w3 c1)) ((fun w0 w1 w2 w3 w4 => zq77.d3 N w0 w1 w2 w3 w4))
theorem zq77.c56_1 : zq77.c56 = (.seq zq77.c112 zq77.c113) := by kernel_rfl
theorem zq77.d1.run (N : Nat) (Kn28 : St D0 → Option zq77.R) (v0 : List S25) (v1 : Int) (v2 : Int) (v3 : Int) : runC zq77.C (zq77.O N) N zq77.c56 56 (mkSt [(0, .one (.sl false 25 v0)), (3, .one (.ptr 3 0)), (5, .one (.int .i64 v1))] [(3, some (25, [.int .i64 v2, .int .i64 v3]))] : St D0) (zq77.K56 N Kn28) = zq77.d1 N v0 v1 v2 v3 ((fun w0 w1 w2 w3 => Kn28 (mkSt [(0, .one (.sl false 25 w0)), (3, .one (.ptr 3 0)), (5, .one (.int .i64 w1))] [(3, some (25, [.int .i64 w2, .int .i64 w3]))] : St D0))) := by
  rw [zq77.c56_1]; unfold zq77.d1; exact (zq77.o1.run N Kn28 zq77.c61 zq77.c113 v0 v1 v2 v3).trans (congr (congr rfl (funext fun w0 => funext fun w1 => funext fun w2 => funext fun w3 => zq77.d2.run N Kn28 w0 w1 w2 w3)) (funext fun w0 => funext fun w1 => funext fun w2 => funext fun w3 => funext fun w4 => zq77.d3.run N w0 w1 w2 w3 w4))
def zq77.K28 (N : Nat) : Ex → St D0 → Option zq77.R := (blockK 0 (onN (fun s => zq77.C.tidy 14 s (fun s' => runC zq77.C (zq77.O N) N zq77.c15 15 s' zq77.K0)) zq77.K0))
def zq77.l1 (N : Nat) : Nat → (List S25) → Int → Int → Int → Option zq77.R
  | 0, _, _, _, _ => none
  | n + 1, v0, v1, v2, v3 => zq77.d1 N v0 v1 v2 v3 ((fun w0 w1 w2 w3 => zq77.l1 N n w0 w1 w2 w3))
theorem zq77.loop28 (N : Nat) : ∀ n, (∀ (v0 : List S25) (v1 : Int) (v2 : Int) (v3 : Int), iter (loopF zq77.C (zq77.O N) N zq77.c56 28) n (mkSt [(0, .one (.sl false 25 v0)), (3, .one (.ptr 3 0)), (5, .one (.int .i64 v1))] [(3, some (25, [.int .i64 v2, .int .i64 v3]))] : St D0) (zq77.K28 N) = zq77.l1 N n v0 v1 v2 v3)
  | 0 => (fun v0 v1 v2 v3 => rfl)
  | n + 1 => (fun v0 v1 v2 v3 => (zq77.d1.run N (fun s => iter (loopF zq77.C (zq77.O N) N zq77.c56 28) n s (zq77.K28 N)) v0 v1 v2 v3).trans (show _ = zq77.d1 N v0 v1 v2 v3 ((fun w0 w1 w2 w3 => zq77.l1 N n w0 w1 w2 w3)) from (congr rfl (funext fun w0 => funext fun w1 => funext fun w2 => funext fun w3 => (zq77.loop28 N n) w0 w1 w2 w3))))
def zq77.o0 (N : Nat) (a0 : List S25) (a1_0 : Int) (a1_1 : Int) (c1 : (List S25) → Int → Int → Int → Option zq77.R) : Option zq77.R :=
 c1 a0 0 a1_0 a1_1
theorem zq77.o0.run (N : Nat) (H56 : Code) (a0 : List S25) (a1_0 : Int) (a1_1 : Int) : runC zq77.C (zq77.O N) N (.seq zq77.c2 (.seq zq77.c6 (.seq (.block 0 (.loop H56)) zq77.c15))) 1 (st0 [.one (.sl false 25 a0), .agg [.int .i64 a1_0, .int .i64 a1_1]] [] : St D0) zq77.K0 = zq77.o0 N a0 a1_0 a1_1 ((fun w0 w1 w2 w3 => iter (loopF zq77.C (zq77.O N) N H56 28) N (mkSt [(0, .one (.sl false 25 w0)), (3, .one (.ptr 3 0)), (5, .one (.int .i64 w1))] [(3, some (25, [.int .i64 w2, .int .i64 w3]))] : St D0) (blockK 0 (onN (fun s => zq77.C.tidy 14 s (fun s' => runC zq77.C (zq77.O N) N zq77.c15 15 s' zq77.K0)) zq77.K0)))) := by kernel_rfl
def zq77.g (N : Nat) (a0 : List S25) (a1_0 : Int) (a1_1 : Int) : Option zq77.R := zq77.o0 N a0 a1_0 a1_1 ((fun w0 w1 w2 w3 => zq77.l1 N N w0 w1 w2 w3))
theorem zq77.c1_0 : zq77.c1 = (.seq zq77.c2 (.seq zq77.c6 (.seq (.block 0 (.loop zq77.c56)) zq77.c15))) := by kernel_rfl
theorem zq77.g.run (N : Nat) (a0 : List S25) (a1_0 : Int) (a1_1 : Int) : runC zq77.C (zq77.O N) N zq77.c1 1 (st0 [.one (.sl false 25 a0), .agg [.int .i64 a1_0, .int .i64 a1_1]] [] : St D0) zq77.K0 = zq77.g N a0 a1_0 a1_1 := by
  rw [zq77.c1_0]; unfold zq77.g; exact (zq77.o0.run N zq77.c56 a0 a1_0 a1_1).trans (congr rfl (funext fun w0 => funext fun w1 => funext fun w2 => funext fun w3 => (zq77.loop28 N N) w0 w1 w2 w3))
theorem zq77.good (N : Nat) (a0 : List S25) (a1_0 : Int) (a1_1 : Int) (r : zq77.R) (h : zq77.g N a0 a1_0 a1_1 = some r) : Go.PM.Good Try.prog T0 78 [.one (.sl false 25 a0), .agg [.int .i64 a1_0, .int .i64 a1_1]] [] (zq77.sig.ret r) (zq77.sig.bs r) :=
  good_fn tabOk0 mixed0 zq77.sig (zq77.E N) Try.func78 (by kernel_rfl) (by kernel_rfl) 8590459003 0 0 [(28, [0, 3, 5], [3]), (60, [0, 3, 5, 33], [3]), (112, [0, 3, 5], [3])] 52983132860800 false [] [(false, [.ro 25])] (by kernel_rfl) rfl rfl ((zq77.g.run N a0 a1_0 a1_1).trans h)
def zq77.ent (N : Nat) : Ent Try.prog T0 := mkEnt 78 [(false, [.ro 25]), (true, [.any, .any])] zq77.sig (fun t => zq77.g N t.1 t.2.1 t.2.2) (fun t r h => zq77.good N t.1 t.2.1 t.2.2 r h)
/-! ### zq52 -/
abbrev zq52.R : Type := List S25 × Bool
abbrev zq52.sig : Sig := ⟨[(false, 1), (true, 4)], [], [.int .i64, .int .i64, .int .i64, .int .i64, .int .i64], [(false, 1), (false, 1)], [], [.sl false 25, .bool]⟩
def zq52.C : Cfg D0 := ⟨Try.prog, T0, 17764731, 0, 31, 0, [(122, [0, 6, 16, 17, 18], [])], 37749248, false, []⟩
def zq52.E (N : Nat) : List (Ent Try.prog T0) := [zq71.ent N, zq72.ent N, zq78.ent N, zq77.ent N]
def zq52.O (N : Nat) : Orc D0 zq52.R := orcOf (zq52.E N)
def zq52.K0 : Ex → St D0 → Option zq52.R := exitK zq52.C Try.f30.results.toList [(false, [.ro 25]), (false, [.any])] (decOut zq52.sig)
def zq52.c1 : Code := codeAt (Try.f30.body.getD .skip) []
def zq52.c2 : Code := codeAt (Try.f30.body.getD .skip) [false]
def zq52.c6 : Code := codeAt (Try.f30.body.getD .skip) [true, false]
def zq52.c14 : Code := codeAt (Try.f30.body.getD .skip) [true, true, false]
def zq52.c31 : Code := codeAt (Try.f30.body.getD .skip) [true, true, true, true]
def zq52.c60 : Code := codeAt (Try.f30.body.getD .skip) [true, true, true, false, false]
def zq52.c244 : Code := codeAt (Try.f30.body.getD .skip) [true, true, true, false, true, false, false]
def zq52.K244 (N : Nat) (Kn122 : St D0 → Option zq52.R) : Ex → St D0 → Option zq52.R := ((fun up => (onN (fun s => zq52.C.tidy 122 s ((onN Kn122 up) .normal)) (onN Kn122 up))) (blockK 0 (onN (fun s => zq52.C.tidy 30 s (fun s' => runC zq52.C (zq52.O N) N zq52.c31 31 s' zq52.K0)) zq52.K0)))
def zq52.o1 (N : Nat) (v0 : Int) (v1 : List S31) (v2 : Int) (v3 : Int) (c2 : Int → (List S25) → (List S31) → Int → Int → Option zq52.R) (c1 : Int → (List S31) → Int → Int → Option zq52.R) : Option zq52.R :=
 bif (decide (v3 < v2)) then
  bif (decide (0 ≤ v3)) then
   bif (decide (v3 < (v1.length : Int))) then
    (v1[(v3 : Int).toNat]?).bind fun x1 =>
    (zq78.g N v0 x1.f0 x1.f1 x1.f2 x1.f3).bind fun r2 =>
    bif r2 then
     (zq77.g N ([] : List S25) x1.f0 x1.f1).bind fun r3 =>
     c2 v0 r3 v1 v2 (w64 (v3 + 1))
    else
    c1 v0 v1 v2 (w64 (v3 + 1))
   else
   none
  else
  none
 else
 some (([] : List S25), true)
theorem zq52.o1.run (N : Nat) (Kn122 : St D0 → Option zq52.R) (v0 : Int) (v1 : List S31) (v2 : Int) (v3 : Int) : runC zq52.C (zq52.O N) N zq52.c244 244 (mkSt [(0, .one (.int .i64 v0)), (6, .one (.nl)), (16, .one (.sl true 31 v1)), (17, .one (.int .i64 v2)), (18, .one (.int .i64 v3))] [] : St D0) ((fun up => (onN (fun s => zq52.C.tidy 122 s ((onN Kn122 up) .normal)) (onN Kn122 up))) (blockK 0 (onN (fun s => zq52.C.tidy 30 s (fun s' => runC zq52.C (zq52.O N) N zq52.c31 31 s' zq52.K0)) zq52.K0))) = zq52.o1 N v0 v1 v2 v3 ((fun w0 w1 w2 w3 w4 => Kn122 (mkSt [(0, .one (.int .i64 w0)), (6, .one (.sl false 25 w1)), (16, .one (.sl true 31 w2)), (17, .one (.int .i64 w3)), (18, .one (.int .i64 w4))] [] : St D0))) ((fun w0 w1 w2 w3 => Kn122 (mkSt [(0, .one (.int .i64 w0)), (6, .one (.nl)), (16, .one (.sl true 31 w1)), (17, .one (.int .i64 w2)), (18, .one (.int .i64 w3))] [] : St D0))) := by kernel_rfl
def zq52.d1 (N : Nat) (v0 : Int) (v1 : List S31) (v2 : Int) (v3 : Int) (c1 : Int → (List S31) → Int → Int → Option zq52.R) (c2 : Int → (List S25) → (List S31) → Int → Int → Option zq52.R) : Option zq52.R := zq52.o1 N v0 v1 v2 v3 c2 c1
theorem zq52.d1.run (N : Nat) (Kn122 : St D0 → Option zq52.R) (v0 : Int) (v1 : List S31) (v2 : Int) (v3 : Int) : runC zq52.C (zq52.O N) N zq52.c244 244 (mkSt [(0, .one (.int .i64 v0)), (6, .one (.nl)), (16, .one (.sl true 31 v1)), (17, .one (.int .i64 v2)), (18, .one (.int .i64 v3))] [] : St D0) (zq52.K244 N Kn122) = zq52.d1 N v0 v1 v2 v3 ((fun w0 w1 w2 w3 => Kn122 (mkSt [(0, .one (.int .i64 w0)), (6, .one (.nl)), (16, .one (.sl true 31 w1)), (17, .one (.int .i64 w2)), (18, .one (.int .i64 w3))] [] : St D0))) ((fun w0 w1 w2 w3 w4 => Kn122 (mkSt [(0, .one (.int .i64 w0)), (6, .one (.sl false 25 w1)), (16, .one (.sl true 31 w2)), (17, .one (.int .i64 w3)), (18, .one (.int .i64 w4))] [] : St D0))) := by
  exact (zq52.o1.run N Kn122 v0 v1 v2 v3).trans rfl
def zq52.o2 (N : Nat) (v0 : Int) (v1 : List S25) (v2 : List S31) (v3 : Int) (v4 : Int) (c2 : Int → (List S25) → (List S31) → Int → Int → Option zq52.R) : Option zq52.R :=
 bif (decide (v4 < v3)) then
  bif (decide (0 ≤ v4)) then
   bif (decide (v4 < (v2.length : Int))) then
    (v2[(v4 : Int).toNat]?).bind fun x1 =>
    (zq78.g N v0 x1.f0 x1.f1 x1.f2 x1.f3).bind fun r2 =>
    bif r2 then
     (zq77.g N v1 x1.f0 x1.f1).bind fun r3 =>
     c2 v0 r3 v2 v3 (w64 (v4 + 1))
    else
    c2 v0 v1 v2 v3 (w64 (v4 + 1))
   else
   none
  else
  none
 else
 some (v1, true)
theorem zq52.o2.run (N : Nat) (Kn122 : St D0 → Option zq52.R) (v0 : Int) (v1 : List S25) (v2 : List S31) (v3 : Int) (v4 : Int) : runC zq52.C (zq52.O N) N zq52.c244 244 (mkSt [(0, .one (.int .i64 v0)), (6, .one (.sl false 25 v1)), (16, .one (.sl true 31 v2)), (17, .one (.int .i64 v3)), (18, .one (.int .i64 v4))] [] : St D0) ((fun up => (onN (fun s => zq52.C.tidy 122 s ((onN Kn122 up) .normal)) (onN Kn122 up))) (blockK 0 (onN (fun s => zq52.C.tidy 30 s (fun s' => runC zq52.C (zq52.O N) N zq52.c31 31 s' zq52.K0)) zq52.K0))) = zq52.o2 N v0 v1 v2 v3 v4 ((fun w0 w1 w2 w3 w4 => Kn122 (mkSt [(0, .one (.int .i64 w0)), (6, .one (.sl false 25 w1)), (16, .one (.sl true 31 w2)), (17, .one (.int .i64 w3)), (18, .one (.int .i64 w4))] [] : St D0))) := by kernel_rfl
def zq52.d2 (N : Nat) (v0 : Int) (v1 : List S25) (v2 : List S31) (v3 : Int) (v4 : Int) (c2 : Int → (List S25) → (List S31) → Int → Int → Option zq52.R) : Option zq52.R := zq52.o2 N v0 v1 v2 v3 v4 c2
theorem zq52.d2.run (N : Nat) (Kn122 : St D0 → Option zq52.R) (v0 : Int) (v1 : List S25) (v2 : List S31) (v3 : Int) (v4 : Int) : runC zq52.C (zq52.O N) N zq52.c244 244 (mkSt [(0, .one (.int .i64 v0)), (6, .one (.sl false 25 v1)), (16, .one (.sl true 31 v2)), (17, .one (.int .i64 v3)), (18, .one (.int .i64 v4))] [] : St D0) (zq52.K244 N Kn122) = zq52.d2 N v0 v1 v2 v3 v4 ((fun w0 w1 w2 w3 w4 => Kn122 (mkSt [(0, .one (.int .i64 w0)), (6, .one (.sl false 25 w1)), (16, .one (.sl true 31 w2)), (17, .one (.int .i64 w3)), (18, .one (.int .i64 w4))] [] : St D0))) := by
  exact (zq52.o2.run N Kn122 v0 v1 v2 v3 v4).trans rfl
def zq52.K122 (N : Nat) : Ex → St D0 → Option zq52.R := (blockK 0 (onN (fun s => zq52.C.tidy 30 s (fun s' => runC zq52.C (zq52.O N) N zq52.c31 31 s' zq52.K0)) zq52.K0))
mutual
def zq52.l1 (N : Nat) : Nat → Int → (List S31) → Int → Int → Option zq52.R
  | 0, _, _, _, _ => none
  | n + 1, v0, v1, v2, v3 => zq52.d1 N v0 v1 v2 v3 ((fun w0 w1 w2 w3 => zq52.l1 N n w0 w1 w2 w3)) ((fun w0 w1 w2 w3 w4 => zq52.l2 N n w0 w1 w2 w3 w4))
def zq52.l2 (N : Nat) : Nat → Int → (List S25) → (List S31) → Int → Int → Option zq52.R
  | 0, _, _, _, _, _ => none
  | n + 1, v0, v1, v2, v3, v4 => zq52.d2 N v0 v1 v2 v3 v4 ((fun w0 w1 w2 w3 w4 => zq52.l2 N n w0 w1 w2 w3 w4))
end
theorem zq52.loop122 (N : Nat) : ∀ n, (∀ (v0 : Int) (v1 : List S31) (v2 : Int) (v3 : Int), iter (loopF zq52.C (zq52.O N) N zq52.c244 122) n (mkSt [(0, .one (.int .i64 v0)), (6, .one (.nl)), (16, .one (.sl true 31 v1)), (17, .one (.int .i64 v2)), (18, .one (.int .i64 v3))] [] : St D0) (zq52.K122 N) = zq52.l1 N n v0 v1 v2 v3) ∧ (∀ (v0 : Int) (v1 : List S25) (v2 : List S31) (v3 : Int) (v4 : Int), iter (loopF zq52.C (zq52.O N) N zq52.c244 122) n (mkSt [(0, .one (.int .i64 v0)), (6, .one (.sl false 25 v1)), (16, .one (.sl true 31 v2)), (17, .one (.int .i64 v3)), (18, .one (.int .i64 v4))] [] : St D0) (zq52.K122 N) = zq52.l2 N n v0 v1 v2 v3 v4)
  | 0 => ⟨(fun v0 v1 v2 v3 => rfl), (fun v0 v1 v2 v3 v4 => rfl)⟩
  | n + 1 => ⟨(fun v0 v1 v2 v3 => (zq52.d1.run N (fun s => iter (loopF zq52.C (zq52.O N) N zq52.c244 122) n s (zq52.K122 N)) v0 v1 v2 v3).trans (show _ = zq52.d1 N v0 v1 v2 v3 ((fun w0 w1 w2 w3 => zq52.l1 N n w0 w1 w2 w3)) ((fun w0 w1 w2 w3 w4 => zq52.l2 N n w0 w1 w2 w3 w4)) from (congr (congr rfl (funext fun w0 => funext fun w1 => funext fun w2 => funext fun w3 => (zq52.loop122 N n).1 w0 w1 w2 w3)) (funext fun w0 => funext fun w1 => funext fun w2 => funext fun w3 => funext fun w4 => (zq52.loop122 N n).2 w0 w1 w2 w3 w4)))), (fun v0 v1 v2 v3 v4 => (zq52.d2.run N (fun s => iter (loopF zq52.C (zq52.O N) N zq52.c244 122) n s (zq52.K122 N)) v0 v1 v2 v3 v4).trans (show _ = zq52.d2 N v0 v1 v2 v3 v4 ((fun w0 w1 w2 w3 w4 => zq52.l2 N n w0 w1 w2 w3 w4)) from (congr rfl (funext fun w0 => funext fun w1 => funext fun w2 => funext fun w3 => funext fun w4 => (zq52.loop122 N n).2 w0 w1 w2 w3 w4))))⟩
def zq52.o0 (N : Nat) (a0 : Int) (a1_0 : Int) (a1_1 : Int) (a1_2 : Int) (a1_3 : Int) (c1 : Int → (List S31) → Int → Int → Option zq52.R) : Option zq52.R :=
 (zq71.g N a0 a1_0 a1_1 a1_2 a1_3).bind fun r1 =>
 bif (!r1) then
  some (([] : List S25), false)
 else
 (zq72.g N a1_0 a1_1 a1_2 a1_3).bind fun r2 =>
 c1 a0 ([(⟨a1_0, a1_1, a1_2, a1_3⟩ : S31), (⟨r2.1, r2.2.1, r2.2.2.1, r2.2.2.2⟩ : S31)] : List S31) (([(⟨a1_0, a1_1, a1_2, a1_3⟩ : S31), (⟨r2.1, r2.2.1, r2.2.2.1, r2.2.2.2⟩ : S31)] : List S31).length : Int) 0
theorem zq52.o0.run (N : Nat) (H244 : Code) (a0 : Int) (a1_0 : Int) (a1_1 : Int) (a1_2 : Int) (a1_3 : Int) : runC zq52.C (zq52.O N) N (.seq zq52.c2 (.seq zq52.c6 (.seq zq52.c14 (.seq (.seq zq52.c60 (.block 0 (.loop H244))) zq52.c31)))) 1 (st0 [.one (.int .i64 a0), .agg [.int .i64 a1_0, .int .i64 a1_1, .int .i64 a1_2, .int .i64 a1_3]] [] : St D0) zq52.K0 = zq52.o0 N a0 a1_0 a1_1 a1_2 a1_3 ((fun w0 w1 w2 w3 => iter (loopF zq52.C (zq52.O N) N H244 122) N (mkSt [(0, .one (.int .i64 w0)), (6, .one (.nl)), (16, .one (.sl true 31 w1)), (17, .one (.int .i64 w2)), (18, .one (.int .i64 w3))] [] : St D0) (blockK 0 (onN (fun s => zq52.C.tidy 30 s (fun s' => runC zq52.C (zq52.O N) N zq52.c31 31 s' zq52.K0)) zq52.K0)))) := by kernel_rfl
def zq52.g (N : Nat) (a0 : Int) (a1_0 : Int) (a1_1 : Int) (a1_2 : Int) (a1_3 : Int) : Option zq52.R := zq52.o0 N a0 a1_0 a1_1 a1_2 a1_3 ((fun w0 w1 w2 w3 => zq52.l1 N N w0 w1 w2 w3))
theorem zq52.c1_0 : zq52.c1 = (.seq zq52.c2 (.seq zq52.c6 (.seq zq52.c14 (.seq (.seq zq52.c60 (.block 0 (.loop zq52.c244))) zq52.c31)))) := by kernel_rfl
theorem zq52.g.run (N : Nat) (a0 : Int) (a1_0 : Int) (a1_1 : Int) (a1_2 : Int) (a1_3 : Int) : runC zq52.C (zq52.O N) N zq52.c1 1 (st0 [.one (.int .i64 a0), .agg [.int .i64 a1_0, .int .i64 a1_1, .int .i64 a1_2, .int .i64 a1_3]] [] : St D0) zq52.K0 = zq52.g N a0 a1_0 a1_1 a1_2 a1_3 := by
  rw [zq52.c1_0]; unfold zq52.g; exact (zq52.o0.run N zq52.c244 a0 a1_0 a1_1 a1_2 a1_3).trans (congr rfl (funext fun w0 => funext fun w1 => funext fun w2 => funext fun w3 => (zq52.loop122 N N).1 w0 w1 w2 w3))
theorem zq52.good (N : Nat) (a0 : Int) (a1_0 : Int) (a1_1 : Int) (a1_2 : Int) (a1_3 : Int) (r : zq52.R) (h : zq52.g N a0 a1_0 a1_1 a1_2 a1_3 = some r) : Go.PM.Good Try.prog T0 30 [.one (.int .i64 a0), .agg [.int .i64 a1_0, .int .i64 a1_1, .int .i64 a1_2, .int .i64 a1_3]] [] (zq52.sig.ret r) (zq52.sig.bs r) :=
  good_fn tabOk0 mixed0 zq52.sig (zq52.E N) Try.func30 (by kernel_rfl) (by kernel_rfl) 17764731 0 0 [(122, [0, 6, 16, 17, 18], [])] 37749248 false [] [(false, [.ro 25]), (false, [.any])] (by kernel_rfl) rfl rfl ((zq52.g.run N a0 a1_0 a1_1 a1_2 a1_3).trans h)
def zq52.ent (N : Nat) : Ent Try.prog T0 := mkEnt 30 [(false, [.any]), (true, [.any, .any, .any, .any])] zq52.sig (fun t => zq52.g N t.1 t.2.1 t.2.2.1 t.2.2.2.1 t.2.2.2.2) (fun t r h => zq52.good N t.1 t.2.1 t.2.2.1 t.2.2.2.1 t.2.2.2.2 r h)
/-! ### zq45 -/
abbrev zq45.R : Type := Int × Int × Int × Int × Bool
abbrev zq45.sig : Sig := ⟨[(true, 4)], [], [.int .i64, .int .i64, .int .i64, .int .i64], [(true, 4), (false, 1)], [], [.int .i64, .int .i64, .int .i64, .int .i64, .bool]⟩
def zq45.C : Cfg D0 := ⟨Try.prog, T0, 79, 0, 10, 0, [], 0, false, []⟩
def zq45.E (N : Nat) : List (Ent Try.prog T0) := [zq73.ent N, zq72.ent N]
def zq45.O (N : Nat) : Orc D0 zq45.R := orcOf (zq45.E N)
def zq45.K0 : Ex → St D0 → Option zq45.R := exitK zq45.C Try.f32.results.toList [(true, [.any, .any, .any, .any]), (false, [.any])] (decOut zq45.sig)
def zq45.c1 : Code := codeAt (Try.f32.body.getD .skip) []
def zq45.o0 (N : Nat) (a0_0 : Int) (a0_1 : Int) (a0_2 : Int) (a0_3 : Int) : Option zq45.R :=
 (zq73.g N a0_0 a0_1 a0_2 a0_3).bind fun r1 =>
 bif (!r1) then
  some (0, 0, 0, 0, false)
 else
 (zq72.g N a0_0 a0_1 a0_2 a0_3).bind fun r2 =>
 some (r2.1, r2.2.1, r2.2.2.1, r2.2.2.2, true)
theorem zq45.o0.run (N : Nat) (a0_0 : Int) (a0_1 : Int) (a0_2 : Int) (a0_3 : Int) : runC zq45.C (zq45.O N) N zq45.c1 1 (st0 [.agg [.int .i64 a0_0, .int .i64 a0_1, .int .i64 a0_2, .int .i64 a0_3]] [] : St D0) zq45.K0 = zq45.o0 N a0_0 a0_1 a0_2 a0_3 := by kernel_rfl
def zq45.g (N : Nat) (a0_0 : Int) (a0_1 : Int) (a0_2 : Int) (a0_3 : Int) : Option zq45.R := zq45.o0 N a0_0 a0_1 a0_2 a0_3
theorem zq45.g.run (N : Nat) (a0_0 : Int) (a0_1 : Int) (a0_2 : Int) (a0_3 : Int) : runC zq45.C (zq45.O N) N zq45.c1 1 (st0 [.agg [.int .i64 a0_0, .int .i64 a0_1, .int .i64 a0_2, .int .i64 a0_3]] [] : St D0) zq45.K0 = zq45.g N a0_0 a0_1 a0_2 a0_3 := by
  exact (zq45.o0.run N a0_0 a0_1 a0_2 a0_3).trans rfl
theorem zq45.good (N : Nat) (a0_0 : Int) (a0_1 : Int) (a0_2 : Int) (a0_3 : Int) (r : zq45.R) (h : zq45.g N a0_0 a0_1 a0_2 a0_3 = some r) : Go.PM.Good Try.prog T0 32 [.agg [.int .i64 a0_0, .int .i64 a0_1, .int .i64 a0_2, .int .i64 a0_3]] [] (zq45.sig.ret r) (zq45.sig.bs r) :=
  good_fn tabOk0 mixed0 zq45.sig (zq45.E N) Try.func32 (by kernel_rfl) (by kernel_rfl) 79 0 0 [] 0 false [] [(true, [.any, .any, .any, .any]), (false, [.any])] (by kernel_rfl) rfl rfl ((zq45.g.run N a0_0 a0_1 a0_2 a0_3).trans h)
def zq45.ent (N : Nat) : Ent Try.prog T0 := mkEnt 32 [(true, [.any, .any, .any, .any])] zq45.sig (fun t => zq45.g N t.1 t.2.1 t.2.2.1 t.2.2.2) (fun t r h => zq45.good N t.1 t.2.1 t.2.2.1 t.2.2.2 r h)
/-! ### zq47 -/
abbrev zq47.R : Type := Bool
abbrev zq47.sig : Sig := ⟨[(true, 4)], [], [.int .i64, .int .i64, .int .i64, .int .i64], [(false, 1)], [], [.bool]⟩
def zq47.C : Cfg D0 := ⟨Try.prog, T0, 7, 0, 5, 0, [], 0, false, []⟩
def zq47.E (N : Nat) : List (Ent Try.prog T0) := [zq73.ent N]
def zq47.O (N : Nat) : Orc D0 zq47.R := orcOf (zq47.E N)
def zq47.K0 : Ex → St D0 → Option zq47.R := exitK zq47.C Try.f33.results.toList [(false, [.any])] (decOut zq47.sig)
def zq47.c1 : Code := codeAt (Try.f33.body.getD .skip) []
def zq47.o0 (N : Nat) (a0_0 : Int) (a0_1 : Int) (a0_2 : Int) (a0_3 : Int) : Option zq47.R :=
 (zq73.g N a0_0 a0_1 a0_2 a0_3).bind fun r1 =>
 some (r1)
theorem zq47.o0.run (N : Nat) (a0_0 : Int) (a0_1 : Int) (a0_2 : Int) (a0_3 : Int) : runC zq47.C (zq47.O N) N zq47.c1 1 (st0 [.agg [.int .i64 a0_0, .int .i64 a0_1, .int .i64 a0_2, .int .i64 a0_3]] [] : St D0) zq47.K0 = zq47.o0 N a0_0 a0_1 a0_2 a0_3 := by kernel_rfl
def zq47.g (N : Nat) (a0_0 : Int) (a0_1 : Int) (a0_2 : Int) (a0_3 : Int) : Option zq47.R := zq47.o0 N a0_0 a0_1 a0_2 a0_3
theorem zq47.g.run (N : Nat) (a0_0 : Int) (a0_1 : Int) (a0_2 : Int) (a0_3 : Int) : runC zq47.C (zq47.O N) N zq47.c1 1 (st0 [.agg [.int .i64 a0_0, .int .i64 a0_1, .int .i64 a0_2, .int .i64 a0_3]] [] : St D0) zq47.K0 = zq47.g N a0_0 a0_1 a0_2 a0_3 := by
  exact (zq47.o0.run N a0_0 a0_1 a0_2 a0_3).trans rfl
theorem zq47.good (N : Nat) (a0_0 : Int) (a0_1 : Int) (a0_2 : Int) (a0_3 : Int) (r : zq47.R) (h : zq47.g N a0_0 a0_1 a0_2 a0_3 = some r) : Go.PM.Good Try.prog T0 33 [.agg [.int .i64 a0_0, .int .i64 a0_1, .int .i64 a0_2, .int .i64 a0_3]] [] (zq47.sig.ret r) (zq47.sig.bs r) :=
  good_fn tabOk0 mixed0 zq47.sig (zq47.E N) Try.func33 (by kernel_rfl) (by kernel_rfl) 7 0 0 [] 0 false [] [(false, [.any])] (by kernel_rfl) rfl rfl ((zq47.g.run N a0_0 a0_1 a0_2 a0_3).trans h)
def zq47.ent (N : Nat) : Ent Try.prog T0 := mkEnt 33 [(true, [.any, .any, .any, .any])] zq47.sig (fun t => zq47.g N t.1 t.2.1 t.2.2.1 t.2.2.2) (fun t r h => zq47.good N t.1 t.2.1 t.2.2.1 t.2.2.2 r h)
/-! ### zq9 -/
abbrev zq9.R : Type := Int × Int × Int × Int × Bool
abbrev zq9.sig : Sig := ⟨[(true, 4)], [], [.int .i64, .int .i64, .int .i64, .int .i64], [(true, 4), (false, 1)], [], [.int .i64, .int .i64, .int .i64, .int .i64, .bool]⟩
def zq9.C : Cfg D0 := ⟨Try.prog, T0, 79, 0, 15, 0, [], 0, false, []⟩
def zq9.E (N : Nat) : List (Ent Try.prog T0) := [zq6.ent N, zq16.ent N]
def zq9.O (N : Nat) : Orc D0 zq9.R := orcOf (zq9.E N)
def zq9.K0 : Ex → St D0 → Option zq9.R := exitK zq9.C Try.f26.results.toList [(true, [.any, .any, .any, .any]), (false, [.any])] (decOut zq9.sig)
def zq9.c1 : Code := codeAt (Try.f26.body.getD .skip) []
def zq9.o0 (N : Nat) (a0_0 : Int) (a0_1 : Int) (a0_2 : Int) (a0_3 : Int) : Option zq9.R :=
 (zq6.g N a0_0 a0_1 a0_2 a0_3).bind fun r1 =>
 bif (!r1) then
  some (0, 0, 0, 0, false)
 else
 (zq16.g N a0_0 a0_1).bind fun r2 =>
 (zq16.g N a0_2 a0_3).bind fun r3 =>
 some (r2.1, r2.2, r3.1, r3.2, true)
theorem zq9.o0.run (N : Nat) (a0_0 : Int) (a0_1 : Int) (a0_2 : Int) (a0_3 : Int) : runC zq9.C (zq9.O N) N zq9.c1 1 (st0 [.agg [.int .i64 a0_0, .int .i64 a0_1, .int .i64 a0_2, .int .i64 a0_3]] [] : St D0) zq9.K0 = zq9.o0 N a0_0 a0_1 a0_2 a0_3 := by kernel_rfl
def zq9.g (N : Nat) (a0_0 : Int) (a0_1 : Int) (a0_2 : Int) (a0_3 : Int) : Option zq9.R := zq9.o0 N a0_0 a0_1 a0_2 a0_3
theorem zq9.g.run (N : Nat) (a0_0 : Int) (a0_1 : Int) (a0_2 : Int) (a0_3 : Int) : runC zq9.C (zq9.O N) N zq9.c1 1 (st0 [.agg [.int .i64 a0_0, .int .i64 a0_1, .int .i64 a0_2, .int .i64 a0_3]] [] : St D0) zq9.K0 = zq9.g N a0_0 a0_1 a0_2 a0_3 := by
  exact (zq9.o0.run N a0_0 a0_1 a0_2 a0_3).trans rfl
theorem zq9.good (N : Nat) (a0_0 : Int) (a0_1 : Int) (a0_2 : Int) (a0_3 : Int) (r : zq9.R) (h : zq9.g N a0_0 a0_1 a0_2 a0_3 = some r) : Go.PM.Good Try.prog T0 26 [.agg [.int .i64 a0_0, .int .i64 a0_1, .int .i64 a0_2, .int .i64 a0_3]] [] (zq9.sig.ret r) (zq9.sig.bs r) :=
  good_fn tabOk0 mixed0 zq9.sig (zq9.E N) Try.func26 (by kernel_rfl) (by kernel_rfl) 79 0 0 [] 0 false [] [(true, [.any, .any, .any, .any]), (false, [.any])] (by kernel_rfl) rfl rfl ((zq9.g.run N a0_0 a0_1 a0_2 a0_3).trans h)
def zq9.ent (N : Nat) : Ent Try.prog T0 := mkEnt 26 [(true, [.any, .any, .any, .any])] zq9.sig (fun t => zq9.g N t.1 t.2.1 t.2.2.1 t.2.2.2) (fun t r h => zq9.good N t.1 t.2.1 t.2.2.1 t.2.2.2 r h)
/-! ### zq74 -/
abbrev zq74.R : Type := Int × Int × Int × Int
abbrev zq74.sig : Sig := ⟨[(true, 4)], [], [.int .i64, .int .i64, .int .i64, .int .i64], [(true, 4)], [], [.int .i64, .int .i64, .int .i64, .int .i64]⟩
def zq74.C : Cfg D0 := ⟨Try.prog, T0, 7, 0, 10, 0, [], 0, false, []⟩
def zq74.E (N : Nat) : List (Ent Try.prog T0) := [zq59.ent N]
def zq74.O (N : Nat) : Orc D0 zq74.R := orcOf (zq74.E N)
def zq74.K0 : Ex → St D0 → Option zq74.R := exitK zq74.C Try.f74.results.toList [(true, [.any, .any, .any, .any])] (decOut zq74.sig)
def zq74.c1 : Code := codeAt (Try.f74.body.getD .skip) []
def zq74.o0 (N : Nat) (a0_0 : Int) (a0_1 : Int) (a0_2 : Int) (a0_3 : Int) : Option zq74.R :=
 (zq59.g N a0_0 a0_1).bind fun r1 =>
 (zq59.g N a0_2 a0_3).bind fun r2 =>
 some (r1.1, r1.2, r2.1, r2.2)
theorem zq74.o0.run (N : Nat) (a0_0 : Int) (a0_1 : Int) (a0_2 : Int) (a0_3 : Int) : runC zq74.C (zq74.O N) N zq74.c1 1 (st0 [.agg [.int .i64 a0_0, .int .i64 a0_1, .int .i64 a0_2, .int .i64 a0_3]] [] : St D0) zq74.K0 = zq74.o0 N a0_0 a0_1 a0_2 a0_3 := by kernel_rfl
def zq74.g (N : Nat) (a0_0 : Int) (a0_1 : Int) (a0_2 : Int) (a0_3 : Int) : Option zq74.R := zq74.o0 N a0_0 a0_1 a0_2 a0_3
theorem zq74.g.run (N : Nat) (a0_0 : Int) (a0_1 : Int) (a0_2 : Int) (a0_3 : Int) : runC zq74.C (zq74.O N) N zq74.c1 1 (st0 [.agg [.int .i64 a0_0, .int .i64 a0_1, .int .i64 a0_2, .int .i64 a0_3]] [] : St D0) zq74.K0 = zq74.g N a0_0 a0_1 a0_2 a0_3 := by
  exact (zq74.o0.run N a0_0 a0_1 a0_2 a0_3).trans rfl
theorem zq74.good (N : Nat) (a0_0 : Int) (a0_1 : Int) (a0_2 : Int) (a0_3 : Int) (r : zq74.R) (h : zq74.g N a0_0 a0_1 a0_2 a0_3 = some r) : Go.PM.Good Try.prog T0 74 [.agg [.int .i64 a0_0, .int .i64 a0_1, .int .i64 a0_2, .int .i64 a0_3]] [] (zq74.sig.ret r) (zq74.sig.bs r) :=
  good_fn tabOk0 mixed0 zq74.sig (zq74.E N) Try.func74 (by kernel_rfl) (by kernel_rfl) 7 0 0 [] 0 false [] [(true, [.any, .any, .any, .any])] (by kernel_rfl) rfl rfl ((zq74.g.run N a0_0 a0_1 a0_2 a0_3).trans h)
def zq74.ent (N : Nat) : Ent Try.prog T0 := mkEnt 74 [(true, [.any, .any, .any, .any])] zq74.sig (fun t => zq74.g N t.1 t.2.1 t.2.2.1 t.2.2.2) (fun t r h => zq74.good N t.1 t.2.1 t.2.2.1 t.2.2.2 r h)
/-! ### zq2 -/
abbrev zq2.R : Type := List S25 × Bool
abbrev zq2.sig : Sig := ⟨[(false, 1)], [], [.int .i64], [(false, 1), (false, 1)], [], [.sl false 25, .bool]⟩
def zq2.C : Cfg D0 := ⟨Try.prog, T0, 77, 0, 18, 0, [], 784, false, []⟩
def zq2.E (N : Nat) : List (Ent Try.prog T0) := [zq23.ent N, zq28.ent N, zq22.ent N]
def zq2.O (N : Nat) : Orc D0 zq2.R := orcOf (zq2.E N)
def zq2.K0 : Ex → St D0 → Option zq2.R := exitK zq2.C Try.f19.results.toList [(false, [.ro 25]), (false, [.any])] (decOut zq2.sig)
def zq2.c1 : Code := codeAt (Try.f19.body.getD .skip) []
def zq2.o0 (N : Nat) (a0 : Int) : Option zq2.R :=
 (zq23.g N a0).bind fun r1 =>
 bif (!r1) then
  some (([] : List S25), false)
 else
 (zq28.g N 0 1 (w64 ((w64 (a0 * a0)) - 1))).bind fun r2 =>
 (zq22.g N r2.1 r2.2).bind fun r3 =>
 some (r3.1, r3.2)
theorem zq2.o0.run (N : Nat) (a0 : Int) : runC zq2.C (zq2.O N) N zq2.c1 1 (st0 [.one (.int .i64 a0)] [] : St D0) zq2.K0 = zq2.o0 N a0 := by kernel_rfl
def zq2.g (N : Nat) (a0 : Int) : Option zq2.R := zq2.o0 N a0
theorem zq2.g.run (N : Nat) (a0 : Int) : runC zq2.C (zq2.O N) N zq2.c1 1 (st0 [.one (.int .i64 a0)] [] : St D0) zq2.K0 = zq2.g N a0 := by
  exact (zq2.o0.run N a0).trans rfl
theorem zq2.good (N : Nat) (a0 : Int) (r : zq2.R) (h : zq2.g N a0 = some r) : Go.PM.Good Try.prog T0 19 [.one (.int .i64 a0)] [] (zq2.sig.ret r) (zq2.sig.bs r) :=
  good_fn tabOk0 mixed0 zq2.sig (zq2.E N) Try.func19 (by kernel_rfl) (by kernel_rfl) 77 0 0 [] 784 false [] [(false, [.ro 25]), (false, [.any])] (by kernel_rfl) rfl rfl ((zq2.g.run N a0).trans h)
def zq2.ent (N : Nat) : Ent Try.prog T0 := mkEnt 19 [(false, [.any])] zq2.sig (fun t => zq2.g N t) (fun t r h => zq2.good N t r h)
/-! ### zq39 -/
abbrev zq39.R : Type := List S25 × Bool
abbrev zq39.sig : Sig := ⟨[(false, 1)], [], [.int .i64], [(false, 1), (false, 1)], [], [.sl true 25, .bool]⟩
def zq39.C : Cfg D0 := ⟨Try.prog, T0, 77, 0, 12, 0, [], 400, false, []⟩
def zq39.E (N : Nat) : List (Ent Try.prog T0) := [zq57.ent N, zq76.ent N]
def zq39.O (N : Nat) : Orc D0 zq39.R := orcOf (zq39.E N)
def zq39.K0 : Ex → St D0 → Option zq39.R := exitK zq39.C Try.f20.results.toList [(false, [.own 25]), (false, [.any])] (decOut zq39.sig)
def zq39.c1 : Code := codeAt (Try.f20.body.getD .skip) []
def zq39.o0 (N : Nat) (a0 : Int) : Option zq39.R :=
 (zq57.g N a0).bind fun r1 =>
 bif (!r1) then
  some (([] : List S25), false)
 else
 (zq76.g N 0 (w64 ((w64 (a0 * a0)) - 1))).bind fun r2 =>
 some (r2, true)
theorem zq39.o0.run (N : Nat) (a0 : Int) : runC zq39.C (zq39.O N) N zq39.c1 1 (st0 [.one (.int .i64 a0)] [] : St D0) zq39.K0 = zq39.o0 N a0 := by kernel_rfl
def zq39.g (N : Nat) (a0 : Int) : Option zq39.R := zq39.o0 N a0
theorem zq39.g.run (N : Nat) (a0 : Int) : runC zq39.C (zq39.O N) N zq39.c1 1 (st0 [.one (.int .i64 a0)] [] : St D0) zq39.K0 = zq39.g N a0 := by
  exact (zq39.o0.run N a0).trans rfl
theorem zq39.good (N : Nat) (a0 : Int) (r : zq39.R) (h : zq39.g N a0 = some r) : Go.PM.Good Try.prog T0 20 [.one (.int .i64 a0)] [] (zq39.sig.ret r) (zq39.sig.bs r) :=
  good_fn tabOk0 mixed0 zq39.sig (zq39.E N) Try.func20 (by kernel_rfl) (by kernel_rfl) 77 0 0 [] 400 false [] [(false, [.own 25]), (false, [.any])] (by kernel_rfl) rfl rfl ((zq39.g.run N a0).trans h)
def zq39.ent (N : Nat) : Ent Try.prog T0 := mkEnt 20 [(false, [.any])] zq39.sig (fun t => zq39.g N t) (fun t r h => zq39.good N t r h)
/-! ### zq3 -/
abbrev zq3.R : Type := Int × Bool
abbrev zq3.sig : Sig := ⟨[(false, 1)], [], [.int .i64], [(false, 1), (false, 1)], [], [.int .i64, .bool]⟩
def zq3.C : Cfg D0 := ⟨Try.prog, T0, 77, 0, 12, 0, [], 1424, false, []⟩
def zq3.E (N : Nat) : List (Ent Try.prog T0) := [zq23.ent N]
def zq3.O (N : Nat) : Orc D0 zq3.R := orcOf (zq3.E N)
def zq3.K0 : Ex → St D0 → Option zq3.R := exitK zq3.C Try.f21.results.toList [(false, [.any]), (false, [.any])] (decOut zq3.sig)
def zq3.c1 : Code := codeAt (Try.f21.body.getD .skip) []
def zq3.o0 (N : Nat) (a0 : Int) : Option zq3.R :=
 (zq23.g N a0).bind fun r1 =>
 bif (!r1) then
  some (0, false)
 else
 some ((w64 ((w64 (a0 * a0)) - a0)), true)
theorem zq3.o0.run (N : Nat) (a0 : Int) : runC zq3.C (zq3.O N) N zq3.c1 1 (st0 [.one (.int .i64 a0)] [] : St D0) zq3.K0 = zq3.o0 N a0 := by kernel_rfl
def zq3.g (N : Nat) (a0 : Int) : Option zq3.R := zq3.o0 N a0
theorem zq3.g.run (N : Nat) (a0 : Int) : runC zq3.C (zq3.O N) N zq3.c1 1 (st0 [.one (.int .i64 a0)] [] : St D0) zq3.K0 = zq3.g N a0 := by
  exact (zq3.o0.run N a0).trans rfl
theorem zq3.good (N : Nat) (a0 : Int) (r : zq3.R) (h : zq3.g N a0 = some r) : Go.PM.Good Try.prog T0 21 [.one (.int .i64 a0)] [] (zq3.sig.ret r) (zq3.sig.bs r) :=
  good_fn tabOk0 mixed0 zq3.sig (zq3.E N) Try.func21 (by kernel_rfl) (by kernel_rfl) 77 0 0 [] 1424 false [] [(false, [.any]), (false, [.any])] (by kernel_rfl) rfl rfl ((zq3.g.run N a0).trans h)
def zq3.ent (N : Nat) : Ent Try.prog T0 := mkEnt 21 [(false, [.any])] zq3.sig (fun t => zq3.g N t) (fun t r h => zq3.good N t r h)
/-! ### zq40 -/
abbrev zq40.R : Type := Int × Bool
abbrev zq40.sig : Sig := ⟨[(false, 1)], [], [.int .i64], [(false, 1), (false, 1)], [], [.int .i64, .bool]⟩
def zq40.C : Cfg D0 := ⟨Try.prog, T0, 77, 0, 14, 0, [], 2448, false, []⟩
def zq40.E (N : Nat) : List (Ent Try.prog T0) := [zq57.ent N]
def zq40.O (N : Nat) : Orc D0 zq40.R := orcOf (zq40.E N)
def zq40.K0 : Ex → St D0 → Option zq40.R := exitK zq40.C Try.f22.results.toList [(false, [.any]), (false, [.any])] (decOut zq40.sig)
def zq40.c1 : Code := codeAt (Try.f22.body.getD .skip) []
def zq40.o0 (N : Nat) (a0 : Int) : Option zq40.R :=
 (zq57.g N a0).bind fun r1 =>
 bif (!r1) then
  some (0, false)
 else
 some ((w64 ((w64 ((w64 (a0 * a0)) - 1)) - (w64 (a0 - 1)))), true)
theorem zq40.o0.run (N : Nat) (a0 : Int) : runC zq40.C (zq40.O N) N zq40.c1 1 (st0 [.one (.int .i64 a0)] [] : St D0) zq40.K0 = zq40.o0 N a0 := by kernel_rfl
def zq40.g (N : Nat) (a0 : Int) : Option zq40.R := zq40.o0 N a0
theorem zq40.g.run (N : Nat) (a0 : Int) : runC zq40.C (zq40.O N) N zq40.c1 1 (st0 [.one (.int .i64 a0)] [] : St D0) zq40.K0 = zq40.g N a0 := by
  exact (zq40.o0.run N a0).trans rfl
theorem zq40.good (N : Nat) (a0 : Int) (r : zq40.R) (h : zq40.g N a0 = some r) : Go.PM.Good Try.prog T0 22 [.one (.int .i64 a0)] [] (zq40.sig.ret r) (zq40.sig.bs r) :=
  good_fn tabOk0 mixed0 zq40.sig (zq40.E N) Try.func22 (by kernel_rfl) (by kernel_rfl) 77 0 0 [] 2448 false [] [(false, [.any]), (false, [.any])] (by kernel_rfl) rfl rfl ((zq40.g.run N a0).trans h)
def zq40.ent (N : Nat) : Ent Try.prog T0 := mkEnt 22 [(false, [.any])] zq40.sig (fun t => zq40.g N t) (fun t r h => zq40.good N t r h)
/-! ### zq10 -/
abbrev zq10.R : Type := List S25 × Bool
abbrev zq10.sig : Sig := ⟨[(false, 1)], [], [.int .i64], [(false, 1), (false, 1)], [], [.sl true 25, .bool]⟩
def zq10.C : Cfg D0 := ⟨Try.prog, T0, 77, 0, 10, 0, [], 16, false, []⟩
def zq10.E (N : Nat) : List (Ent Try.prog T0) := [zq23.ent N]
def zq10.O (N : Nat) : Orc D0 zq10.R := orcOf (zq10.E N)
def zq10.K0 : Ex → St D0 → Option zq10.R := exitK zq10.C Try.f23.results.toList [(false, [.own 25]), (false, [.any])] (decOut zq10.sig)
def zq10.c1 : Code := codeAt (Try.f23.body.getD .skip) []
def zq10.o0 (N : Nat) (a0 : Int) : Option zq10.R :=
 (zq23.g N a0).bind fun r1 =>
 bif (!r1) then
  some (([] : List S25), false)
 else
 some (([(⟨0, 1⟩ : S25), (⟨1, 2⟩ : S25)] : List S25), true)
theorem zq10.o0.run (N : Nat) (a0 : Int) : runC zq10.C (zq10.O N) N zq10.c1 1 (st0 [.one (.int .i64 a0)] [] : St D0) zq10.K0 = zq10.o0 N a0 := by kernel_rfl
def zq10.g (N : Nat) (a0 : Int) : Option zq10.R := zq10.o0 N a0
theorem zq10.g.run (N : Nat) (a0 : Int) : runC zq10.C (zq10.O N) N zq10.c1 1 (st0 [.one (.int .i64 a0)] [] : St D0) zq10.K0 = zq10.g N a0 := by
  exact (zq10.o0.run N a0).trans rfl
theorem zq10.good (N : Nat) (a0 : Int) (r : zq10.R) (h : zq10.g N a0 = some r) : Go.PM.Good Try.prog T0 23 [.one (.int .i64 a0)] [] (zq10.sig.ret r) (zq10.sig.bs r) :=
  good_fn tabOk0 mixed0 zq10.sig (zq10.E N) Try.func23 (by kernel_rfl) (by kernel_rfl) 77 0 0 [] 16 false [] [(false, [.own 25]), (false, [.any])] (by kernel_rfl) rfl rfl ((zq10.g.run N a0).trans h)
def zq10.ent (N : Nat) : Ent Try.prog T0 := mkEnt 23 [(false, [.any])] zq10.sig (fun t => zq10.g N t) (fun t r h => zq10.good N t r h)
/-! ### zq49 -/
abbrev zq49.R : Type := List S25 × Bool
abbrev zq49.sig : Sig := ⟨[(false, 1)], [], [.int .i64], [(false, 1), (false, 1)], [], [.sl true 25, .bool]⟩
def zq49.C : Cfg D0 := ⟨Try.prog, T0, 8404573, 0, 30, 0, [(122, [0, 4, 10, 11, 12], [])], 1114240, false, []⟩
def zq49.E (N : Nat) : List (Ent Try.prog T0) := [zq57.ent N, zq76.ent N, zq75.ent N, zq74.ent N]
def zq49.O (N : Nat) : Orc D0 zq49.R := orcOf (zq49.E N)
def zq49.K0 : Ex → St D0 → Option zq49.R := exitK zq49.C Try.f24.results.toList [(false, [.own 25]), (false, [.any])] (decOut zq49.sig)
def zq49.c1 : Code := codeAt (Try.f24.body.getD .skip) []
def zq49.c2 : Code := codeAt (Try.f24.body.getD .skip) [false]
def zq49.c6 : Code := codeAt (Try.f24.body.getD .skip) [true, false]
def zq49.c14 : Code := codeAt (Try.f24.body.getD .skip) [true, true, false]
def zq49.c31 : Code := codeAt (Try.f24.body.getD .skip) [true, true, true, true]
def zq49.c60 : Code := codeAt (Try.f24.body.getD .skip) [true, true, true, false, false]
def zq49.c244 : Code := codeAt (Try.f24.body.getD .skip) [true, true, true, false, true, false, false]
def zq49.K244 (N : Nat) (Kn122 : St D0 → Option zq49.R) : Ex → St D0 → Option zq49.R := ((fun up => (onN (fun s => zq49.C.tidy 122 s ((onN Kn122 up) .normal)) (onN Kn122 up))) (blockK 0 (onN (fun s => zq49.C.tidy 30 s (fun s' => runC zq49.C (zq49.O N) N zq49.c31 31 s' zq49.K0)) zq49.K0)))
def zq49.o1 (N : Nat) (v0 : Int) (v1 : List S25) (v2 : Int) (v3 : Int) (c2 : Int → (List S25) → (List S25) → Int → Int → Option zq49.R) (c1 : Int → (List S25) → Int → Int → Option zq49.R) : Option zq49.R :=
 bif (decide (v3 < v2)) then
  bif (decide (0 ≤ v3)) then
   bif (decide (v3 < (v1.length : Int))) then
    (v1[(v3 : Int).toNat]?).bind fun x1 =>
    (zq75.g N v0 x1.f0 x1.f1).bind fun r2 =>
    (zq74.g N r2.1 r2.2.1 r2.2.2.1 r2.2.2.2).bind fun r3 =>
    (zq75.g N v0 x1.f0 x1.f1).bind fun r4 =>
    bif (((r3.1 == r4.1) && ((r3.2.1 == r4.2.1) && true)) && (((r3.2.2.1 == r4.2.2.1) && ((r3.2.2.2 == r4.2.2.2) && true)) && true)) then
     bif (Nat.blt (([] : List S25).length + ([(⟨x1.f0, x1.f1⟩ : S25)] : List S25).length) 8796093022208) then
      c2 v0 (([] : List S25) ++ ([(⟨x1.f0, x1.f1⟩ : S25)] : List S25)) v1 v2 (w64 (v3 + 1))
     else
     none
    else
    c1 v0 v1 v2 (w64 (v3 + 1))
   else
   none
  else
  none
 else
 some (([] : List S25), true)
theorem zq49.o1.run (N : Nat) (Kn122 : St D0 → Option zq49.R) (v0 : Int) (v1 : List S25) (v2 : Int) (v3 : Int) : runC zq49.C (zq49.O N) N zq49.c244 244 (mkSt [(0, .one (.int .i64 v0)), (4, .one (.nl)), (10, .one (.sl true 25 v1)), (11, .one (.int .i64 v2)), (12, .one (.int .i64 v3))] [] : St D0) ((fun up => (onN (fun s => zq49.C.tidy 122 s ((onN Kn122 up) .normal)) (onN Kn122 up))) (blockK 0 (onN (fun s => zq49.C.tidy 30 s (fun s' => runC zq49.C (zq49.O N) N zq49.c31 31 s' zq49.K0)) zq49.K0))) = zq49.o1 N v0 v1 v2 v3 ((fun w0 w1 w2 w3 w4 => Kn122 (mkSt [(0, .one (.int .i64 w0)), (4, .one (.sl true 25 w1)), (10, .one (.sl true 25 w2)), (11, .one (.int .i64 w3)), (12, .one (.int .i64 w4))] [] : St D0))) ((fun w0 w1 w2 w3 => Kn122 (mkSt [(0, .one (.int .i64 w0)), (4, .one (.nl)), (10, .one (.sl true 25 w1)), (11, .one (.int .i64 w2)), (12, .one (.int .i64 w3))] [] : St D0))) := by kernel_rfl
def zq49.d1 (N : Nat) (v0 : Int) (v1 : List S25) (v2 : Int) (v3 : Int) (c1 : Int → (List S25) → Int → Int → Option zq49.R) (c2 : Int → (List S25) → (List S25) → Int → Int → Option zq49.R) : Option zq49.R := zq49.o1 N v0 v1 v2 v3 c2 c1
theorem zq49.d1.run (N : Nat) (Kn122 : St D0 → Option zq49.R) (v0 : Int) (v1 : List S25) (v2 : Int) (v3 : Int) : runC zq49.C (zq49.O N) N zq49.c244 244 (mkSt [(0, .one (.int .i64 v0)), (4, .one (.nl)), (10, .one (.sl true 25 v1)), (11, .one (.int .i64 v2)), (12, .one (.int .i64 v3))] [] : St D0) (zq49.K244 N Kn122) = zq49.d1 N v0 v1 v2 v3 ((fun w0 w1 w2 w3 => Kn122 (mkSt [(0, .one (.int .i64 w0)), (4, .one (.nl)), (10, .one (.sl true 25 w1)), (11, .one (.int .i64 w2)), (12, .one (.int .i64 w3))] [] : St D0))) ((fun w0 w1 w2 w3 w4 => Kn122 (mkSt [(0, .one (.int .i64 w0)), (4, .one (.sl true 25 w1)), (10, .one (.sl true 25 w2)), (11, .one (.int .i64 w3)), (12, .one (.int .i64 w4))] [] : St D0))) := by
  exact (zq49.o1.run N Kn122 v0 v1 v2 v3).trans rfl
def zq49.o2 (N : Nat) (v0 : Int) (v1 : List S25) (v2 : List S25) (v3 : Int) (v4 : Int) (c2 : Int → (List S25) → (List S25) → Int → Int → Option zq49.R) : Option zq49.R :=
 bif (decide (v4 < v3)) then
  bif (decide (0 ≤ v4)) then
   bif (decide (v4 < (v2.length : Int))) then
    (v2[(v4 : Int).toNat]?).bind fun x1 =>
    (zq75.g N v0 x1.f0 x1.f1).bind fun r2 =>
    (zq74.g N r2.1 r2.2.1 r2.2.2.1 r2.2.2.2).bind fun r3 =>
    (zq75.g N v0 x1.f0 x1.f1).bind fun r4 =>
    bif (((r3.1 == r4.1) && ((r3.2.1 == r4.2.1) && true)) && (((r3.2.2.1 == r4.2.2.1) && ((r3.2.2.2 == r4.2.2.2) && true)) && true)) then
     bif (Nat.blt (v1.length + ([(⟨x1.f0, x1.f1⟩ : S25)] : List S25).length) 8796093022208) then
      c2 v0 (v1 ++ ([(⟨x1.f0, x1.f1⟩ : S25)] : List S25)) v2 v3 (w64 (v4 + 1))
     else
     none
    else
    c2 v0 v1 v2 v3 (w64 (v4 + 1))
   else
   none
  else
  none
 else
 some (v1, true)
theorem zq49.o2.run (N : Nat) (Kn122 : St D0 → Option zq49.R) (v0 : Int) (v1 : List S25) (v2 : List S25) (v3 : Int) (v4 : Int) : runC zq49.C (zq49.O N) N zq49.c244 244 (mkSt [(0, .one (.int .i64 v0)), (4, .one (.sl true 25 v1)), (10, .one (.sl true 25 v2)), (11, .one (.int .i64 v3)), (12, .one (.int .i64 v4))] [] : St D0) ((fun up => (onN (fun s => zq49.C.tidy 122 s ((onN Kn122 up) .normal)) (onN Kn122 up))) (blockK 0 (onN (fun s => zq49.C.tidy 30 s (fun s' => runC zq49.C (zq49.O N) N zq49.c31 31 s' zq49.K0)) zq49.K0))) = zq49.o2 N v0 v1 v2 v3 v4 ((fun w0 w1 w2 w3 w4 => Kn122 (mkSt [(0, .one (.int .i64 w0)), (4, .one (.sl true 25 w1)), (10, .one (.sl true 25 w2)), (11, .one (.int .i64 w3)), (12, .one (.int .i64 w4))] [] : St D0))) := by kernel_rfl
def zq49.d2 (N : Nat) (v0 : Int) (v1 : List S25) (v2 : List S25) (v3 : Int) (v4 : Int) (c2 : Int → (List S25) → (List S25) → Int → Int → Option zq49.R) : Option zq49.R := zq49.o2 N v0 v1 v2 v3 v4 c2
theorem zq49.d2.run (N : Nat) (Kn122 : St D0 → Option zq49.R) (v0 : Int) (v1 : List S25) (v2 : List S25) (v3 : Int) (v4 : Int) : runC zq49.C (zq49.O N) N zq49.c244 244 (mkSt [(0, .one (.int .i64 v0)), (4, .one (.sl true 25 v1)), (10, .one (.sl true 25 v2)), (11, .one (.int .i64 v3)), (12, .one (.int .i64 v4))] [] : St D0) (zq49.K244 N Kn122) = zq49.d2 N v0 v1 v2 v3 v4 ((fun w0 w1 w2 w3 w4 => Kn122 (mkSt [(0, .one (.int .i64 w0)), (4, .one (.sl true 25 w1)), (10, .one (.sl true 25 w2)), (11, .one (.int .i64 w3)), (12, .one (.int .i64 w4))] [] : St D0))) := by
  exact (zq49.o2.run N Kn122 v0 v1 v2 v3 v4).trans rfl
def zq49.K122 (N : Nat) : Ex → St D0 → Option zq49.R := (blockK 0 (onN (fun s => zq49.C.tidy 30 s (fun s' => runC zq49.C (zq49.O N) N zq49.c31 31 s' zq49.K0)) zq49.K0))
mutual
def zq49.l1 (N : Nat) : Nat → Int → (List S25) → Int → Int → Option zq49.R
  | 0, _, _, _, _ => none
  | n + 1, v0, v1, v2, v3 => zq49.d1 N v0 v1 v2 v3 ((fun w0 w1 w2 w3 => zq49.l1 N n w0 w1 w2 w3)) ((fun w0 w1 w2 w3 w4 => zq49.l2 N n w0 w1 w2 w3 w4))
def zq49.l2 (N : Nat) : Nat → Int → (List S25) → (List S25) → Int → Int → Option zq49.R
  | 0, _, _, _, _, _ => none
  | n + 1, v0, v1, v2, v3, v4 => zq49.d2 N v0 v1 v2 v3 v4 ((fun w0 w1 w2 w3 w4 => zq49.l2 N n w0 w1 w2 w3 w4))
end
theorem zq49.loop122 (N : Nat) : ∀ n, (∀ (v0 : Int) (v1 : List S25) (v2 : Int) (v3 : Int), iter (loopF zq49.C (zq49.O N) N zq49.c244 122) n (mkSt [(0, .one (.int .i64 v0)), (4, .one (.nl)), (10, .one (.sl true 25 v1)), (11, .one (.int .i64 v2)), (12, .one (.int .i64 v3))] [] : St D0) (zq49.K122 N) = zq49.l1 N n v0 v1 v2 v3) ∧ (∀ (v0 : Int) (v1 : List S25) (v2 : List S25) (v3 : Int) (v4 : Int), iter (loopF zq49.C (zq49.O N) N zq49.c244 122) n (mkSt [(0, .one (.int .i64 v0)), (4, .one (.sl true 25 v1)), (10, .one (.sl true 25 v2)), (11, .one (.int .i64 v3)), (12, .one (.int .i64 v4))] [] : St D0) (zq49.K122 N) = zq49.l2 N n v0 v1 v2 v3 v4)
  | 0 => ⟨(fun v0 v1 v2 v3 => rfl), (fun v0 v1 v2 v3 v4 => rfl)⟩
  | n + 1 => ⟨(fun v0 v1 v2 v3 => (zq49.d1.run N (fun s => iter (loopF zq49.C (zq49.O N) N zq49.c244 122) n s (zq49.K122 N)) v0 v1 v2 v3).trans (show _ = zq49.d1 N v0 v1 v2 v3 ((fun w0 w1 w2 w3 => zq49.l1 N n w0 w1 w2 w3)) ((fun w0 w1 w2 w3 w4 => zq49.l2 N n w0 w1 w2 w3 w4)) from (congr (congr rfl (funext fun w0 => funext fun w1 => funext fun w2 => funext fun w3 => (zq49.loop122 N n).1 w0 w1 w2 w3)) (funext fun w0 => funext fun w1 => funext fun w2 => funext fun w3 => funext fun w4 => (zq49.loop122 N n).2 w0 w1 w2 w3 w4)))), (fun v0 v1 v2 v3 v4 => (zq49.d2.run N (fun s => iter (loopF zq49.C (zq49.O N) N zq49.c244 122) n s (zq49.K122 N)) v0 v1 v2 v3 v4).trans (show _ = zq49.d2 N v0 v1 v2 v3 v4 ((fun w0 w1 w2 w3 w4 => zq49.l2 N n w0 w1 w2 w3 w4)) from (congr rfl (funext fun w0 => funext fun w1 => funext fun w2 => funext fun w3 => funext fun w4 => (zq49.loop122 N n).2 w0 w1 w2 w3 w4))))⟩
def zq49.o0 (N : Nat) (a0 : Int) (c1 : Int → (List S25) → Int → Int → Option zq49.R) : Option zq49.R :=
 (zq57.g N a0).bind fun r1 =>
 bif (!r1) then
  some (([] : List S25), false)
 else
 (zq76.g N 0 2).bind fun r2 =>
 c1 a0 r2 (r2.length : Int) 0
theorem zq49.o0.run (N : Nat) (H244 : Code) (a0 : Int) : runC zq49.C (zq49.O N) N (.seq zq49.c2 (.seq zq49.c6 (.seq zq49.c14 (.seq (.seq zq49.c60 (.block 0 (.loop H244))) zq49.c31)))) 1 (st0 [.one (.int .i64 a0)] [] : St D0) zq49.K0 = zq49.o0 N a0 ((fun w0 w1 w2 w3 => iter (loopF zq49.C (zq49.O N) N H244 122) N (mkSt [(0, .one (.int .i64 w0)), (4, .one (.nl)), (10, .one (.sl true 25 w1)), (11, .one (.int .i64 w2)), (12, .one (.int .i64 w3))] [] : St D0) (blockK 0 (onN (fun s => zq49.C.tidy 30 s (fun s' => runC zq49.C (zq49.O N) N zq49.c31 31 s' zq49.K0)) zq49.K0)))) := by kernel_rfl
def zq49.g (N : Nat) (a0 : Int) : Option zq49.R := zq49.o0 N a0 ((fun w0 w1 w2 w3 => zq49.l1 N N w0 w1 w2 w3))
theorem zq49.c1_0 : zq49.c1 = (.seq zq49.c2 (.seq zq49.c6 (.seq zq49.c14 (.seq (.seq zq49.c60 (.block 0 (.loop zq49.c244))) zq49.c31)))) := by kernel_rfl
theorem zq49.g.run (N : Nat) (a0 : Int) : runC zq49.C (zq49.O N) N zq49.c1 1 (st0 [.one (.int .i64 a0)] [] : St D0) zq49.K0 = zq49.g N a0 := by
  rw [zq49.c1_0]; unfold zq49.g; exact (zq49.o0.run N zq49.c244 a0).trans (congr rfl (funext fun w0 => funext fun w1 => funext fun w2 => funext fun w3 => (zq49.loop122 N N).1 w0 w1 w2 w3))
theorem zq49.good (N : Nat) (a0 : Int) (r : zq49.R) (h : zq49.g N a0 = some r) : Go.PM.Good Try.prog T0 24 [.one (.int .i64 a0)] [] (zq49.sig.ret r) (zq49.sig.bs r) :=
  good_fn tabOk0 mixed0 zq49.sig (zq49.E N) Try.func24 (by kernel_rfl) (by kernel_rfl) 8404573 0 0 [(122, [0, 4, 10, 11, 12], [])] 1114240 false [] [(false, [.own 25]), (false, [.any])] (by kernel_rfl) rfl rfl ((zq49.g.run N a0).trans h)
def zq49.ent (N : Nat) : Ent Try.prog T0 := mkEnt 24 [(false, [.any])] zq49.sig (fun t => zq49.g N t) (fun t r h => zq49.good N t r h)
/-! ### zq33 -/
abbrev zq33.R : Type := Bool
abbrev zq33.sig : Sig := ⟨[(false, 1), (true, 2)], [], [.sl false 25, .int .i64, .int .i64], [(false, 1)], [], [.bool]⟩
def zq33.C : Cfg D0 := ⟨Try.prog, T0, 34779, 0, 17, 0, [(26, [3, 7, 8, 9], [3])], 0, false, []⟩
def zq33.E (N : Nat) : List (Ent Try.prog T0) := []
def zq33.O (N : Nat) : Orc D0 zq33.R := orcOf (zq33.E N)
def zq33.K0 : Ex → St D0 → Option zq33.R := exitK zq33.C Try.f16.results.toList [(false, [.any])] (decOut zq33.sig)
def zq33.c1 : Code := codeAt (Try.f16.body.getD .skip) []
def zq33.c2 : Code := codeAt (Try.f16.body.getD .skip) [false]
def zq33.c7 : Code := codeAt (Try.f16.body.getD .skip) [true, true]
def zq33.c12 : Code := codeAt (Try.f16.body.getD .skip) [true, false, false]
def zq33.c52 : Code := codeAt (Try.f16.body.getD .skip) [true, false, true, false, false]
def zq33.K52 (N : Nat) (Kn26 : St D0 → Option zq33.R) : Ex → St D0 → Option zq33.R := ((fun up => (onN (fun s => zq33.C.tidy 26 s ((onN Kn26 up) .normal)) (onN Kn26 up))) (blockK 0 (onN (fun s => zq33.C.tidy 6 s (fun s' => runC zq33.C (zq33.O N) N zq33.c7 7 s' zq33.K0)) zq33.K0)))
def zq33.o1 (N : Nat) (v0 : List S25) (v1 : Int) (v2 : Int) (v3 : Int) (v4 : Int) (c1 : (List S25) → Int → Int → Int → Int → Option zq33.R) : Option zq33.R :=
 bif (decide (v2 < v1)) then
  bif (decide (0 ≤ v2)) then
   bif (decide (v2 < (v0.length : Int))) then
    (v0[(v2 : Int).toNat]?).bind fun x1 =>
    bif ((x1.f0 == v3) && ((x1.f1 == v4) && true)) then
     some (true)
    else
    c1 v0 v1 (w64 (v2 + 1)) v3 v4
   else
   none
  else
  none
 else
 some (false)
theorem zq33.o1.run (N : Nat) (Kn26 : St D0 → Option zq33.R) (v0 : List S25) (v1 : Int) (v2 : Int) (v3 : Int) (v4 : Int) : runC zq33.C (zq33.O N) N zq33.c52 52 (mkSt [(3, .one (.ptr 3 0)), (7, .one (.sl false 25 v0)), (8, .one (.int .i64 v1)), (9, .one (.int .i64 v2))] [(3, some (25, [.int .i64 v3, .int .i64 v4]))] : St D0) ((fun up => (onN (fun s => zq33.C.tidy 26 s ((onN Kn26 up) .normal)) (onN Kn26 up))) (blockK 0 (onN (fun s => zq33.C.tidy 6 s (fun s' => runC zq33.C (zq33.O N) N zq33.c7 7 s' zq33.K0)) zq33.K0))) = zq33.o1 N v0 v1 v2 v3 v4 ((fun w0 w1 w2 w3 w4 => Kn26 (mkSt [(3, .one (.ptr 3 0)), (7, .one (.sl false 25 w0)), (8, .one (.int .i64 w1)), (9, .one (.int .i64 w2))] [(3, some (25, [.int .i64 w3, .int .i64 w4]))] : St D0))) := by kernel_rfl
def zq33.d1 (N : Nat) (v0 : List S25) (v1 : Int) (v2 : Int) (v3 : Int) (v4 : Int) (c1 : (List S25) → Int → Int → Int → Int → Option zq33.R) : Option zq33.R := zq33.o1 N v0 v1 v2 v3 v4 c1
theorem zq33.d1.run (N : Nat) (Kn26 : St D0 → Option zq33.R) (v0 : List S25) (v1 : Int) (v2 : Int) (v3 : Int) (v4 : Int) : runC zq33.C (zq33.O N) N zq33.c52 52 (mkSt [(3, .one (.ptr 3 0)), (7, .one (.sl false 25 v0)), (8, .one (.int .i64 v1)), (9, .one (.int .i64 v2))] [(3, some (25, [.int .i64 v3, .int .i64 v4]))] : St D0) (zq33.K52 N Kn26) = zq33.d1 N v0 v1 v2 v3 v4 ((fun w0 w1 w2 w3 w4 => Kn26 (mkSt [(3, .one (.ptr 3 0)), (7, .one (.sl false 25 w0)), (8, .one (.int .i64 w1)), (9, .one (.int .i64 w2))] [(3, some (25, [.int .i64 w3, .int .i64 w4]))] : St D0))) := by
  exact (zq33.o1.run N Kn26 v0 v1 v2 v3 v4).trans rfl
def zq33.K26 (N : Nat) : Ex → St D0 → Option zq33.R := (blockK 0 (onN (fun s => zq33.C.tidy 6 s (fun s' => runC zq33.C (zq33.O N) N zq33.c7 7 s' zq33.K0)) zq33.K0))
def zq33.l1 (N : Nat) : Nat → (List S25) → Int → Int → Int → Int → Option zq33.R
  | 0, _, _, _, _, _ => none
  | n + 1, v0, v1, v2, v3, v4 => zq33.d1 N v0 v1 v2 v3 v4 ((fun w0 w1 w2 w3 w4 => zq33.l1 N n w0 w1 w2 w3 w4))
theorem zq33.loop26 (N : Nat) : ∀ n, (∀ (v0 : List S25) (v1 : Int) (v2 : Int) (v3 : Int) (v4 : Int), iter (loopF zq33.C (zq33.O N) N zq33.c52 26) n (mkSt [(3, .one (.ptr 3 0)), (7, .one (.sl false 25 v0)), (8, .one (.int .i64 v1)), (9, .one (.int .i64 v2))] [(3, some (25, [.int .i64 v3, .int .i64 v4]))] : St D0) (zq33.K26 N) = zq33.l1 N n v0 v1 v2 v3 v4)
  | 0 => (fun v0 v1 v2 v3 v4 => rfl)
  | n + 1 => (fun v0 v1 v2 v3 v4 => (zq33.d1.run N (fun s => iter (loopF zq33.C (zq33.O N) N zq33.c52 26) n s (zq33.K26 N)) v0 v1 v2 v3 v4).trans (show _ = zq33.d1 N v0 v1 v2 v3 v4 ((fun w0 w1 w2 w3 w4 => zq33.l1 N n w0 w1 w2 w3 w4)) from (congr rfl (funext fun w0 => funext fun w1 => funext fun w2 => funext fun w3 => funext fun w4 => (zq33.loop26 N n) w0 w1 w2 w3 w4))))
def zq33.o0 (N : Nat) (a0 : List S25) (a1_0 : Int) (a1_1 : Int) (c1 : (List S25) → Int → Int → Int → Int → Option zq33.R) : Option zq33.R :=
 c1 a0 (a0.length : Int) 0 a1_0 a1_1
theorem zq33.o0.run (N : Nat) (H52 : Code) (a0 : List S25) (a1_0 : Int) (a1_1 : Int) : runC zq33.C (zq33.O N) N (.seq zq33.c2 (.seq (.seq zq33.c12 (.block 0 (.loop H52))) zq33.c7)) 1 (st0 [.one (.sl false 25 a0), .agg [.int .i64 a1_0, .int .i64 a1_1]] [] : St D0) zq33.K0 = zq33.o0 N a0 a1_0 a1_1 ((fun w0 w1 w2 w3 w4 => iter (loopF zq33.C (zq33.O N) N H52 26) N (mkSt [(3, .one (.ptr 3 0)), (7, .one (.sl false 25 w0)), (8, .one (.int .i64 w1)), (9, .one (.int .i64 w2))] [(3, some (25, [.int .i64 w3, .int .i64 w4]))] : St D0) (blockK 0 (onN (fun s => zq33.C.tidy 6 s (fun s' => runC zq33.C (zq33.O N) N zq33.c7 7 s' zq33.K0)) zq33.K0)))) := by kernel_rfl
def zq33.g (N : Nat) (a0 : List S25) (a1_0 : Int) (a1_1 : Int) : Option zq33.R := zq33.o0 N a0 a1_0 a1_1 ((fun w0 w1 w2 w3 w4 => zq33.l1 N N w0 w1 w2 w3 w4))
theorem zq33.c1_0 : zq33.c1 = (.seq zq33.c2 (.seq (.seq zq33.c12 (.block 0 (.loop zq33.c52))) zq33.c7)) := by kernel_rfl
theorem zq33.g.run (N : Nat) (a0 : List S25) (a1_0 : Int) (a1_1 : Int) : runC zq33.C (zq33.O N) N zq33.c1 1 (st0 [.one (.sl false 25 a0), .agg [.int .i64 a1_0, .int .i64 a1_1]] [] : St D0) zq33.K0 = zq33.g N a0 a1_0 a1_1 := by
  rw [zq33.c1_0]; unfold zq33.g; exact (zq33.o0.run N zq33.c52 a0 a1_0 a1_1).trans (congr rfl (funext fun w0 => funext fun w1 => funext fun w2 => funext fun w3 => funext fun w4 => (zq33.loop26 N N) w0 w1 w2 w3 w4))
theorem zq33.good (N : Nat) (a0 : List S25) (a1_0 : Int) (a1_1 : Int) (r : zq33.R) (h : zq33.g N a0 a1_0 a1_1 = some r) : Go.PM.Good Try.prog T0 16 [.one (.sl false 25 a0), .agg [.int .i64 a1_0, .int .i64 a1_1]] [] (zq33.sig.ret r) (zq33.sig.bs r) :=
  good_fn tabOk0 mixed0 zq33.sig (zq33.E N) Try.func16 (by kernel_rfl) (by kernel_rfl) 34779 0 0 [(26, [3, 7, 8, 9], [3])] 0 false [] [(false, [.any])] (by kernel_rfl) rfl rfl ((zq33.g.run N a0 a1_0 a1_1).trans h)
def zq33.ent (N : Nat) : Ent Try.prog T0 := mkEnt 16 [(false, [.ro 25]), (true, [.any, .any])] zq33.sig (fun t => zq33.g N t.1 t.2.1 t.2.2) (fun t r h => zq33.good N t.1 t.2.1 t.2.2 r h)
/-! ### zq42 -/
abbrev zq42.R : Type := Int × Int × Int
abbrev zq42.sig : Sig := ⟨[(false, 1)], [], [.sl false 5], [(false, 1), (true, 2)], [], [.int .i64, .int .i64, .int .i64]⟩
def zq42.C : Cfg D0 := ⟨Try.prog, T0, 524413, 0, 38, 0, [(60, [3, 4, 5, 19], [3, 10])], 1730291712, false, []⟩
def zq42.E (N : Nat) : List (Ent Try.prog T0) := [zq62.ent N, zq57.ent N, zq64.ent N, zq68.ent N, zq65.ent N, zq58.ent N]
def zq42.O (N : Nat) : Orc D0 zq42.R := orcOf (zq42.E N)
def zq42.K0 : Ex → St D0 → Option zq42.R := exitK zq42.C Try.f6.results.toList [(false, [.any]), (true, [.any, .any])] (decOut zq42.sig)
def zq42.c1 : Code := codeAt (Try.f6.body.getD .skip) []
def zq42.c2 : Code := codeAt (Try.f6.body.getD .skip) [false]
def zq42.c6 : Code := codeAt (Try.f6.body.getD .skip) [true, false]
def zq42.c14 : Code := codeAt (Try.f6.body.getD .skip) [true, true, false]
def zq42.c31 : Code := codeAt (Try.f6.body.getD .skip) [true, true, true, true]
def zq42.c60 : Code := codeAt (Try.f6.body.getD .skip) [true, true, true, false, false]
def zq42.c61 : Code := codeAt (Try.f6.body.getD .skip) [true, true, true, false, true]
def zq42.K61 (N : Nat) : Ex → St D0 → Option zq42.R := (onN (fun s => zq42.C.tidy 30 s (fun s' => runC zq42.C (zq42.O N) N zq42.c31 31 s' zq42.K0)) zq42.K0)
def zq42.o1 (N : Nat) (v0 : Int) (v1 : Bool) (v2 : Int) (v3 : Int) (v4 : List Int) (v5 : Int) (v6 : Int) : Option zq42.R :=
 bif v1 then
  (zq68.g N v4 v5 v6).bind fun r1 =>
  some (v0, r1.1, r1.2.1)
 else
 (zq65.g N (w64 (v0 * v0)) v4 v5 v6).bind fun r2 =>
 (zq58.g N r2.1 (w64 ((w64 (v0 * v0)) - 1))).bind fun r3 =>
 some (v0, r3.1, r3.2.1)
theorem zq42.o1.run (N : Nat) (v0 : Int) (v1 : Bool) (v2 : Int) (v3 : Int) (v4 : List Int) (v5 : Int) (v6 : Int) : runC zq42.C (zq42.O N) N zq42.c61 61 (mkSt [(3, .one (.ptr 3 0)), (4, .one (.ptr 10 0)), (5, .one (.int .i64 v0)), (19, .one (.bool v1))] [(3, some (25, [.int .i64 v2, .int .i64 v3])), (10, some (71, [.sl false 5 v4, .int .i64 v5, .int .u64 v6]))] : St D0) (onN (fun s => zq42.C.tidy 30 s (fun s' => runC zq42.C (zq42.O N) N zq42.c31 31 s' zq42.K0)) zq42.K0) = zq42.o1 N v0 v1 v2 v3 v4 v5 v6 := by kernel_rfl
def zq42.d1 (N : Nat) (v0 : Int) (v1 : Bool) (v2 : Int) (v3 : Int) (v4 : List Int) (v5 : Int) (v6 : Int) : Option zq42.R := zq42.o1 N v0 v1 v2 v3 v4 v5 v6
theorem zq42.d1.run (N : Nat) (v0 : Int) (v1 : Bool) (v2 : Int) (v3 : Int) (v4 : List Int) (v5 : Int) (v6 : Int) : runC zq42.C (zq42.O N) N zq42.c61 61 (mkSt [(3, .one (.ptr 3 0)), (4, .one (.ptr 10 0)), (5, .one (.int .i64 v0)), (19, .one (.bool v1))] [(3, some (25, [.int .i64 v2, .int .i64 v3])), (10, some (71, [.sl false 5 v4, .int .i64 v5, .int .u64 v6]))] : St D0) (zq42.K61 N) = zq42.d1 N v0 v1 v2 v3 v4 v5 v6 := by
  exact (zq42.o1.run N v0 v1 v2 v3 v4 v5 v6).trans rfl
def zq42.o0 (N : Nat) (a0 : List Int) (c1 : Int → Bool → Int → Int → (List Int) → Int → Int → Option zq42.R) : Option zq42.R :=
 (zq62.g N a0 0 0).bind fun r1 =>
 (zq57.g N r1.1).bind fun r2 =>
 bif (!r2) then
  c1 r1.1 true 0 0 r1.2.1 r1.2.2.1 r1.2.2.2
 else
 (zq64.g N 4 r1.2.1 r1.2.2.1 r1.2.2.2).bind fun r3 =>
 c1 r1.1 r3.1 0 0 r3.2.1 r3.2.2.1 r3.2.2.2
theorem zq42.o0.run (N : Nat) (H61 : Code) (a0 : List Int) : runC zq42.C (zq42.O N) N (.seq zq42.c2 (.seq zq42.c6 (.seq zq42.c14 (.seq (.seq zq42.c60 H61) zq42.c31)))) 1 (st0 [.one (.sl false 5 a0)] [] : St D0) zq42.K0 = zq42.o0 N a0 ((fun w0 w1 w2 w3 w4 w5 w6 => runC zq42.C (zq42.O N) N H61 61 (mkSt [(3, .one (.ptr 3 0)), (4, .one (.ptr 10 0)), (5, .one (.int .i64 w0)), (19, .one (.bool w1))] [(3, some (25, [.int .i64 w2, .int .i64 w3])), (10, some (71, [.sl false 5 w4, .int .i64 w5, .int .u64 w6]))] : St D0) (onN (fun s => zq42.C.tidy 30 s (fun s' => runC zq42.C (zq42.O N) N zq42.c31 31 s' zq42.K0)) zq42.K0))) := by kernel_rfl
def zq42.g (N : Nat) (a0 : List Int) : Option zq42.R := zq42.o0 N a0 ((fun w0 w1 w2 w3 w4 w5 w6 => zq42.d1 N w0 w1 w2 w3 w4 w5 w6))
theorem zq42.c1_0 : zq42.c1 = (.seq zq42.c2 (.seq zq42.c6 (.seq zq42.c14 (.seq (.seq zq42.c60 zq42.c61) zq42.c31)))) := by kernel_rfl
theorem zq42.g.run (N : Nat) (a0 : List Int) : runC zq42.C (zq42.O N) N zq42.c1 1 (st0 [.one (.sl false 5 a0)] [] : St D0) zq42.K0 = zq42.g N a0 := by
  rw [zq42.c1_0]; unfold zq42.g; exact (zq42.o0.run N zq42.c61 a0).trans (congr rfl (funext fun w0 => funext fun w1 => funext fun w2 => funext fun w3 => funext fun w4 => funext fun w5 => funext fun w6 => zq42.d1.run N w0 w1 w2 w3 w4 w5 w6))
theorem zq42.good (N : Nat) (a0 : List Int) (r : zq42.R) (h : zq42.g N a0 = some r) : Go.PM.Good Try.prog T0 6 [.one (.sl false 5 a0)] [] (zq42.sig.ret r) (zq42.sig.bs r) :=
  good_fn tabOk0 mixed0 zq42.sig (zq42.E N) Try.func6 (by kernel_rfl) (by kernel_rfl) 524413 0 0 [(60, [3, 4, 5, 19], [3, 10])] 1730291712 false [] [(false, [.any]), (true, [.any, .any])] (by kernel_rfl) rfl rfl ((zq42.g.run N a0).trans h)
def zq42.ent (N : Nat) : Ent Try.prog T0 := mkEnt 6 [(false, [.ro 5])] zq42.sig (fun t => zq42.g N t) (fun t r h => zq42.good N t r h)
/-! ### zq41 -/
abbrev zq41.R : Type := Int
abbrev zq41.sig : Sig := ⟨[(false, 1)], [], [.sl false 5], [(false, 1)], [], [.int .i64]⟩
def zq41.C : Cfg D0 := ⟨Try.prog, T0, 13, 0, 9, 0, [], 128, false, []⟩
def zq41.E (N : Nat) : List (Ent Try.prog T0) := [zq62.ent N]
def zq41.O (N : Nat) : Orc D0 zq41.R := orcOf (zq41.E N)
def zq41.K0 : Ex → St D0 → Option zq41.R := exitK zq41.C Try.f18.results.toList [(false, [.any])] (decOut zq41.sig)
def zq41.c1 : Code := codeAt (Try.f18.body.getD .skip) []
def zq41.o0 (N : Nat) (a0 : List Int) : Option zq41.R :=
 (zq62.g N a0 0 0).bind fun r1 =>
 some (r1.1)
theorem zq41.o0.run (N : Nat) (a0 : List Int) : runC zq41.C (zq41.O N) N zq41.c1 1 (st0 [.one (.sl false 5 a0)] [] : St D0) zq41.K0 = zq41.o0 N a0 := by kernel_rfl
def zq41.g (N : Nat) (a0 : List Int) : Option zq41.R := zq41.o0 N a0
theorem zq41.g.run (N : Nat) (a0 : List Int) : runC zq41.C (zq41.O N) N zq41.c1 1 (st0 [.one (.sl false 5 a0)] [] : St D0) zq41.K0 = zq41.g N a0 := by
  exact (zq41.o0.run N a0).trans rfl
theorem zq41.good (N : Nat) (a0 : List Int) (r : zq41.R) (h : zq41.g N a0 = some r) : Go.PM.Good Try.prog T0 18 [.one (.sl false 5 a0)] [] (zq41.sig.ret r) (zq41.sig.bs r) :=
  good_fn tabOk0 mixed0 zq41.sig (zq41.E N) Try.func18 (by kernel_rfl) (by kernel_rfl) 13 0 0 [] 128 false [] [(false, [.any])] (by kernel_rfl) rfl rfl ((zq41.g.run N a0).trans h)
def zq41.ent (N : Nat) : Ent Try.prog T0 := mkEnt 18 [(false, [.ro 5])] zq41.sig (fun t => zq41.g N t) (fun t r h => zq41.good N t r h)
/-! ### zq66 -/
abbrev zq66.R : Type := Int × Int × Int × Int × List Int × Int × Int
abbrev zq66.sig : Sig := ⟨[(false, 1), (false, 1)], [(71, 3)], [.ptr 0 0, .int .i64, .sl false 5, .int .i64, .int .u64], [(true, 4)], [(71, 3)], [.int .i64, .int .i64, .int .i64, .int .i64, .sl false 5, .int .i64, .int .u64]⟩
def zq66.C : Cfg D0 := ⟨Try.prog, T0, 38482911232115, 0, 50, 1, [(28, [0, 1, 4, 5, 16], [0, 4, 5]), (30, [0, 1, 4, 5], [0, 4, 5])], 620205720192, false, []⟩
def zq66.E (N : Nat) : List (Ent Try.prog T0) := [zq68.ent N, zq53.ent N, zq64.ent N, zq65.ent N, zq58.ent N, zq75.ent N, zq72.ent N, zq74.ent N]
def zq66.O (N : Nat) : Orc D0 zq66.R := orcOf (zq66.E N)
def zq66.K0 : Ex → St D0 → Option zq66.R := exitK zq66.C Try.f76.results.toList [(true, [.any, .any, .any, .any])] (decOut zq66.sig)
def zq66.c1 : Code := codeAt (Try.f76.body.getD .skip) []
def zq66.c2 : Code := codeAt (Try.f76.body.getD .skip) [false]
def zq66.c6 : Code := codeAt (Try.f76.body.getD .skip) [true, false]
def zq66.c15 : Code := codeAt (Try.f76.body.getD .skip) [true, true, true]
def zq66.c28 : Code := codeAt (Try.f76.body.getD .skip) [true, true, false, false]
def zq66.c29 : Code := codeAt (Try.f76.body.getD .skip) [true, true, false, true]
def zq66.c30 : Code := codeAt (Try.f76.body.getD .skip) [true, true, true, false]
def zq66.c31 : Code := codeAt (Try.f76.body.getD .skip) [true, true, true, true]
def zq66.K31 (N : Nat) : Ex → St D0 → Option zq66.R := zq66.K0
def zq66.o2 (N : Nat) (v0 : Int) (v1 : List Int) (v2 : Int) (v3 : Int) (v4 : Int) (v5 : Int) (v6 : Int) (v7 : Int) (v8 : Int) (v9 : Int) : Option zq66.R :=
 (zq75.g N v0 v8 v9).bind fun r1 =>
 (zq65.g N 5 v1 v2 v3).bind fun r2 =>
 bif (r2.1 == 0) then
  (zq72.g N r1.1 r1.2.1 r1.2.2.1 r1.2.2.2).bind fun r3 =>
  some (r3.1, r3.2.1, r3.2.2.1, r3.2.2.2, r2.2.1, r2.2.2.1, r2.2.2.2)
 else
 bif (r2.1 == 1) then
  (zq74.g N r1.1 r1.2.1 r1.2.2.1 r1.2.2.2).bind fun r4 =>
  some (r4.1, r4.2.1, r4.2.2.1, r4.2.2.2, r2.2.1, r2.2.2.1, r2.2.2.2)
 else
 some (r1.1, r1.2.1, r1.2.2.1, r1.2.2.2, r2.2.1, r2.2.2.1, r2.2.2.2)
theorem zq66.o2.run (N : Nat) (v0 : Int) (v1 : List Int) (v2 : Int) (v3 : Int) (v4 : Int) (v5 : Int) (v6 : Int) (v7 : Int) (v8 : Int) (v9 : Int) : runC zq66.C (zq66.O N) N zq66.c31 31 (mkSt [(0, .one (.ptr 0 0)), (1, .one (.int .i64 v0)), (4, .one (.ptr 4 0)), (5, .one (.ptr 5 0))] [(0, some (71, [.sl false 5 v1, .int .i64 v2, .int .u64 v3])), (4, some (31, [.int .i64 v4, .int .i64 v5, .int .i64 v6, .int .i64 v7])), (5, some (25, [.int .i64 v8, .int .i64 v9]))] : St D0) zq66.K0 = zq66.o2 N v0 v1 v2 v3 v4 v5 v6 v7 v8 v9 := by kernel_rfl
def zq66.d2 (N : Nat) (v0 : Int) (v1 : List Int) (v2 : Int) (v3 : Int) (v4 : Int) (v5 : Int) (v6 : Int) (v7 : Int) (v8 : Int) (v9 : Int) : Option zq66.R := zq66.o2 N v0 v1 v2 v3 v4 v5 v6 v7 v8 v9
theorem zq66.d2.run (N : Nat) (v0 : Int) (v1 : List Int) (v2 : Int) (v3 : Int) (v4 : Int) (v5 : Int) (v6 : Int) (v7 : Int) (v8 : Int) (v9 : Int) : runC zq66.C (zq66.O N) N zq66.c31 31 (mkSt [(0, .one (.ptr 0 0)), (1, .one (.int .i64 v0)), (4, .one (.ptr 4 0)), (5, .one (.ptr 5 0))] [(0, some (71, [.sl false 5 v1, .int .i64 v2, .int .u64 v3])), (4, some (31, [.int .i64 v4, .int .i64 v5, .int .i64 v6, .int .i64 v7])), (5, some (25, [.int .i64 v8, .int .i64 v9]))] : St D0) (zq66.K31 N) = zq66.d2 N v0 v1 v2 v3 v4 v5 v6 v7 v8 v9 := by
  exact (zq66.o2.run N v0 v1 v2 v3 v4 v5 v6 v7 v8 v9).trans rfl
def zq66.K29 (N : Nat) : Ex → St D0 → Option zq66.R := (onN (fun s => zq66.C.tidy 14 s (fun s' => runC zq66.C (zq66.O N) N zq66.c15 15 s' zq66.K0)) zq66.K0)
def zq66.o1 (N : Nat) (v0 : Int) (v1 : Bool) (v2 : List Int) (v3 : Int) (v4 : Int) (v5 : Int) (v6 : Int) (v7 : Int) (v8 : Int) (v9 : Int) (v10 : Int) (c2 : Int → (List Int) → Int → Int → Int → Int → Int → Int → Int → Int → Option zq66.R) : Option zq66.R :=
 bif v1 then
  (zq68.g N v2 v3 v4).bind fun r1 =>
  some (v9, v10, r1.1, r1.2.1, r1.2.2.1, r1.2.2.2.1, r1.2.2.2.2)
 else
 (zq64.g N 3 v2 v3 v4).bind fun r2 =>
 bif r2.1 then
  (zq65.g N (w64 (v0 * v0)) r2.2.1 r2.2.2.1 r2.2.2.2).bind fun r3 =>
  (zq58.g N r3.1 (w64 ((w64 (v0 * v0)) - 1))).bind fun r4 =>
  c2 v0 r3.2.1 r3.2.2.1 r3.2.2.2 v5 v6 v7 v8 r4.1 r4.2.1
 else
 c2 v0 r2.2.1 r2.2.2.1 r2.2.2.2 v5 v6 v7 v8 v9 v10
theorem zq66.o1.run (N : Nat) (H31 : Code) (v0 : Int) (v1 : Bool) (v2 : List Int) (v3 : Int) (v4 : Int) (v5 : Int) (v6 : Int) (v7 : Int) (v8 : Int) (v9 : Int) (v10 : Int) : runC zq66.C (zq66.O N) N zq66.c29 29 (mkSt [(0, .one (.ptr 0 0)), (1, .one (.int .i64 v0)), (4, .one (.ptr 4 0)), (5, .one (.ptr 5 0)), (16, .one (.bool v1))] [(0, some (71, [.sl false 5 v2, .int .i64 v3, .int .u64 v4])), (4, some (31, [.int .i64 v5, .int .i64 v6, .int .i64 v7, .int .i64 v8])), (5, some (25, [.int .i64 v9, .int .i64 v10]))] : St D0) (onN (fun s => zq66.C.tidy 14 s (fun s' => runC zq66.C (zq66.O N) N (.seq zq66.c30 H31) 15 s' zq66.K0)) zq66.K0) = zq66.o1 N v0 v1 v2 v3 v4 v5 v6 v7 v8 v9 v10 ((fun w0 w1 w2 w3 w4 w5 w6 w7 w8 w9 => runC zq66.C (zq66.O N) N H31 31 (mkSt [(0, .one (.ptr 0 0)), (1, .one (.int .i64 w0)), (4, .one (.ptr 4 0)), (5, .one (.ptr 5 0))] [(0, some (71, [.sl false 5 w1, .int .i64 w2, .int .u64 w3])), (4, some (31, [.int .i64 w4, .int .i64 w5, .int .i64 w6, .int .i64 w7])), (5, some (25, [.int .i64 w8, .int .i64 w9]))] : St D0) zq66.K0)) := by kernel_rfl
def zq66.d1 (N : Nat) (v0 : Int) (v1 : Bool) (v2 : List Int) (v3 : Int) (v4 : Int) (v5 : Int) (v6 : Int) (v7 : Int) (v8 : Int) (v9 : Int) (v10 : Int) : Option zq66.R := zq66.o1 N v0 v1 v2 v3 v4 v5 v6 v7 v8 v9 v10 ((fun w0 w1 w2 w3 w4 w5 w6 w7 w8 w9 => zq66.d2 N w0 w1 w2 w3 w4 w5 w6 w7 w8 w9))
theorem zq66.d1.run (N : Nat) (v0 : Int) (v1 : Bool) (v2 : List Int) (v3 : Int) (v4 : Int) (v5 : Int) (v6 : Int) (v7 : Int) (v8 : Int) (v9 : Int) (v10 : Int) : runC zq66.C (zq66.O N) N zq66.c29 29 (mkSt [(0, .one (.ptr 0 0)), (1, .one (.int .i64 v0)), (4, .one (.ptr 4 0)), (5, .one (.ptr 5 0)), (16, .one (.bool v1))] [(0, some (71, [.sl false 5 v2, .int .i64 v3, .int .u64 v4])), (4, some (31, [.int .i64 v5, .int .i64 v6, .int .i64 v7, .int .i64 v8])), (5, some (25, [.int .i64 v9, .int .i64 v10]))] : St D0) (zq66.K29 N) = zq66.d1 N v0 v1 v2 v3 v4 v5 v6 v7 v8 v9 v10 := by
  unfold zq66.d1; exact (zq66.o1.run N zq66.c31 v0 v1 v2 v3 v4 v5 v6 v7 v8 v9 v10).trans (congr rfl (funext fun w0 => funext fun w1 => funext fun w2 => funext fun w3 => funext fun w4 => funext fun w5 => funext fun w6 => funext fun w7 => funext fun w8 => funext fun w9 => zq66.d2.run N w0 w1 w2 w3 w4 w5 w6 w7 w8 w9))
def zq66.o0 (N : Nat) (a1 : Int) (b0_0 : List Int) (b0_1 : Int) (b0_2 : Int) (c1 : Int → Bool → (List Int) → Int → Int → Int → Int → Int → Int → Int → Int → Option zq66.R) : Option zq66.R :=
 (zq68.g N b0_0 b0_1 b0_2).bind fun r1 =>
 (zq53.g N a1 r1.1 r1.2.1).bind fun r2 =>
 bif (!r2) then
  c1 a1 true r1.2.2.1 r1.2.2.2.1 r1.2.2.2.2 0 0 0 0 r1.1 r1.2.1
 else
 (zq64.g N 5 r1.2.2.1 r1.2.2.2.1 r1.2.2.2.2).bind fun r3 =>
 c1 a1 r3.1 r3.2.1 r3.2.2.1 r3.2.2.2 0 0 0 0 r1.1 r1.2.1
theorem zq66.o0.run (N : Nat) (H29 : Code) (a1 : Int) (b0_0 : List Int) (b0_1 : Int) (b0_2 : Int) : runC zq66.C (zq66.O N) N (.seq zq66.c2 (.seq zq66.c6 (.seq (.seq zq66.c28 H29) zq66.c15))) 1 (st0 [.one (.ptr 0 0), .one (.int .i64 a1)] [(71, [.sl false 5 b0_0, .int .i64 b0_1, .int .u64 b0_2])] : St D0) zq66.K0 = zq66.o0 N a1 b0_0 b0_1 b0_2 ((fun w0 w1 w2 w3 w4 w5 w6 w7 w8 w9 w10 => runC zq66.C (zq66.O N) N H29 29 (mkSt [(0, .one (.ptr 0 0)), (1, .one (.int .i64 w0)), (4, .one (.ptr 4 0)), (5, .one (.ptr 5 0)), (16, .one (.bool w1))] [(0, some (71, [.sl false 5 w2, .int .i64 w3, .int .u64 w4])), (4, some (31, [.int .i64 w5, .int .i64 w6, .int .i64 w7, .int .i64 w8])), (5, some (25, [.int .i64 w9, .int .i64 w10]))] : St D0) (onN (fun s => zq66.C.tidy 14 s (fun s' => runC zq66.C (zq66.O N) N zq66.c15 15 s' zq66.K0)) zq66.K0))) := by kernel_rfl
def zq66.g (N : Nat) (a1 : Int) (b0_0 : List Int) (b0_1 : Int) (b0_2 : Int) : Option zq66.R := zq66.o0 N a1 b0_0 b0_1 b0_2 ((fun w0 w1 w2 w3 w4 w5 w6 w7 w8 w9 w10 => zq66.d1 N w0 w1 w2 w3 w4 w5 w6 w7 w8 w9 w10))
theorem zq66.c1_0 : zq66.c1 = (.seq zq66.c2 (.seq zq66.c6 (.seq (.seq zq66.c28 zq66.c29) zq66.c15))) := by kernel_rfl
theorem zq66.g.run (N : Nat) (a1 : Int) (b0_0 : List Int) (b0_1 : Int) (b0_2 : Int) : runC zq66.C (zq66.O N) N zq66.c1 1 (st0 [.one (.ptr 0 0), .one (.int .i64 a1)] [(71, [.sl false 5 b0_0, .int .i64 b0_1, .int .u64 b0_2])] : St D0) zq66.K0 = zq66.g N a1 b0_0 b0_1 b0_2 := by
  rw [zq66.c1_0]; unfold zq66.g; exact (zq66.o0.run N zq66.c29 a1 b0_0 b0_1 b0_2).trans (congr rfl (funext fun w0 => funext fun w1 => funext fun w2 => funext fun w3 => funext fun w4 => funext fun w5 => funext fun w6 => funext fun w7 => funext fun w8 => funext fun w9 => funext fun w10 => zq66.d1.run N w0 w1 w2 w3 w4 w5 w6 w7 w8 w9 w10))
theorem zq66.good (N : Nat) (a1 : Int) (b0_0 : List Int) (b0_1 : Int) (b0_2 : Int) (r : zq66.R) (h : zq66.g N a1 b0_0 b0_1 b0_2 = some r) : Go.PM.Good Try.prog T0 76 [.one (.ptr 0 0), .one (.int .i64 a1)] [(71, [.sl false 5 b0_0, .int .i64 b0_1, .int .u64 b0_2])] (zq66.sig.ret r) (zq66.sig.bs r) :=
  good_fn tabOk0 mixed0 zq66.sig (zq66.E N) Try.func76 (by kernel_rfl) (by kernel_rfl) 38482911232115 0 1 [(28, [0, 1, 4, 5, 16], [0, 4, 5]), (30, [0, 1, 4, 5], [0, 4, 5])] 620205720192 false [] [(true, [.any, .any, .any, .any])] (by kernel_rfl) rfl rfl ((zq66.g.run N a1 b0_0 b0_1 b0_2).trans h)
def zq66.ent (N : Nat) : Ent Try.prog T0 := mkEnt 76 [(false, [.any]), (false, [.any])] zq66.sig (fun t => zq66.g N t.2.1 t.2.2.1 t.2.2.2.1 t.2.2.2.2) (fun t r h => zq66.good N t.2.1 t.2.2.1 t.2.2.2.1 t.2.2.2.2 r h)
/-! ### zq44 -/
abbrev zq44.R : Type := Int × Int × Int × Int × Int
abbrev zq44.sig : Sig := ⟨[(false, 1)], [], [.sl false 5], [(false, 1), (true, 4)], [], [.int .i64, .int .i64, .int .i64, .int .i64, .int .i64]⟩
def zq44.C : Cfg D0 := ⟨Try.prog, T0, 61, 0, 15, 0, [], 12800, false, []⟩
def zq44.E (N : Nat) : List (Ent Try.prog T0) := [zq62.ent N, zq66.ent N]
def zq44.O (N : Nat) : Orc D0 zq44.R := orcOf (zq44.E N)
def zq44.K0 : Ex → St D0 → Option zq44.R := exitK zq44.C Try.f27.results.toList [(false, [.any]), (true, [.any, .any, .any, .any])] (decOut zq44.sig)
def zq44.c1 : Code := codeAt (Try.f27.body.getD .skip) []
def zq44.o0 (N : Nat) (a0 : List Int) : Option zq44.R :=
 (zq62.g N a0 0 0).bind fun r1 =>
 (zq66.g N r1.1 r1.2.1 r1.2.2.1 r1.2.2.2).bind fun r2 =>
 some (r1.1, r2.1, r2.2.1, r2.2.2.1, r2.2.2.2.1)
theorem zq44.o0.run (N : Nat) (a0 : List Int) : runC zq44.C (zq44.O N) N zq44.c1 1 (st0 [.one (.sl false 5 a0)] [] : St D0) zq44.K0 = zq44.o0 N a0 := by kernel_rfl
def zq44.g (N : Nat) (a0 : List Int) : Option zq44.R := zq44.o0 N a0
theorem zq44.g.run (N : Nat) (a0 : List Int) : runC zq44.C (zq44.O N) N zq44.c1 1 (st0 [.one (.sl false 5 a0)] [] : St D0) zq44.K0 = zq44.g N a0 := by
  exact (zq44.o0.run N a0).trans rfl
theorem zq44.good (N : Nat) (a0 : List Int) (r : zq44.R) (h : zq44.g N a0 = some r) : Go.PM.Good Try.prog T0 27 [.one (.sl false 5 a0)] [] (zq44.sig.ret r) (zq44.sig.bs r) :=
  good_fn tabOk0 mixed0 zq44.sig (zq44.E N) Try.func27 (by kernel_rfl) (by kernel_rfl) 61 0 0 [] 12800 false [] [(false, [.any]), (true, [.any, .any, .any, .any])] (by kernel_rfl) rfl rfl ((zq44.g.run N a0).trans h)
def zq44.ent (N : Nat) : Ent Try.prog T0 := mkEnt 27 [(false, [.ro 5])] zq44.sig (fun t => zq44.g N t) (fun t r h => zq44.good N t r h)
/-! ### zq43 -/
abbrev zq43.R : Type := Int × Int × Int × Int
abbrev zq43.sig : Sig := ⟨[(false, 1)], [], [.sl false 5], [(true, 4)], [], [.int .i64, .int .i64, .int .i64, .int .i64]⟩
def zq43.C : Cfg D0 := ⟨Try.prog, T0, 13, 0, 9, 0, [], 128, false, []⟩
def zq43.E (N : Nat) : List (Ent Try.prog T0) := [zq66.ent N]
def zq43.O (N : Nat) : Orc D0 zq43.R := orcOf (zq43.E N)
def zq43.K0 : Ex → St D0 → Option zq43.R := exitK zq43.C Try.f31.results.toList [(true, [.any, .any, .any, .any])] (decOut zq43.sig)
def zq43.c1 : Code := codeAt (Try.f31.body.getD .skip) []
def zq43.o0 (N : Nat) (a0 : List Int) : Option zq43.R :=
 (zq66.g N 12 a0 0 0).bind fun r1 =>
 some (r1.1, r1.2.1, r1.2.2.1, r1.2.2.2.1)
theorem zq43.o0.run (N : Nat) (a0 : List Int) : runC zq43.C (zq43.O N) N zq43.c1 1 (st0 [.one (.sl false 5 a0)] [] : St D0) zq43.K0 = zq43.o0 N a0 := by kernel_rfl
def zq43.g (N : Nat) (a0 : List Int) : Option zq43.R := zq43.o0 N a0
theorem zq43.g.run (N : Nat) (a0 : List Int) : runC zq43.C (zq43.O N) N zq43.c1 1 (st0 [.one (.sl false 5 a0)] [] : St D0) zq43.K0 = zq43.g N a0 := by
  exact (zq43.o0.run N a0).trans rfl
theorem zq43.good (N : Nat) (a0 : List Int) (r : zq43.R) (h : zq43.g N a0 = some r) : Go.PM.Good Try.prog T0 31 [.one (.sl false 5 a0)] [] (zq43.sig.ret r) (zq43.sig.bs r) :=
  good_fn tabOk0 mixed0 zq43.sig (zq43.E N) Try.func31 (by kernel_rfl) (by kernel_rfl) 13 0 0 [] 128 false [] [(true, [.any, .any, .any, .any])] (by kernel_rfl) rfl rfl ((zq43.g.run N a0).trans h)
def zq43.ent (N : Nat) : Ent Try.prog T0 := mkEnt 31 [(false, [.ro 5])] zq43.sig (fun t => zq43.g N t) (fun t r h => zq43.good N t r h)
/-! ### zq32 -/
abbrev zq32.R : Type := Bool
abbrev zq32.sig : Sig := ⟨[(false, 1), (false, 1)], [], [.sl false 5, .sl false 5], [(false, 1)], [], [.bool]⟩
def zq32.C : Cfg D0 := ⟨Try.prog, T0, 19, 0, 16, 0, [], 2592, false, []⟩
def zq32.E (N : Nat) : List (Ent Try.prog T0) := []
def zq32.O (N : Nat) : Orc D0 zq32.R := orcOf (zq32.E N)
def zq32.K0 : Ex → St D0 → Option zq32.R := exitK zq32.C Try.f5.results.toList [(false, [.any])] (decOut zq32.sig)
def zq32.c1 : Code := codeAt (Try.f5.body.getD .skip) []
def zq32.o0 (N : Nat) (a0 : List Int) (a1 : List Int) : Option zq32.R :=
 bif (decide ((a0.length : Int) > 1048576)) then
  some (true)
 else
 some ((decide ((a1.length : Int) > (w64 (1048576 - (a0.length : Int))))))
theorem zq32.o0.run (N : Nat) (a0 : List Int) (a1 : List Int) : runC zq32.C (zq32.O N) N zq32.c1 1 (st0 [.one (.sl false 5 a0), .one (.sl false 5 a1)] [] : St D0) zq32.K0 = zq32.o0 N a0 a1 := by kernel_rfl
def zq32.g (N : Nat) (a0 : List Int) (a1 : List Int) : Option zq32.R := zq32.o0 N a0 a1
theorem zq32.g.run (N : Nat) (a0 : List Int) (a1 : List Int) : runC zq32.C (zq32.O N) N zq32.c1 1 (st0 [.one (.sl false 5 a0), .one (.sl false 5 a1)] [] : St D0) zq32.K0 = zq32.g N a0 a1 := by
  exact (zq32.o0.run N a0 a1).trans rfl
theorem zq32.good (N : Nat) (a0 : List Int) (a1 : List Int) (r : zq32.R) (h : zq32.g N a0 a1 = some r) : Go.PM.Good Try.prog T0 5 [.one (.sl false 5 a0), .one (.sl false 5 a1)] [] (zq32.sig.ret r) (zq32.sig.bs r) :=
  good_fn tabOk0 mixed0 zq32.sig (zq32.E N) Try.func5 (by kernel_rfl) (by kernel_rfl) 19 0 0 [] 2592 false [] [(false, [.any])] (by kernel_rfl) rfl rfl ((zq32.g.run N a0 a1).trans h)
def zq32.ent (N : Nat) : Ent Try.prog T0 := mkEnt 5 [(false, [.ro 5]), (false, [.ro 5])] zq32.sig (fun t => zq32.g N t.1 t.2) (fun t r h => zq32.good N t.1 t.2 r h)
/-! ### zq31 -/
abbrev zq31.R : Type := Bool
abbrev zq31.sig : Sig := ⟨[(false, 1), (false, 1)], [], [.sl false 5, .sl false 5], [(false, 1)], [], [.bool]⟩
def zq31.C : Cfg D0 := ⟨Try.prog, T0, 6703903965751735687366010556948322452040891219936023214684597231984292962555631597939079342164492742560509805858376918047849107387405783228322068696137715, 0, 512, 0, [(1020, [1, 5, 6, 7, 8, 11, 12, 127], [6, 7, 11]), (1022, [1, 5, 6, 7, 8], [6, 7]), (2046, [1], []), (32746, [1, 248], []), (523644, [1, 5, 6, 7, 8, 23, 205], [6, 7]), (1047294, [1, 5, 6, 7, 8, 23, 25], [6, 7]), (1048572, [1, 28, 29, 30, 33, 37, 320], []), (1048574, [1], []), (2094590, [1, 5, 6, 7, 8, 224], [6, 7]), (67108778, [1, 28, 29, 33, 37, 41, 322, 323, 324], []), (67108780, [1, 28, 37, 358], []), (134217566, [1, 395], []), (268435130, [1, 28, 37, 359, 360, 361], []), (536870908, [1, 478], []), (8589934588, [511], []), (137438786766, [1, 28, 37, 359, 360, 361, 386], [])], 3292572484926996888449626819607057946780740227738409366648208774939396453539134376898885548426465340944715070592034804974778700619898439770260138622976, false, []⟩
def zq31.E (N : Nat) : List (Ent Try.prog T0) := [zq32.ent N, zq42.ent N, zq5.ent N, zq46.ent N, zq11.ent N, zq50.ent N, zq7.ent N, zq13.ent N, zq4.ent N, zq14.ent N, zq6.ent N, zq33.ent N, zq34.ent N, zq41.ent N, zq2.ent N, zq39.ent N, zq3.ent N, zq40.ent N, zq10.ent N, zq49.ent N, zq35.ent N, zq44.ent N, zq51.ent N, zq48.ent N, zq52.ent N, zq43.ent N, zq45.ent N, zq47.ent N, zq9.ent N]
def zq31.O (N : Nat) : Orc D0 zq31.R := orcOf (zq31.E N)
def zq31.K0 : Ex → St D0 → Option zq31.R := exitK zq31.C Try.f3.results.toList [(false, [.any])] (decOut zq31.sig)
def zq31.c1 : Code := codeAt (Try.f3.body.getD .skip) []
def zq31.c2 : Code := codeAt (Try.f3.body.getD .skip) [false]
def zq31.c6 : Code := codeAt (Try.f3.body.getD .skip) [true, false]
def zq31.c14 : Code := codeAt (Try.f3.body.getD .skip) [true, true, false]
def zq31.c30 : Code := codeAt (Try.f3.body.getD .skip) [true, true, true, false]
def zq31.c62 : Code := codeAt (Try.f3.body.getD .skip) [true, true, true, true, false]
def zq31.c126 : Code := codeAt (Try.f3.body.getD .skip) [true, true, true, true, true, false]
def zq31.c254 : Code := codeAt (Try.f3.body.getD .skip) [true, true, true, true, true, true, false]
def zq31.c511 : Code := codeAt (Try.f3.body.getD .skip) [true, true, true, true, true, true, true, true]
def zq31.c1020 : Code := codeAt (Try.f3.body.getD .skip) [true, true, true, true, true, true, true, false, false]
def zq31.c1021 : Code := codeAt (Try.f3.body.getD .skip) [true, true, true, true, true, true, true, false, true]
def zq31.c1023 : Code := codeAt (Try.f3.body.getD .skip) [true, true, true, true, true, true, true, true, true]
def zq31.c2044 : Code := codeAt (Try.f3.body.getD .skip) [true, true, true, true, true, true, true, true, false, false]
def zq31.c2047 : Code := codeAt (Try.f3.body.getD .skip) [true, true, true, true, true, true, true, true, true, true]
def zq31.c4091 : Code := codeAt (Try.f3.body.getD .skip) [true, true, true, true, true, true, true, true, false, true, true]
def zq31.c4092 : Code := codeAt (Try.f3.body.getD .skip) [true, true, true, true, true, true, true, true, true, false, false]
def zq31.c4094 : Code := codeAt (Try.f3.body.getD .skip) [true, true, true, true, true, true, true, true, true, true, false]
def zq31.c8180 : Code := codeAt (Try.f3.body.getD .skip) [true, true, true, true, true, true, true, true, false, true, false, false]
def zq31.c8187 : Code := codeAt (Try.f3.body.getD .skip) [true, true, true, true, true, true, true, true, true, false, true, true]
def zq31.c8190 : Code := codeAt (Try.f3.body.getD .skip) [true, true, true, true, true, true, true, true, true, true, true, false]
def zq31.c16362 : Code := codeAt (Try.f3.body.getD .skip) [true, true, true, true, true, true, true, true, false, true, false, true, false]
def zq31.c16372 : Code := codeAt (Try.f3.body.getD .skip) [true, true, true, true, true, true, true, true, true, false, true, false, false]
def zq31.c16382 : Code := codeAt (Try.f3.body.getD .skip) [true, true, true, true, true, true, true, true, true, true, true, true, false]
def zq31.c32726 : Code := codeAt (Try.f3.body.getD .skip) [true, true, true, true, true, true, true, true, false, true, false, true, true, false]
def zq31.c32746 : Code := codeAt (Try.f3.body.getD .skip) [true, true, true, true, true, true, true, true, true, false, true, false, true, false]
def zq31.c32747 : Code := codeAt (Try.f3.body.getD .skip) [true, true, true, true, true, true, true, true, true, false, true, false, true, true]
def zq31.c32766 : Code := codeAt (Try.f3.body.getD .skip) [true, true, true, true, true, true, true, true, true, true, true, true, true, false]
def zq31.c65454 : Code := codeAt (Try.f3.body.getD .skip) [true, true, true, true, true, true, true, true, false, true, false, true, true, true, false]
def zq31.c65534 : Code := codeAt (Try.f3.body.getD .skip) [true, true, true, true, true, true, true, true, true, true, true, true, true, true, false]
def zq31.c130910 : Code := codeAt (Try.f3.body.getD .skip) [true, true, true, true, true, true, true, true, false, true, false, true, true, true, true, false]
def zq31.c131070 : Code := codeAt (Try.f3.body.getD .skip) [true, true, true, true, true, true, true, true, true, true, true, true, true, true, true, false]
def zq31.c261823 : Code := codeAt (Try.f3.body.getD .skip) [true, true, true, true, true, true, true, true, false, true, false, true, true, true, true, true, true]
def zq31.c262142 : Code := codeAt (Try.f3.body.getD .skip) [true, true, true, true, true, true, true, true, true, true, true, true, true, true, true, true, false]
def zq31.c523644 : Code := codeAt (Try.f3.body.getD .skip) [true, true, true, true, true, true, true, true, false, true, false, true, true, true, true, true, false, false]
def zq31.c523645 : Code := codeAt (Try.f3.body.getD .skip) [true, true, true, true, true, true, true, true, false, true, false, true, true, true, true, true, false, true]
def zq31.c523646 : Code := codeAt (Try.f3.body.getD .skip) [true, true, true, true, true, true, true, true, false, true, false, true, true, true, true, true, true, false]
def zq31.c524287 : Code := codeAt (Try.f3.body.getD .skip) [true, true, true, true, true, true, true, true, true, true, true, true, true, true, true, true, true, true]
def zq31.c1047294 : Code := codeAt (Try.f3.body.getD .skip) [true, true, true, true, true, true, true, true, false, true, false, true, true, true, true, true, true, true, false]
def zq31.c1047295 : Code := codeAt (Try.f3.body.getD .skip) [true, true, true, true, true, true, true, true, false, true, false, true, true, true, true, true, true, true, true]
def zq31.c1048572 : Code := codeAt (Try.f3.body.getD .skip) [true, true, true, true, true, true, true, true, true, true, true, true, true, true, true, true, true, false, false]
def zq31.c1048573 : Code := codeAt (Try.f3.body.getD .skip) [true, true, true, true, true, true, true, true, true, true, true, true, true, true, true, true, true, false, true]
def zq31.c1048575 : Code := codeAt (Try.f3.body.getD .skip) [true, true, true, true, true, true, true, true, true, true, true, true, true, true, true, true, true, true, true]
def zq31.c2094590 : Code := codeAt (Try.f3.body.getD .skip) [true, true, true, true, true, true, true, true, false, true, false, true, true, true, true, true, true, true, true, false]
def zq31.c2094591 : Code := codeAt (Try.f3.body.getD .skip) [true, true, true, true, true, true, true, true, false, true, false, true, true, true, true, true, true, true, true, true]
def zq31.c2097148 : Code := codeAt (Try.f3.body.getD .skip) [true, true, true, true, true, true, true, true, true, true, true, true, true, true, true, true, true, true, false, false]
def zq31.c2097150 : Code := codeAt (Try.f3.body.getD .skip) [true, true, true, true, true, true, true, true, true, true, true, true, true, true, true, true, true, true, true, false]
def zq31.c4194299 : Code := codeAt (Try.f3.body.getD .skip) [true, true, true, true, true, true, true, true, true, true, true, true, true, true, true, true, true, true, false, true, true]
def zq31.c4194302 : Code := codeAt (Try.f3.body.getD .skip) [true, true, true, true, true, true, true, true, true, true, true, true, true, true, true, true, true, true, true, true, false]
def zq31.c8388596 : Code := codeAt (Try.f3.body.getD .skip) [true, true, true, true, true, true, true, true, true, true, true, true, true, true, true, true, true, true, false, true, false, false]
def zq31.c8388606 : Code := codeAt (Try.f3.body.getD .skip) [true, true, true, true, true, true, true, true, true, true, true, true, true, true, true, true, true, true, true, true, true, false]
def zq31.c16777195 : Code := codeAt (Try.f3.body.getD .skip) [true, true, true, true, true, true, true, true, true, true, true, true, true, true, true, true, true, true, false, true, false, true, true]
def zq31.c16777214 : Code := codeAt (Try.f3.body.getD .skip) [true, true, true, true, true, true, true, true, true, true, true, true, true, true, true, true, true, true, true, true, true, true, false]
def zq31.c33554388 : Code := codeAt (Try.f3.body.getD .skip) [true, true, true, true, true, true, true, true, true, true, true, true, true, true, true, true, true, true, false, true, false, true, false, false]
def zq31.c33554391 : Code := codeAt (Try.f3.body.getD .skip) [true, true, true, true, true, true, true, true, true, true, true, true, true, true, true, true, true, true, false, true, false, true, true, true]
def zq31.c33554430 : Code := codeAt (Try.f3.body.getD .skip) [true, true, true, true, true, true, true, true, true, true, true, true, true, true, true, true, true, true, true, true, true, true, true, false]
def zq31.c67108780 : Code := codeAt (Try.f3.body.getD .skip) [true, true, true, true, true, true, true, true, true, true, true, true, true, true, true, true, true, true, false, true, false, true, true, false, false]
def zq31.c67108781 : Code := codeAt (Try.f3.body.getD .skip) [true, true, true, true, true, true, true, true, true, true, true, true, true, true, true, true, true, true, false, true, false, true, true, false, true]
def zq31.c67108783 : Code := codeAt (Try.f3.body.getD .skip) [true, true, true, true, true, true, true, true, true, true, true, true, true, true, true, true, true, true, false, true, false, true, true, true, true]
def zq31.c67108862 : Code := codeAt (Try.f3.body.getD .skip) [true, true, true, true, true, true, true, true, true, true, true, true, true, true, true, true, true, true, true, true, true, true, true, true, false]
def zq31.c134217556 : Code := codeAt (Try.f3.body.getD .skip) [true, true, true, true, true, true, true, true, true, true, true, true, true, true, true, true, true, true, false, true, false, true, false, true, false, false]
def zq31.c134217564 : Code := codeAt (Try.f3.body.getD .skip) [true, true, true, true, true, true, true, true, true, true, true, true, true, true, true, true, true, true, false, true, false, true, true, true, false, false]
def zq31.c134217566 : Code := codeAt (Try.f3.body.getD .skip) [true, true, true, true, true, true, true, true, true, true, true, true, true, true, true, true, true, true, false, true, false, true, true, true, true, false]
def zq31.c134217567 : Code := codeAt (Try.f3.body.getD .skip) [true, true, true, true, true, true, true, true, true, true, true, true, true, true, true, true, true, true, false, true, false, true, true, true, true, true]
def zq31.c134217726 : Code := codeAt (Try.f3.body.getD .skip) [true, true, true, true, true, true, true, true, true, true, true, true, true, true, true, true, true, true, true, true, true, true, true, true, true, false]
def zq31.c268435455 : Code := codeAt (Try.f3.body.getD .skip) [true, true, true, true, true, true, true, true, true, true, true, true, true, true, true, true, true, true, true, true, true, true, true, true, true, true, true]
def zq31.c536870260 : Code := codeAt (Try.f3.body.getD .skip) [true, true, true, true, true, true, true, true, true, true, true, true, true, true, true, true, true, true, false, true, false, true, true, true, false, true, false, false]
def zq31.c536870908 : Code := codeAt (Try.f3.body.getD .skip) [true, true, true, true, true, true, true, true, true, true, true, true, true, true, true, true, true, true, true, true, true, true, true, true, true, true, false, false]
def zq31.c536870909 : Code := codeAt (Try.f3.body.getD .skip) [true, true, true, true, true, true, true, true, true, true, true, true, true, true, true, true, true, true, true, true, true, true, true, true, true, true, false, true]
def zq31.c536870910 : Code := codeAt (Try.f3.body.getD .skip) [true, true, true, true, true, true, true, true, true, true, true, true, true, true, true, true, true, true, true, true, true, true, true, true, true, true, true, false]
def zq31.c1073740520 : Code := codeAt (Try.f3.body.getD .skip) [true, true, true, true, true, true, true, true, true, true, true, true, true, true, true, true, true, true, false, true, false, true, true, true, false, true, false, false, false]
def zq31.c1073741822 : Code := codeAt (Try.f3.body.getD .skip) [true, true, true, true, true, true, true, true, true, true, true, true, true, true, true, true, true, true, true, true, true, true, true, true, true, true, true, true, false]
def zq31.c2147481042 : Code := codeAt (Try.f3.body.getD .skip) [true, true, true, true, true, true, true, true, true, true, true, true, true, true, true, true, true, true, false, true, false, true, true, true, false, true, false, false, true, false]
def zq31.c2147483646 : Code := codeAt (Try.f3.body.getD .skip) [true, true, true, true, true, true, true, true, true, true, true, true, true, true, true, true, true, true, true, true, true, true, true, true, true, true, true, true, true, false]
def zq31.c4294962087 : Code := codeAt (Try.f3.body.getD .skip) [true, true, true, true, true, true, true, true, true, true, true, true, true, true, true, true, true, true, false, true, false, true, true, true, false, true, false, false, true, true, true]
def zq31.c4294967295 : Code := codeAt (Try.f3.body.getD .skip) [true, true, true, true, true, true, true, true, true, true, true, true, true, true, true, true, true, true, true, true, true, true, true, true, true, true, true, true, true, true, true]
def zq31.c8589934588 : Code := codeAt (Try.f3.body.getD .skip) [true, true, true, true, true, true, true, true, true, true, true, true, true, true, true, true, true, true, true, true, true, true, true, true, true, true, true, true, true, true, false, false]
def zq31.c8589934589 : Code := codeAt (Try.f3.body.getD .skip) [true, true, true, true, true, true, true, true, true, true, true, true, true, true, true, true, true, true, true, true, true, true, true, true, true, true, true, true, true, true, false, true]
def zq31.c17179848344 : Code := codeAt (Try.f3.body.getD .skip) [true, true, true, true, true, true, true, true, true, true, true, true, true, true, true, true, true, true, false, true, false, true, true, true, false, true, false, false, true, true, false, false, false]
def zq31.c34359696690 : Code := codeAt (Try.f3.body.getD .skip) [true, true, true, true, true, true, true, true, true, true, true, true, true, true, true, true, true, true, false, true, false, true, true, true, false, true, false, false, true, true, false, false, true, false]
def zq31.c68719393382 : Code := codeAt (Try.f3.body.getD .skip) [true, true, true, true, true, true, true, true, true, true, true, true, true, true, true, true, true, true, false, true, false, true, true, true, false, true, false, false, true, true, false, false, true, true, false]
def zq31.c137438786766 : Code := codeAt (Try.f3.body.getD .skip) [true, true, true, true, true, true, true, true, true, true, true, true, true, true, true, true, true, true, false, true, false, true, true, true, false, true, false, false, true, true, false, false, true, true, true, false]
def zq31.c137438786767 : Code := codeAt (Try.f3.body.getD .skip) [true, true, true, true, true, true, true, true, true, true, true, true, true, true, true, true, true, true, false, true, false, true, true, true, false, true, false, false, true, true, false, false, true, true, true, true]
def zq31.K1048575 (N : Nat) : Ex → St D0 → Option zq31.R := zq31.K0
def zq31.B524287 (N : Nat) : St D0 → Option zq31.R := fun s' => runC zq31.C (zq31.O N) N zq31.c1048575 1048575 s' (zq31.K1048575 N)
def zq31.K137438786767 (N : Nat) (Kn268435130 : St D0 → Option zq31.R) : Ex → St D0 → Option zq31.R := (blockK 3 ((fun up => (onN (fun s => zq31.C.tidy 4294962086 s (fun s' => runC zq31.C (zq31.O N) N zq31.c4294962087 4294962087 s' up)) up)) ((fun up => (onN (fun s => zq31.C.tidy 268435130 s ((onN Kn268435130 up) .normal)) (onN Kn268435130 up))) (blockK 2 ((fun up => (onN (fun s => zq31.C.tidy 67108782 s (fun s' => runC zq31.C (zq31.O N) N zq31.c67108783 67108783 s' up)) up)) (onN (fun s => zq31.C.tidy 1048574 s (zq31.B524287 N)) zq31.K0))))))
def zq31.o15 (N : Nat) (v0 : List Int) (v1 : Int) (v2 : List S25) (v3 : List S25) (v4 : Int) (v5 : Int) (v6 : Bool) (c13 : (List Int) → Int → (List S25) → (List S25) → Int → Int → Option zq31.R) : Option zq31.R :=
 bif v6 then
  some (false)
 else
 c13 v0 v1 v2 v3 v4 (w64 (v5 + 1))
theorem zq31.o15.run (N : Nat) (Kb524287 : St D0 → Option zq31.R) (Kn268435130 : St D0 → Option zq31.R) (v0 : List Int) (v1 : Int) (v2 : List S25) (v3 : List S25) (v4 : Int) (v5 : Int) (v6 : Bool) : runC zq31.C (zq31.O N) N zq31.c137438786767 137438786767 (mkSt [(1, .one (.sl false 5 v0)), (28, .one (.int .i64 v1)), (37, .one (.sl false 25 v2)), (359, .one (.sl true 25 v3)), (360, .one (.int .i64 v4)), (361, .one (.int .i64 v5)), (386, .one (.bool v6))] [] : St D0) (blockK 3 ((fun up => (onN (fun s => zq31.C.tidy 4294962086 s (fun s' => runC zq31.C (zq31.O N) N zq31.c4294962087 4294962087 s' up)) up)) ((fun up => (onN (fun s => zq31.C.tidy 268435130 s ((onN Kn268435130 up) .normal)) (onN Kn268435130 up))) (blockK 2 (onN (fun s => zq31.C.tidy 67108782 s (fun s' => runC zq31.C (zq31.O N) N zq31.c67108783 67108783 s' (onN (fun s => zq31.C.tidy 1048574 s Kb524287) zq31.K0))) (onN (fun s => zq31.C.tidy 1048574 s Kb524287) zq31.K0)))))) = zq31.o15 N v0 v1 v2 v3 v4 v5 v6 ((fun w0 w1 w2 w3 w4 w5 => Kn268435130 (mkSt [(1, .one (.sl false 5 w0)), (28, .one (.int .i64 w1)), (37, .one (.sl false 25 w2)), (359, .one (.sl true 25 w3)), (360, .one (.int .i64 w4)), (361, .one (.int .i64 w5))] [] : St D0))) := by kernel_rfl
def zq31.d15 (N : Nat) (v0 : List Int) (v1 : Int) (v2 : List S25) (v3 : List S25) (v4 : Int) (v5 : Int) (v6 : Bool) (c13 : (List Int) → Int → (List S25) → (List S25) → Int → Int → Option zq31.R) : Option zq31.R := zq31.o15 N v0 v1 v2 v3 v4 v5 v6 c13
theorem zq31.d15.run (N : Nat) (Kn268435130 : St D0 → Option zq31.R) (v0 : List Int) (v1 : Int) (v2 : List S25) (v3 : List S25) (v4 : Int) (v5 : Int) (v6 : Bool) : runC zq31.C (zq31.O N) N zq31.c137438786767 137438786767 (mkSt [(1, .one (.sl false 5 v0)), (28, .one (.int .i64 v1)), (37, .one (.sl false 25 v2)), (359, .one (.sl true 25 v3)), (360, .one (.int .i64 v4)), (361, .one (.int .i64 v5)), (386, .one (.bool v6))] [] : St D0) (zq31.K137438786767 N Kn268435130) = zq31.d15 N v0 v1 v2 v3 v4 v5 v6 ((fun w0 w1 w2 w3 w4 w5 => Kn268435130 (mkSt [(1, .one (.sl false 5 w0)), (28, .one (.int .i64 w1)), (37, .one (.sl false 25 w2)), (359, .one (.sl true 25 w3)), (360, .one (.int .i64 w4)), (361, .one (.int .i64 w5))] [] : St D0))) := by
  exact (zq31.o15.run N (zq31.B524287 N) Kn268435130 v0 v1 v2 v3 v4 v5 v6).trans rfl
def zq31.K8589934589 (N : Nat) : Ex → St D0 → Option zq31.R := (onN (fun s => zq31.C.tidy 4294967294 s (fun s' => runC zq31.C (zq31.O N) N zq31.c4294967295 4294967295 s' zq31.K0)) zq31.K0)
def zq31.o14 (N : Nat) (v0 : Bool) : Option zq31.R :=
 bif v0 then
  some (false)
 else
 some (true)
theorem zq31.o14.run (N : Nat) (v0 : Bool) : runC zq31.C (zq31.O N) N zq31.c8589934589 8589934589 (mkSt [(511, .one (.bool v0))] [] : St D0) (onN (fun s => zq31.C.tidy 4294967294 s (fun s' => runC zq31.C (zq31.O N) N zq31.c4294967295 4294967295 s' zq31.K0)) zq31.K0) = zq31.o14 N v0 := by kernel_rfl
def zq31.d14 (N : Nat) (v0 : Bool) : Option zq31.R := zq31.o14 N v0
theorem zq31.d14.run (N : Nat) (v0 : Bool) : runC zq31.C (zq31.O N) N zq31.c8589934589 8589934589 (mkSt [(511, .one (.bool v0))] [] : St D0) (zq31.K8589934589 N) = zq31.d14 N v0 := by
  exact (zq31.o14.run N v0).trans rfl
def zq31.K536870909 (N : Nat) : Ex → St D0 → Option zq31.R := (onN (fun s => zq31.C.tidy 268435454 s (fun s' => runC zq31.C (zq31.O N) N zq31.c268435455 268435455 s' zq31.K0)) zq31.K0)
def zq31.o12 (N : Nat) (v0 : List Int) (v1 : Bool) (c14 : Bool → Option zq31.R) : Option zq31.R :=
 bif v1 then
  some (false)
 else
 (zq43.g N v0).bind fun r1 =>
 (zq4.g N r1.1 r1.2.1 r1.2.2.1 r1.2.2.2).bind fun r2 =>
 (zq45.g N r1.1 r1.2.1 r1.2.2.1 r1.2.2.2).bind fun r3 =>
 bif (!(r2.2.2.2.2 == r3.2.2.2.2)) then
  c14 true
 else
 bif (!(((r2.1 == r3.1) && ((r2.2.1 == r3.2.1) && true)) && (((r2.2.2.1 == r3.2.2.1) && ((r2.2.2.2.1 == r3.2.2.2.1) && true)) && true))) then
  c14 true
 else
 (zq6.g N r1.1 r1.2.1 r1.2.2.1 r1.2.2.2).bind fun r4 =>
 bif (!(r2.2.2.2.2 == r4)) then
  c14 true
 else
 (zq6.g N r1.1 r1.2.1 r1.2.2.1 r1.2.2.2).bind fun r5 =>
 (zq47.g N r1.1 r1.2.1 r1.2.2.1 r1.2.2.2).bind fun r6 =>
 c14 (!(r5 == r6))
theorem zq31.o12.run (N : Nat) (H8589934589 : Code) (v0 : List Int) (v1 : Bool) : runC zq31.C (zq31.O N) N zq31.c536870909 536870909 (mkSt [(1, .one (.sl false 5 v0)), (478, .one (.bool v1))] [] : St D0) (onN (fun s => zq31.C.tidy 268435454 s (fun s' => runC zq31.C (zq31.O N) N (.seq zq31.c536870910 (.seq zq31.c1073741822 (.seq zq31.c2147483646 (.seq (.seq zq31.c8589934588 H8589934589) zq31.c4294967295)))) 268435455 s' zq31.K0)) zq31.K0) = zq31.o12 N v0 v1 ((fun w0 => runC zq31.C (zq31.O N) N H8589934589 8589934589 (mkSt [(511, .one (.bool w0))] [] : St D0) (onN (fun s => zq31.C.tidy 4294967294 s (fun s' => runC zq31.C (zq31.O N) N zq31.c4294967295 4294967295 s' zq31.K0)) zq31.K0))) := by kernel_rfl
def zq31.d12 (N : Nat) (v0 : List Int) (v1 : Bool) : Option zq31.R := zq31.o12 N v0 v1 ((fun w0 => zq31.d14 N w0))
theorem zq31.d12.run (N : Nat) (v0 : List Int) (v1 : Bool) : runC zq31.C (zq31.O N) N zq31.c536870909 536870909 (mkSt [(1, .one (.sl false 5 v0)), (478, .one (.bool v1))] [] : St D0) (zq31.K536870909 N) = zq31.d12 N v0 v1 := by
  unfold zq31.d12; exact (zq31.o12.run N zq31.c8589934589 v0 v1).trans (congr rfl (funext fun w0 => zq31.d14.run N w0))
def zq31.o10 (N : Nat) (v0 : List Int) (c12 : (List Int) → Bool → Option zq31.R) : Option zq31.R :=
 (zq44.g N v0).bind fun r1 =>
 (zq13.g N r1.1 r1.2.1 r1.2.2.1 r1.2.2.2.1 r1.2.2.2.2).bind fun r2 =>
 (zq51.g N r1.1 r1.2.1 r1.2.2.1 r1.2.2.2.1 r1.2.2.2.2).bind fun r3 =>
 (zq7.g N r1.1 r1.2.1 r1.2.2.1 r1.2.2.2.1 r1.2.2.2.2).bind fun r4 =>
 (zq48.g N r1.1 r1.2.1 r1.2.2.1 r1.2.2.2.1 r1.2.2.2.2).bind fun r5 =>
 (zq14.g N r1.1 r1.2.1 r1.2.2.1 r1.2.2.2.1 r1.2.2.2.2).bind fun r6 =>
 (zq52.g N r1.1 r1.2.1 r1.2.2.1 r1.2.2.2.1 r1.2.2.2.2).bind fun r7 =>
 bif (!(r2.2.2 == r3.2.2)) then
  c12 v0 true
 else
 bif (!((r2.1 == r3.1) && ((r2.2.1 == r3.2.1) && true))) then
  c12 v0 true
 else
 bif (!(r4.2 == r5.2)) then
  c12 v0 true
 else
 bif (!(r4.1 == r5.1)) then
  c12 v0 true
 else
 bif (!(r6.2 == r7.2)) then
  c12 v0 true
 else
 (zq35.g N r6.1 r7.1).bind fun r8 =>
 bif (!r8) then
  c12 v0 true
 else
 bif r4.2 then
  bif (!(r2.2.2 == r4.1)) then
   c12 v0 true
  else
  c12 v0 (!(r6.2 == r4.2))
 else
 bif (!(r2.2.2 == false)) then
  c12 v0 true
 else
 c12 v0 (!(r6.2 == r4.2))
theorem zq31.o10.run (N : Nat) (H536870909 : Code) (v0 : List Int) : runC zq31.C (zq31.O N) N (.seq zq31.c2097150 (.seq zq31.c4194302 (.seq zq31.c8388606 (.seq zq31.c16777214 (.seq zq31.c33554430 (.seq zq31.c67108862 (.seq zq31.c134217726 (.seq (.seq zq31.c536870908 H536870909) zq31.c268435455)))))))) 1048575 (mkSt [(1, .one (.sl false 5 v0))] [] : St D0) zq31.K0 = zq31.o10 N v0 ((fun w0 w1 => runC zq31.C (zq31.O N) N H536870909 536870909 (mkSt [(1, .one (.sl false 5 w0)), (478, .one (.bool w1))] [] : St D0) (onN (fun s => zq31.C.tidy 268435454 s (fun s' => runC zq31.C (zq31.O N) N zq31.c268435455 268435455 s' zq31.K0)) zq31.K0))) := by kernel_rfl
def zq31.d10 (N : Nat) (v0 : List Int) : Option zq31.R := zq31.o10 N v0 ((fun w0 w1 => zq31.d12 N w0 w1))
theorem zq31.c1048575_10 : zq31.c1048575 = (.seq zq31.c2097150 (.seq zq31.c4194302 (.seq zq31.c8388606 (.seq zq31.c16777214 (.seq zq31.c33554430 (.seq zq31.c67108862 (.seq zq31.c134217726 (.seq (.seq zq31.c536870908 zq31.c536870909) zq31.c268435455)))))))) := by kernel_rfl
theorem zq31.d10.run (N : Nat) (v0 : List Int) : runC zq31.C (zq31.O N) N zq31.c1048575 1048575 (mkSt [(1, .one (.sl false 5 v0))] [] : St D0) (zq31.K1048575 N) = zq31.d10 N v0 := by
  rw [zq31.c1048575_10]; unfold zq31.d10; exact (zq31.o10.run N zq31.c536870909 v0).trans (congr rfl (funext fun w0 => funext fun w1 => zq31.d12.run N w0 w1))
def zq31.K134217567 (N : Nat) : Ex → St D0 → Option zq31.R := (onN (fun s => zq31.C.tidy 1048574 s (zq31.B524287 N)) zq31.K0)
def zq31.o16 (N : Nat) (v0 : List Int) (v1 : Bool) (c10 : (List Int) → Option zq31.R) : Option zq31.R :=
 bif v1 then
  some (false)
 else
 c10 v0
theorem zq31.o16.run (N : Nat) (Kb524287 : St D0 → Option zq31.R) (v0 : List Int) (v1 : Bool) : runC zq31.C (zq31.O N) N zq31.c134217567 134217567 (mkSt [(1, .one (.sl false 5 v0)), (395, .one (.bool v1))] [] : St D0) (onN (fun s => zq31.C.tidy 1048574 s Kb524287) zq31.K0) = zq31.o16 N v0 v1 ((fun w0 => Kb524287 (mkSt [(1, .one (.sl false 5 w0))] [] : St D0))) := by kernel_rfl
def zq31.d16 (N : Nat) (v0 : List Int) (v1 : Bool) : Option zq31.R := zq31.o16 N v0 v1 ((fun w0 => zq31.d10 N w0))
theorem zq31.d16.run (N : Nat) (v0 : List Int) (v1 : Bool) : runC zq31.C (zq31.O N) N zq31.c134217567 134217567 (mkSt [(1, .one (.sl false 5 v0)), (395, .one (.bool v1))] [] : St D0) (zq31.K134217567 N) = zq31.d16 N v0 v1 := by
  unfold zq31.d16; exact (zq31.o16.run N (zq31.B524287 N) v0 v1).trans (congr rfl (funext fun w0 => zq31.d10.run N w0))
def zq31.K536870260 (N : Nat) (Kn268435130 : St D0 → Option zq31.R) : Ex → St D0 → Option zq31.R := ((fun up => (onN (fun s => zq31.C.tidy 268435130 s ((onN Kn268435130 up) .normal)) (onN Kn268435130 up))) (blockK 2 ((fun up => (onN (fun s => zq31.C.tidy 67108782 s (fun s' => runC zq31.C (zq31.O N) N zq31.c67108783 67108783 s' up)) up)) (onN (fun s => zq31.C.tidy 1048574 s (zq31.B524287 N)) zq31.K0))))
def zq31.o13 (N : Nat) (v0 : List Int) (v1 : Int) (v2 : List S25) (v3 : List S25) (v4 : Int) (v5 : Int) (c15 : (List Int) → Int → (List S25) → (List S25) → Int → Int → Bool → Option zq31.R) (c16 : (List Int) → Bool → Option zq31.R) : Option zq31.R :=
 bif (decide (v5 < v4)) then
  bif (decide (0 ≤ v5)) then
   bif (decide (v5 < (v3.length : Int))) then
    (v3[(v5 : Int).toNat]?).bind fun x1 =>
    (zq11.g N v1 x1.f0 x1.f1).bind fun r2 =>
    (zq9.g N r2.1 r2.2.1 r2.2.2.1 r2.2.2.2.1).bind fun r3 =>
    bif (!r2.2.2.2.2) then
     c15 v0 v1 v2 v3 v4 v5 true
    else
    bif (!r3.2.2.2.2) then
     c15 v0 v1 v2 v3 v4 v5 true
    else
    c15 v0 v1 v2 v3 v4 v5 (!(((r3.1 == r2.1) && ((r3.2.1 == r2.2.1) && true)) && (((r3.2.2.1 == r2.2.2.1) && ((r3.2.2.2.1 == r2.2.2.2.1) && true)) && true)))
   else
   none
  else
  none
 else
 (zq34.g N v2).bind fun r4 =>
 bif (!r4) then
  c16 v0 true
 else
 c16 v0 ((v2.length : Int) != 2)
theorem zq31.o13.run (N : Nat) (Kb524287 : St D0 → Option zq31.R) (Kn268435130 : St D0 → Option zq31.R) (H134217567 : Code) (H137438786767 : Code) (v0 : List Int) (v1 : Int) (v2 : List S25) (v3 : List S25) (v4 : Int) (v5 : Int) : runC zq31.C (zq31.O N) N (.seq zq31.c1073740520 (.seq zq31.c2147481042 (.seq (.block 3 (.seq zq31.c17179848344 (.seq zq31.c34359696690 (.seq zq31.c68719393382 (.seq zq31.c137438786766 H137438786767))))) zq31.c4294962087))) 536870260 (mkSt [(1, .one (.sl false 5 v0)), (28, .one (.int .i64 v1)), (37, .one (.sl false 25 v2)), (359, .one (.sl true 25 v3)), (360, .one (.int .i64 v4)), (361, .one (.int .i64 v5))] [] : St D0) ((fun up => (onN (fun s => zq31.C.tidy 268435130 s ((onN Kn268435130 up) .normal)) (onN Kn268435130 up))) (blockK 2 (onN (fun s => zq31.C.tidy 67108782 s (fun s' => runC zq31.C (zq31.O N) N (.seq zq31.c134217566 H134217567) 67108783 s' (onN (fun s => zq31.C.tidy 1048574 s Kb524287) zq31.K0))) (onN (fun s => zq31.C.tidy 1048574 s Kb524287) zq31.K0)))) = zq31.o13 N v0 v1 v2 v3 v4 v5 ((fun w0 w1 w2 w3 w4 w5 w6 => runC zq31.C (zq31.O N) N H137438786767 137438786767 (mkSt [(1, .one (.sl false 5 w0)), (28, .one (.int .i64 w1)), (37, .one (.sl false 25 w2)), (359, .one (.sl true 25 w3)), (360, .one (.int .i64 w4)), (361, .one (.int .i64 w5)), (386, .one (.bool w6))] [] : St D0) (blockK 3 ((fun up => (onN (fun s => zq31.C.tidy 4294962086 s (fun s' => runC zq31.C (zq31.O N) N zq31.c4294962087 4294962087 s' up)) up)) ((fun up => (onN (fun s => zq31.C.tidy 268435130 s ((onN Kn268435130 up) .normal)) (onN Kn268435130 up))) (blockK 2 (onN (fun s => zq31.C.tidy 67108782 s (fun s' => runC zq31.C (zq31.O N) N (.seq zq31.c134217566 H134217567) 67108783 s' (onN (fun s => zq31.C.tidy 1048574 s Kb524287) zq31.K0))) (onN (fun s => zq31.C.tidy 1048574 s Kb524287) zq31.K0)))))))) ((fun w0 w1 => runC zq31.C (zq31.O N) N H134217567 134217567 (mkSt [(1, .one (.sl false 5 w0)), (395, .one (.bool w1))] [] : St D0) (onN (fun s => zq31.C.tidy 1048574 s Kb524287) zq31.K0))) := by kernel_rfl
def zq31.d13 (N : Nat) (v0 : List Int) (v1 : Int) (v2 : List S25) (v3 : List S25) (v4 : Int) (v5 : Int) (c13 : (List Int) → Int → (List S25) → (List S25) → Int → Int → Option zq31.R) : Option zq31.R := zq31.o13 N v0 v1 v2 v3 v4 v5 ((fun w0 w1 w2 w3 w4 w5 w6 => zq31.d15 N w0 w1 w2 w3 w4 w5 w6 c13)) ((fun w0 w1 => zq31.d16 N w0 w1))
theorem zq31.c536870260_13 : zq31.c536870260 = (.seq zq31.c1073740520 (.seq zq31.c2147481042 (.seq (.block 3 (.seq zq31.c17179848344 (.seq zq31.c34359696690 (.seq zq31.c68719393382 (.seq zq31.c137438786766 zq31.c137438786767))))) zq31.c4294962087))) := by kernel_rfl
theorem zq31.d13.run (N : Nat) (Kn268435130 : St D0 → Option zq31.R) (v0 : List Int) (v1 : Int) (v2 : List S25) (v3 : List S25) (v4 : Int) (v5 : Int) : runC zq31.C (zq31.O N) N zq31.c536870260 536870260 (mkSt [(1, .one (.sl false 5 v0)), (28, .one (.int .i64 v1)), (37, .one (.sl false 25 v2)), (359, .one (.sl true 25 v3)), (360, .one (.int .i64 v4)), (361, .one (.int .i64 v5))] [] : St D0) (zq31.K536870260 N Kn268435130) = zq31.d13 N v0 v1 v2 v3 v4 v5 ((fun w0 w1 w2 w3 w4 w5 => Kn268435130 (mkSt [(1, .one (.sl false 5 w0)), (28, .one (.int .i64 w1)), (37, .one (.sl false 25 w2)), (359, .one (.sl true 25 w3)), (360, .one (.int .i64 w4)), (361, .one (.int .i64 w5))] [] : St D0))) := by
  rw [zq31.c536870260_13]; unfold zq31.d13; exact (zq31.o13.run N (zq31.B524287 N) Kn268435130 zq31.c134217567 zq31.c137438786767 v0 v1 v2 v3 v4 v5).trans (congr (congr rfl (funext fun w0 => funext fun w1 => funext fun w2 => funext fun w3 => funext fun w4 => funext fun w5 => funext fun w6 => zq31.d15.run N Kn268435130 w0 w1 w2 w3 w4 w5 w6)) (funext fun w0 => funext fun w1 => zq31.d16.run N w0 w1))
def zq31.K268435130 (N : Nat) : Ex → St D0 → Option zq31.R := (blockK 2 ((fun up => (onN (fun s => zq31.C.tidy 67108782 s (fun s' => runC zq31.C (zq31.O N) N zq31.c67108783 67108783 s' up)) up)) (onN (fun s => zq31.C.tidy 1048574 s (zq31.B524287 N)) zq31.K0)))
def zq31.l13 (N : Nat) : Nat → (List Int) → Int → (List S25) → (List S25) → Int → Int → Option zq31.R
  | 0, _, _, _, _, _, _ => none
  | n + 1, v0, v1, v2, v3, v4, v5 => zq31.d13 N v0 v1 v2 v3 v4 v5 ((fun w0 w1 w2 w3 w4 w5 => zq31.l13 N n w0 w1 w2 w3 w4 w5))
theorem zq31.loop268435130 (N : Nat) : ∀ n, (∀ (v0 : List Int) (v1 : Int) (v2 : List S25) (v3 : List S25) (v4 : Int) (v5 : Int), iter (loopF zq31.C (zq31.O N) N zq31.c536870260 268435130) n (mkSt [(1, .one (.sl false 5 v0)), (28, .one (.int .i64 v1)), (37, .one (.sl false 25 v2)), (359, .one (.sl true 25 v3)), (360, .one (.int .i64 v4)), (361, .one (.int .i64 v5))] [] : St D0) (zq31.K268435130 N) = zq31.l13 N n v0 v1 v2 v3 v4 v5)
  | 0 => (fun v0 v1 v2 v3 v4 v5 => rfl)
  | n + 1 => (fun v0 v1 v2 v3 v4 v5 => (zq31.d13.run N (fun s => iter (loopF zq31.C (zq31.O N) N zq31.c536870260 268435130) n s (zq31.K268435130 N)) v0 v1 v2 v3 v4 v5).trans (show _ = zq31.d13 N v0 v1 v2 v3 v4 v5 ((fun w0 w1 w2 w3 w4 w5 => zq31.l13 N n w0 w1 w2 w3 w4 w5)) from (congr rfl (funext fun w0 => funext fun w1 => funext fun w2 => funext fun w3 => funext fun w4 => funext fun w5 => (zq31.loop268435130 N n) w0 w1 w2 w3 w4 w5))))
def zq31.K67108781 (N : Nat) : Ex → St D0 → Option zq31.R := ((fun up => (onN (fun s => zq31.C.tidy 33554390 s (fun s' => runC zq31.C (zq31.O N) N zq31.c33554391 33554391 s' up)) up)) (onN (fun s => zq31.C.tidy 1048574 s (zq31.B524287 N)) zq31.K0))
def zq31.o11 (N : Nat) (v0 : List Int) (v1 : Int) (v2 : List S25) (v3 : Bool) (c13 : (List Int) → Int → (List S25) → (List S25) → Int → Int → Option zq31.R) : Option zq31.R :=
 bif v3 then
  some (false)
 else
 c13 v0 v1 v2 v2 (v2.length : Int) 0
theorem zq31.o11.run (N : Nat) (Kb524287 : St D0 → Option zq31.R) (H536870260 : Code) (v0 : List Int) (v1 : Int) (v2 : List S25) (v3 : Bool) : runC zq31.C (zq31.O N) N zq31.c67108781 67108781 (mkSt [(1, .one (.sl false 5 v0)), (28, .one (.int .i64 v1)), (37, .one (.sl true 25 v2)), (358, .one (.bool v3))] [] : St D0) (onN (fun s => zq31.C.tidy 33554390 s (fun s' => runC zq31.C (zq31.O N) N (.seq (.seq zq31.c134217564 (.block 2 (.loop H536870260))) zq31.c67108783) 33554391 s' (onN (fun s => zq31.C.tidy 1048574 s Kb524287) zq31.K0))) (onN (fun s => zq31.C.tidy 1048574 s Kb524287) zq31.K0)) = zq31.o11 N v0 v1 v2 v3 ((fun w0 w1 w2 w3 w4 w5 => iter (loopF zq31.C (zq31.O N) N H536870260 268435130) N (mkSt [(1, .one (.sl false 5 w0)), (28, .one (.int .i64 w1)), (37, .one (.sl false 25 w2)), (359, .one (.sl true 25 w3)), (360, .one (.int .i64 w4)), (361, .one (.int .i64 w5))] [] : St D0) (blockK 2 (onN (fun s => zq31.C.tidy 67108782 s (fun s' => runC zq31.C (zq31.O N) N zq31.c67108783 67108783 s' (onN (fun s => zq31.C.tidy 1048574 s Kb524287) zq31.K0))) (onN (fun s => zq31.C.tidy 1048574 s Kb524287) zq31.K0))))) := by kernel_rfl
def zq31.d11 (N : Nat) (v0 : List Int) (v1 : Int) (v2 : List S25) (v3 : Bool) : Option zq31.R := zq31.o11 N v0 v1 v2 v3 ((fun w0 w1 w2 w3 w4 w5 => zq31.l13 N N w0 w1 w2 w3 w4 w5))
theorem zq31.d11.run (N : Nat) (v0 : List Int) (v1 : Int) (v2 : List S25) (v3 : Bool) : runC zq31.C (zq31.O N) N zq31.c67108781 67108781 (mkSt [(1, .one (.sl false 5 v0)), (28, .one (.int .i64 v1)), (37, .one (.sl true 25 v2)), (358, .one (.bool v3))] [] : St D0) (zq31.K67108781 N) = zq31.d11 N v0 v1 v2 v3 := by
  unfold zq31.d11; exact (zq31.o11.run N (zq31.B524287 N) zq31.c536870260 v0 v1 v2 v3).trans (congr rfl (funext fun w0 => funext fun w1 => funext fun w2 => funext fun w3 => funext fun w4 => funext fun w5 => (zq31.loop268435130 N N) w0 w1 w2 w3 w4 w5))
def zq31.K134217556 (N : Nat) (Kn67108778 : St D0 → Option zq31.R) : Ex → St D0 → Option zq31.R := ((fun up => (onN (fun s => zq31.C.tidy 67108778 s ((onN Kn67108778 up) .normal)) (onN Kn67108778 up))) (blockK 0 ((fun up => (onN (fun s => zq31.C.tidy 16777194 s (fun s' => runC zq31.C (zq31.O N) N zq31.c16777195 16777195 s' up)) up)) (onN (fun s => zq31.C.tidy 1048574 s (zq31.B524287 N)) zq31.K0))))
def zq31.o9 (N : Nat) (v0 : List Int) (v1 : Int) (v2 : List S25) (v3 : Int) (v4 : List S25) (v5 : Int) (v6 : List S25) (v7 : Int) (v8 : Int) (c9 : (List Int) → Int → (List S25) → Int → (List S25) → Int → (List S25) → Int → Int → Option zq31.R) (c11 : (List Int) → Int → (List S25) → Bool → Option zq31.R) : Option zq31.R :=
 bif (decide (v8 < v7)) then
  bif (decide (0 ≤ v8)) then
   bif (decide (v8 < (v6.length : Int))) then
    (v6[(v8 : Int).toNat]?).bind fun x1 =>
    (zq5.g N v1 x1.f0 x1.f1).bind fun r2 =>
    bif (!r2.2.2) then
     some (false)
    else
    bif (!((r2.1 == x1.f0) && ((r2.2.1 == x1.f1) && true))) then
     c9 v0 v1 v2 v3 v4 (w64 (v5 + 1)) v6 v7 (w64 (v8 + 1))
    else
    c9 v0 v1 v2 v3 v4 v5 v6 v7 (w64 (v8 + 1))
   else
   none
  else
  none
 else
 bif ((v2.length : Int) != (w64 ((w64 (v1 * v1)) - 1))) then
  c11 v0 v1 v4 true
 else
 (zq34.g N v2).bind fun r3 =>
 bif (!r3) then
  c11 v0 v1 v4 true
 else
 c11 v0 v1 v4 (v5 != v3)
theorem zq31.o9.run (N : Nat) (Kb524287 : St D0 → Option zq31.R) (Kn67108778 : St D0 → Option zq31.R) (H67108781 : Code) (v0 : List Int) (v1 : Int) (v2 : List S25) (v3 : Int) (v4 : List S25) (v5 : Int) (v6 : List S25) (v7 : Int) (v8 : Int) : runC zq31.C (zq31.O N) N zq31.c134217556 134217556 (mkSt [(1, .one (.sl false 5 v0)), (28, .one (.int .i64 v1)), (29, .one (.sl false 25 v2)), (33, .one (.int .i64 v3)), (37, .one (.sl true 25 v4)), (41, .one (.int .i64 v5)), (322, .one (.sl false 25 v6)), (323, .one (.int .i64 v7)), (324, .one (.int .i64 v8))] [] : St D0) ((fun up => (onN (fun s => zq31.C.tidy 67108778 s ((onN Kn67108778 up) .normal)) (onN Kn67108778 up))) (blockK 0 (onN (fun s => zq31.C.tidy 16777194 s (fun s' => runC zq31.C (zq31.O N) N (.seq (.seq zq31.c67108780 H67108781) zq31.c33554391) 16777195 s' (onN (fun s => zq31.C.tidy 1048574 s Kb524287) zq31.K0))) (onN (fun s => zq31.C.tidy 1048574 s Kb524287) zq31.K0)))) = zq31.o9 N v0 v1 v2 v3 v4 v5 v6 v7 v8 ((fun w0 w1 w2 w3 w4 w5 w6 w7 w8 => Kn67108778 (mkSt [(1, .one (.sl false 5 w0)), (28, .one (.int .i64 w1)), (29, .one (.sl false 25 w2)), (33, .one (.int .i64 w3)), (37, .one (.sl true 25 w4)), (41, .one (.int .i64 w5)), (322, .one (.sl false 25 w6)), (323, .one (.int .i64 w7)), (324, .one (.int .i64 w8))] [] : St D0))) ((fun w0 w1 w2 w3 => runC zq31.C (zq31.O N) N H67108781 67108781 (mkSt [(1, .one (.sl false 5 w0)), (28, .one (.int .i64 w1)), (37, .one (.sl true 25 w2)), (358, .one (.bool w3))] [] : St D0) (onN (fun s => zq31.C.tidy 33554390 s (fun s' => runC zq31.C (zq31.O N) N zq31.c33554391 33554391 s' (onN (fun s => zq31.C.tidy 1048574 s Kb524287) zq31.K0))) (onN (fun s => zq31.C.tidy 1048574 s Kb524287) zq31.K0)))) := by kernel_rfl
def zq31.d9 (N : Nat) (v0 : List Int) (v1 : Int) (v2 : List S25) (v3 : Int) (v4 : List S25) (v5 : Int) (v6 : List S25) (v7 : Int) (v8 : Int) (c9 : (List Int) → Int → (List S25) → Int → (List S25) → Int → (List S25) → Int → Int → Option zq31.R) : Option zq31.R := zq31.o9 N v0 v1 v2 v3 v4 v5 v6 v7 v8 c9 ((fun w0 w1 w2 w3 => zq31.d11 N w0 w1 w2 w3))
theorem zq31.d9.run (N : Nat) (Kn67108778 : St D0 → Option zq31.R) (v0 : List Int) (v1 : Int) (v2 : List S25) (v3 : Int) (v4 : List S25) (v5 : Int) (v6 : List S25) (v7 : Int) (v8 : Int) : runC zq31.C (zq31.O N) N zq31.c134217556 134217556 (mkSt [(1, .one (.sl false 5 v0)), (28, .one (.int .i64 v1)), (29, .one (.sl false 25 v2)), (33, .one (.int .i64 v3)), (37, .one (.sl true 25 v4)), (41, .one (.int .i64 v5)), (322, .one (.sl false 25 v6)), (323, .one (.int .i64 v7)), (324, .one (.int .i64 v8))] [] : St D0) (zq31.K134217556 N Kn67108778) = zq31.d9 N v0 v1 v2 v3 v4 v5 v6 v7 v8 ((fun w0 w1 w2 w3 w4 w5 w6 w7 w8 => Kn67108778 (mkSt [(1, .one (.sl false 5 w0)), (28, .one (.int .i64 w1)), (29, .one (.sl false 25 w2)), (33, .one (.int .i64 w3)), (37, .one (.sl true 25 w4)), (41, .one (.int .i64 w5)), (322, .one (.sl false 25 w6)), (323, .one (.int .i64 w7)), (324, .one (.int .i64 w8))] [] : St D0))) := by
  unfold zq31.d9; exact (zq31.o9.run N (zq31.B524287 N) Kn67108778 zq31.c67108781 v0 v1 v2 v3 v4 v5 v6 v7 v8).trans (congr (congr rfl rfl) (funext fun w0 => funext fun w1 => funext fun w2 => funext fun w3 => zq31.d11.run N w0 w1 w2 w3))
def zq31.K67108778 (N : Nat) : Ex → St D0 → Option zq31.R := (blockK 0 ((fun up => (onN (fun s => zq31.C.tidy 16777194 s (fun s' => runC zq31.C (zq31.O N) N zq31.c16777195 16777195 s' up)) up)) (onN (fun s => zq31.C.tidy 1048574 s (zq31.B524287 N)) zq31.K0)))
def zq31.l9 (N : Nat) : Nat → (List Int) → Int → (List S25) → Int → (List S25) → Int → (List S25) → Int → Int → Option zq31.R
  | 0, _, _, _, _, _, _, _, _, _ => none
  | n + 1, v0, v1, v2, v3, v4, v5, v6, v7, v8 => zq31.d9 N v0 v1 v2 v3 v4 v5 v6 v7 v8 ((fun w0 w1 w2 w3 w4 w5 w6 w7 w8 => zq31.l9 N n w0 w1 w2 w3 w4 w5 w6 w7 w8))
theorem zq31.loop67108778 (N : Nat) : ∀ n, (∀ (v0 : List Int) (v1 : Int) (v2 : List S25) (v3 : Int) (v4 : List S25) (v5 : Int) (v6 : List S25) (v7 : Int) (v8 : Int), iter (loopF zq31.C (zq31.O N) N zq31.c134217556 67108778) n (mkSt [(1, .one (.sl false 5 v0)), (28, .one (.int .i64 v1)), (29, .one (.sl false 25 v2)), (33, .one (.int .i64 v3)), (37, .one (.sl true 25 v4)), (41, .one (.int .i64 v5)), (322, .one (.sl false 25 v6)), (323, .one (.int .i64 v7)), (324, .one (.int .i64 v8))] [] : St D0) (zq31.K67108778 N) = zq31.l9 N n v0 v1 v2 v3 v4 v5 v6 v7 v8)
  | 0 => (fun v0 v1 v2 v3 v4 v5 v6 v7 v8 => rfl)
  | n + 1 => (fun v0 v1 v2 v3 v4 v5 v6 v7 v8 => (zq31.d9.run N (fun s => iter (loopF zq31.C (zq31.O N) N zq31.c134217556 67108778) n s (zq31.K67108778 N)) v0 v1 v2 v3 v4 v5 v6 v7 v8).trans (show _ = zq31.d9 N v0 v1 v2 v3 v4 v5 v6 v7 v8 ((fun w0 w1 w2 w3 w4 w5 w6 w7 w8 => zq31.l9 N n w0 w1 w2 w3 w4 w5 w6 w7 w8)) from (congr rfl (funext fun w0 => funext fun w1 => funext fun w2 => funext fun w3 => funext fun w4 => funext fun w5 => funext fun w6 => funext fun w7 => funext fun w8 => (zq31.loop67108778 N n) w0 w1 w2 w3 w4 w5 w6 w7 w8))))
def zq31.K1048573 (N : Nat) : Ex → St D0 → Option zq31.R := (onN (fun s => zq31.C.tidy 524286 s (fun s' => runC zq31.C (zq31.O N) N zq31.c524287 524287 s' zq31.K0)) zq31.K0)
def zq31.o8 (N : Nat) (v0 : List Int) (v1 : Int) (v2 : List S25) (v3 : Bool) (v4 : Int) (v5 : List S25) (v6 : Bool) (c9 : (List Int) → Int → (List S25) → Int → (List S25) → Int → (List S25) → Int → Int → Option zq31.R) (c10 : (List Int) → Option zq31.R) : Option zq31.R :=
 bif v6 then
  some (false)
 else
 bif v3 then
  c9 v0 v1 v2 v4 v5 0 v2 (v2.length : Int) 0
 else
 c10 v0
theorem zq31.o8.run (N : Nat) (H1048575 : Code) (H134217556 : Code) (v0 : List Int) (v1 : Int) (v2 : List S25) (v3 : Bool) (v4 : Int) (v5 : List S25) (v6 : Bool) : runC zq31.C (zq31.O N) N zq31.c1048573 1048573 (mkSt [(1, .one (.sl false 5 v0)), (28, .one (.int .i64 v1)), (29, .one (.sl false 25 v2)), (30, .one (.bool v3)), (33, .one (.int .i64 v4)), (37, .one (.sl true 25 v5)), (320, .one (.bool v6))] [] : St D0) (onN (fun s => zq31.C.tidy 524286 s (fun s' => runC zq31.C (zq31.O N) N (.seq (.seq zq31.c2097148 (.cond (.tmp 321) (.seq zq31.c8388596 (.seq (.seq zq31.c33554388 (.block 0 (.loop H134217556))) zq31.c16777195)) zq31.c4194299)) H1048575) 524287 s' zq31.K0)) zq31.K0) = zq31.o8 N v0 v1 v2 v3 v4 v5 v6 ((fun w0 w1 w2 w3 w4 w5 w6 w7 w8 => iter (loopF zq31.C (zq31.O N) N H134217556 67108778) N (mkSt [(1, .one (.sl false 5 w0)), (28, .one (.int .i64 w1)), (29, .one (.sl false 25 w2)), (33, .one (.int .i64 w3)), (37, .one (.sl true 25 w4)), (41, .one (.int .i64 w5)), (322, .one (.sl false 25 w6)), (323, .one (.int .i64 w7)), (324, .one (.int .i64 w8))] [] : St D0) (blockK 0 ((fun up => (onN (fun s => zq31.C.tidy 16777194 s (fun s' => runC zq31.C (zq31.O N) N zq31.c16777195 16777195 s' up)) up)) (onN (fun s => zq31.C.tidy 1048574 s (fun s' => runC zq31.C (zq31.O N) N H1048575 1048575 s' zq31.K0)) zq31.K0))))) ((fun w0 => runC zq31.C (zq31.O N) N H1048575 1048575 (mkSt [(1, .one (.sl false 5 w0))] [] : St D0) zq31.K0)) := by kernel_rfl
def zq31.d8 (N : Nat) (v0 : List Int) (v1 : Int) (v2 : List S25) (v3 : Bool) (v4 : Int) (v5 : List S25) (v6 : Bool) : Option zq31.R := zq31.o8 N v0 v1 v2 v3 v4 v5 v6 ((fun w0 w1 w2 w3 w4 w5 w6 w7 w8 => zq31.l9 N N w0 w1 w2 w3 w4 w5 w6 w7 w8)) ((fun w0 => zq31.d10 N w0))
theorem zq31.d8.run (N : Nat) (v0 : List Int) (v1 : Int) (v2 : List S25) (v3 : Bool) (v4 : Int) (v5 : List S25) (v6 : Bool) : runC zq31.C (zq31.O N) N zq31.c1048573 1048573 (mkSt [(1, .one (.sl false 5 v0)), (28, .one (.int .i64 v1)), (29, .one (.sl false 25 v2)), (30, .one (.bool v3)), (33, .one (.int .i64 v4)), (37, .one (.sl true 25 v5)), (320, .one (.bool v6))] [] : St D0) (zq31.K1048573 N) = zq31.d8 N v0 v1 v2 v3 v4 v5 v6 := by
  unfold zq31.d8; exact (zq31.o8.run N zq31.c1048575 zq31.c134217556 v0 v1 v2 v3 v4 v5 v6).trans (congr (congr rfl (funext fun w0 => funext fun w1 => funext fun w2 => funext fun w3 => funext fun w4 => funext fun w5 => funext fun w6 => funext fun w7 => funext fun w8 => (zq31.loop67108778 N N) w0 w1 w2 w3 w4 w5 w6 w7 w8)) (funext fun w0 => zq31.d10.run N w0))
def zq31.K2047 (N : Nat) : Ex → St D0 → Option zq31.R := zq31.K0
def zq31.o6 (N : Nat) (v0 : List Int) (c8 : (List Int) → Int → (List S25) → Bool → Int → (List S25) → Bool → Option zq31.R) : Option zq31.R :=
 (zq41.g N v0).bind fun r1 =>
 (zq2.g N r1).bind fun r2 =>
 (zq39.g N r1).bind fun r3 =>
 (zq3.g N r1).bind fun r4 =>
 (zq40.g N r1).bind fun r5 =>
 (zq10.g N r1).bind fun r6 =>
 (zq49.g N r1).bind fun r7 =>
 bif (!(r2.2 == r3.2)) then
  c8 v0 r1 r2.1 r2.2 r4.1 r6.1 true
 else
 (zq35.g N r2.1 r3.1).bind fun r8 =>
 bif (!r8) then
  c8 v0 r1 r2.1 r2.2 r4.1 r6.1 true
 else
 bif (!(r4.2 == r5.2)) then
  c8 v0 r1 r2.1 r2.2 r4.1 r6.1 true
 else
 bif (r4.1 != r5.1) then
  c8 v0 r1 r2.1 r2.2 r4.1 r6.1 true
 else
 bif (!(r6.2 == r7.2)) then
  c8 v0 r1 r2.1 r2.2 r4.1 r6.1 true
 else
 (zq35.g N r6.1 r7.1).bind fun r9 =>
 bif (!r9) then
  c8 v0 r1 r2.1 r2.2 r4.1 r6.1 true
 else
 bif (!(r4.2 == r2.2)) then
  c8 v0 r1 r2.1 r2.2 r4.1 r6.1 true
 else
 c8 v0 r1 r2.1 r2.2 r4.1 r6.1 (!(r6.2 == r2.2))
theorem zq31.o6.run (N : Nat) (H1048573 : Code) (v0 : List Int) : runC zq31.C (zq31.O N) N (.seq zq31.c4094 (.seq zq31.c8190 (.seq zq31.c16382 (.seq zq31.c32766 (.seq zq31.c65534 (.seq zq31.c131070 (.seq zq31.c262142 (.seq (.seq zq31.c1048572 H1048573) zq31.c524287)))))))) 2047 (mkSt [(1, .one (.sl false 5 v0))] [] : St D0) zq31.K0 = zq31.o6 N v0 ((fun w0 w1 w2 w3 w4 w5 w6 => runC zq31.C (zq31.O N) N H1048573 1048573 (mkSt [(1, .one (.sl false 5 w0)), (28, .one (.int .i64 w1)), (29, .one (.sl false 25 w2)), (30, .one (.bool w3)), (33, .one (.int .i64 w4)), (37, .one (.sl true 25 w5)), (320, .one (.bool w6))] [] : St D0) (onN (fun s => zq31.C.tidy 524286 s (fun s' => runC zq31.C (zq31.O N) N zq31.c524287 524287 s' zq31.K0)) zq31.K0))) := by kernel_rfl
def zq31.d6 (N : Nat) (v0 : List Int) : Option zq31.R := zq31.o6 N v0 ((fun w0 w1 w2 w3 w4 w5 w6 => zq31.d8 N w0 w1 w2 w3 w4 w5 w6))
theorem zq31.c2047_6 : zq31.c2047 = (.seq zq31.c4094 (.seq zq31.c8190 (.seq zq31.c16382 (.seq zq31.c32766 (.seq zq31.c65534 (.seq zq31.c131070 (.seq zq31.c262142 (.seq (.seq zq31.c1048572 zq31.c1048573) zq31.c524287)))))))) := by kernel_rfl
theorem zq31.d6.run (N : Nat) (v0 : List Int) : runC zq31.C (zq31.O N) N zq31.c2047 2047 (mkSt [(1, .one (.sl false 5 v0))] [] : St D0) (zq31.K2047 N) = zq31.d6 N v0 := by
  rw [zq31.c2047_6]; unfold zq31.d6; exact (zq31.o6.run N zq31.c1048573 v0).trans (congr rfl (funext fun w0 => funext fun w1 => funext fun w2 => funext fun w3 => funext fun w4 => funext fun w5 => funext fun w6 => zq31.d8.run N w0 w1 w2 w3 w4 w5 w6))
def zq31.B1023 (N : Nat) : St D0 → Option zq31.R := fun s' => runC zq31.C (zq31.O N) N zq31.c2047 2047 s' (zq31.K2047 N)
def zq31.K32747 (N : Nat) : Ex → St D0 → Option zq31.R := (onN (fun s => zq31.C.tidy 2046 s (zq31.B1023 N)) zq31.K0)
def zq31.o5 (N : Nat) (v0 : List Int) (v1 : Bool) (c6 : (List Int) → Option zq31.R) : Option zq31.R :=
 bif v1 then
  some (false)
 else
 c6 v0
theorem zq31.o5.run (N : Nat) (Kb1023 : St D0 → Option zq31.R) (v0 : List Int) (v1 : Bool) : runC zq31.C (zq31.O N) N zq31.c32747 32747 (mkSt [(1, .one (.sl false 5 v0)), (248, .one (.bool v1))] [] : St D0) (onN (fun s => zq31.C.tidy 2046 s Kb1023) zq31.K0) = zq31.o5 N v0 v1 ((fun w0 => Kb1023 (mkSt [(1, .one (.sl false 5 w0))] [] : St D0))) := by kernel_rfl
def zq31.d5 (N : Nat) (v0 : List Int) (v1 : Bool) : Option zq31.R := zq31.o5 N v0 v1 ((fun w0 => zq31.d6 N w0))
theorem zq31.d5.run (N : Nat) (v0 : List Int) (v1 : Bool) : runC zq31.C (zq31.O N) N zq31.c32747 32747 (mkSt [(1, .one (.sl false 5 v0)), (248, .one (.bool v1))] [] : St D0) (zq31.K32747 N) = zq31.d5 N v0 v1 := by
  unfold zq31.d5; exact (zq31.o5.run N (zq31.B1023 N) v0 v1).trans (congr rfl (funext fun w0 => zq31.d6.run N w0))
def zq31.K1023 (N : Nat) : Ex → St D0 → Option zq31.R := zq31.K0
def zq31.o3 (N : Nat) (v0 : List Int) (v1 : Int) (v2 : Bool) (v3 : Int) (v4 : Int) (v5 : Int) (v6 : Int) (c5 : (List Int) → Bool → Option zq31.R) (c6 : (List Int) → Option zq31.R) : Option zq31.R :=
 bif v2 then
  (zq5.g N v1 v5 v6).bind fun r1 =>
  bif (!r1.2.2) then
   c5 v0 true
  else
  bif (!((r1.1 == v3) && ((r1.2.1 == v4) && true))) then
   c5 v0 true
  else
  bif (v4 == 0) then
   none
  else
  c5 v0 ((Int.tmod (w64 ((w64 (v1 * v1)) - 1)) v4) != 0)
 else
 c6 v0
theorem zq31.o3.run (N : Nat) (H2047 : Code) (H32747 : Code) (v0 : List Int) (v1 : Int) (v2 : Bool) (v3 : Int) (v4 : Int) (v5 : Int) (v6 : Int) : runC zq31.C (zq31.O N) N (.seq (.seq zq31.c4092 (.cond (.tmp 225) (.seq zq31.c16372 (.seq zq31.c32746 H32747)) zq31.c8187)) H2047) 1023 (mkSt [(1, .one (.sl false 5 v0)), (5, .one (.int .i64 v1)), (6, .one (.ptr 6 0)), (7, .one (.ptr 7 0)), (8, .one (.bool v2))] [(6, some (25, [.int .i64 v3, .int .i64 v4])), (7, some (25, [.int .i64 v5, .int .i64 v6]))] : St D0) zq31.K0 = zq31.o3 N v0 v1 v2 v3 v4 v5 v6 ((fun w0 w1 => runC zq31.C (zq31.O N) N H32747 32747 (mkSt [(1, .one (.sl false 5 w0)), (248, .one (.bool w1))] [] : St D0) (onN (fun s => zq31.C.tidy 2046 s (fun s' => runC zq31.C (zq31.O N) N H2047 2047 s' zq31.K0)) zq31.K0))) ((fun w0 => runC zq31.C (zq31.O N) N H2047 2047 (mkSt [(1, .one (.sl false 5 w0))] [] : St D0) zq31.K0)) := by kernel_rfl
def zq31.d3 (N : Nat) (v0 : List Int) (v1 : Int) (v2 : Bool) (v3 : Int) (v4 : Int) (v5 : Int) (v6 : Int) : Option zq31.R := zq31.o3 N v0 v1 v2 v3 v4 v5 v6 ((fun w0 w1 => zq31.d5 N w0 w1)) ((fun w0 => zq31.d6 N w0))
theorem zq31.c1023_3 : zq31.c1023 = (.seq (.seq zq31.c4092 (.cond (.tmp 225) (.seq zq31.c16372 (.seq zq31.c32746 zq31.c32747)) zq31.c8187)) zq31.c2047) := by kernel_rfl
theorem zq31.d3.run (N : Nat) (v0 : List Int) (v1 : Int) (v2 : Bool) (v3 : Int) (v4 : Int) (v5 : Int) (v6 : Int) : runC zq31.C (zq31.O N) N zq31.c1023 1023 (mkSt [(1, .one (.sl false 5 v0)), (5, .one (.int .i64 v1)), (6, .one (.ptr 6 0)), (7, .one (.ptr 7 0)), (8, .one (.bool v2))] [(6, some (25, [.int .i64 v3, .int .i64 v4])), (7, some (25, [.int .i64 v5, .int .i64 v6]))] : St D0) (zq31.K1023 N) = zq31.d3 N v0 v1 v2 v3 v4 v5 v6 := by
  rw [zq31.c1023_3]; unfold zq31.d3; exact (zq31.o3.run N zq31.c2047 zq31.c32747 v0 v1 v2 v3 v4 v5 v6).trans (congr (congr rfl (funext fun w0 => funext fun w1 => zq31.d5.run N w0 w1)) (funext fun w0 => zq31.d6.run N w0))
def zq31.B511 (N : Nat) : St D0 → Option zq31.R := fun s' => runC zq31.C (zq31.O N) N zq31.c1023 1023 s' (zq31.K1023 N)
def zq31.K2094591 (N : Nat) : Ex → St D0 → Option zq31.R := (onN (fun s => zq31.C.tidy 1022 s (zq31.B511 N)) zq31.K0)
def zq31.o7 (N : Nat) (v0 : List Int) (v1 : Int) (v2 : Bool) (v3 : Bool) (v4 : Int) (v5 : Int) (v6 : Int) (v7 : Int) (c3 : (List Int) → Int → Bool → Int → Int → Int → Int → Option zq31.R) : Option zq31.R :=
 bif v3 then
  some (false)
 else
 c3 v0 v1 v2 v4 v5 v6 v7
theorem zq31.o7.run (N : Nat) (Kb511 : St D0 → Option zq31.R) (v0 : List Int) (v1 : Int) (v2 : Bool) (v3 : Bool) (v4 : Int) (v5 : Int) (v6 : Int) (v7 : Int) : runC zq31.C (zq31.O N) N zq31.c2094591 2094591 (mkSt [(1, .one (.sl false 5 v0)), (5, .one (.int .i64 v1)), (6, .one (.ptr 6 0)), (7, .one (.ptr 7 0)), (8, .one (.bool v2)), (224, .one (.bool v3))] [(6, some (25, [.int .i64 v4, .int .i64 v5])), (7, some (25, [.int .i64 v6, .int .i64 v7]))] : St D0) (onN (fun s => zq31.C.tidy 1022 s Kb511) zq31.K0) = zq31.o7 N v0 v1 v2 v3 v4 v5 v6 v7 ((fun w0 w1 w2 w3 w4 w5 w6 => Kb511 (mkSt [(1, .one (.sl false 5 w0)), (5, .one (.int .i64 w1)), (6, .one (.ptr 6 0)), (7, .one (.ptr 7 0)), (8, .one (.bool w2))] [(6, some (25, [.int .i64 w3, .int .i64 w4])), (7, some (25, [.int .i64 w5, .int .i64 w6]))] : St D0))) := by kernel_rfl
def zq31.d7 (N : Nat) (v0 : List Int) (v1 : Int) (v2 : Bool) (v3 : Bool) (v4 : Int) (v5 : Int) (v6 : Int) (v7 : Int) : Option zq31.R := zq31.o7 N v0 v1 v2 v3 v4 v5 v6 v7 ((fun w0 w1 w2 w3 w4 w5 w6 => zq31.d3 N w0 w1 w2 w3 w4 w5 w6))
theorem zq31.d7.run (N : Nat) (v0 : List Int) (v1 : Int) (v2 : Bool) (v3 : Bool) (v4 : Int) (v5 : Int) (v6 : Int) (v7 : Int) : runC zq31.C (zq31.O N) N zq31.c2094591 2094591 (mkSt [(1, .one (.sl false 5 v0)), (5, .one (.int .i64 v1)), (6, .one (.ptr 6 0)), (7, .one (.ptr 7 0)), (8, .one (.bool v2)), (224, .one (.bool v3))] [(6, some (25, [.int .i64 v4, .int .i64 v5])), (7, some (25, [.int .i64 v6, .int .i64 v7]))] : St D0) (zq31.K2094591 N) = zq31.d7 N v0 v1 v2 v3 v4 v5 v6 v7 := by
  unfold zq31.d7; exact (zq31.o7.run N (zq31.B511 N) v0 v1 v2 v3 v4 v5 v6 v7).trans (congr rfl (funext fun w0 => funext fun w1 => funext fun w2 => funext fun w3 => funext fun w4 => funext fun w5 => funext fun w6 => zq31.d3.run N w0 w1 w2 w3 w4 w5 w6))
def zq31.K1047295 (N : Nat) : Ex → St D0 → Option zq31.R := (onN (fun s => zq31.C.tidy 1022 s (zq31.B511 N)) zq31.K0)
def zq31.o4 (N : Nat) (v0 : List Int) (v1 : Int) (v2 : Bool) (v3 : List S25) (v4 : Int) (v5 : Int) (v6 : Int) (v7 : Int) (v8 : Int) (c7 : (List Int) → Int → Bool → Bool → Int → Int → Int → Int → Option zq31.R) : Option zq31.R :=
 bif ((v3.length : Int) != v4) then
  c7 v0 v1 v2 true v5 v6 v7 v8
 else
 bif v2 then
  (zq33.g N v3 v7 v8).bind fun r1 =>
  c7 v0 v1 v2 (!r1) v5 v6 v7 v8
 else
 c7 v0 v1 v2 false v5 v6 v7 v8
theorem zq31.o4.run (N : Nat) (Kb511 : St D0 → Option zq31.R) (H2094591 : Code) (v0 : List Int) (v1 : Int) (v2 : Bool) (v3 : List S25) (v4 : Int) (v5 : Int) (v6 : Int) (v7 : Int) (v8 : Int) : runC zq31.C (zq31.O N) N (.seq zq31.c2094590 H2094591) 1047295 (mkSt [(1, .one (.sl false 5 v0)), (5, .one (.int .i64 v1)), (6, .one (.ptr 6 0)), (7, .one (.ptr 7 0)), (8, .one (.bool v2)), (23, .one (.sl true 25 v3)), (25, .one (.int .i64 v4))] [(6, some (25, [.int .i64 v5, .int .i64 v6])), (7, some (25, [.int .i64 v7, .int .i64 v8]))] : St D0) (onN (fun s => zq31.C.tidy 1022 s Kb511) zq31.K0) = zq31.o4 N v0 v1 v2 v3 v4 v5 v6 v7 v8 ((fun w0 w1 w2 w3 w4 w5 w6 w7 => runC zq31.C (zq31.O N) N H2094591 2094591 (mkSt [(1, .one (.sl false 5 w0)), (5, .one (.int .i64 w1)), (6, .one (.ptr 6 0)), (7, .one (.ptr 7 0)), (8, .one (.bool w2)), (224, .one (.bool w3))] [(6, some (25, [.int .i64 w4, .int .i64 w5])), (7, some (25, [.int .i64 w6, .int .i64 w7]))] : St D0) (onN (fun s => zq31.C.tidy 1022 s Kb511) zq31.K0))) := by kernel_rfl
def zq31.d4 (N : Nat) (v0 : List Int) (v1 : Int) (v2 : Bool) (v3 : List S25) (v4 : Int) (v5 : Int) (v6 : Int) (v7 : Int) (v8 : Int) : Option zq31.R := zq31.o4 N v0 v1 v2 v3 v4 v5 v6 v7 v8 ((fun w0 w1 w2 w3 w4 w5 w6 w7 => zq31.d7 N w0 w1 w2 w3 w4 w5 w6 w7))
theorem zq31.c1047295_4 : zq31.c1047295 = (.seq zq31.c2094590 zq31.c2094591) := by kernel_rfl
theorem zq31.d4.run (N : Nat) (v0 : List Int) (v1 : Int) (v2 : Bool) (v3 : List S25) (v4 : Int) (v5 : Int) (v6 : Int) (v7 : Int) (v8 : Int) : runC zq31.C (zq31.O N) N zq31.c1047295 1047295 (mkSt [(1, .one (.sl false 5 v0)), (5, .one (.int .i64 v1)), (6, .one (.ptr 6 0)), (7, .one (.ptr 7 0)), (8, .one (.bool v2)), (23, .one (.sl true 25 v3)), (25, .one (.int .i64 v4))] [(6, some (25, [.int .i64 v5, .int .i64 v6])), (7, some (25, [.int .i64 v7, .int .i64 v8]))] : St D0) (zq31.K1047295 N) = zq31.d4 N v0 v1 v2 v3 v4 v5 v6 v7 v8 := by
  rw [zq31.c1047295_4]; unfold zq31.d4; exact (zq31.o4.run N (zq31.B511 N) zq31.c2094591 v0 v1 v2 v3 v4 v5 v6 v7 v8).trans (congr rfl (funext fun w0 => funext fun w1 => funext fun w2 => funext fun w3 => funext fun w4 => funext fun w5 => funext fun w6 => funext fun w7 => zq31.d7.run N w0 w1 w2 w3 w4 w5 w6 w7))
def zq31.K523645 (N : Nat) : Ex → St D0 → Option zq31.R := ((fun up => (onN (fun s => zq31.C.tidy 261822 s (fun s' => runC zq31.C (zq31.O N) N zq31.c261823 261823 s' up)) up)) (onN (fun s => zq31.C.tidy 1022 s (zq31.B511 N)) zq31.K0))
def zq31.o2 (N : Nat) (v0 : List Int) (v1 : Int) (v2 : Bool) (v3 : List S25) (v4 : Bool) (v5 : Int) (v6 : Int) (v7 : Int) (v8 : Int) (c4 : (List Int) → Int → Bool → (List S25) → Int → Int → Int → Int → Int → Option zq31.R) : Option zq31.R :=
 bif v4 then
  some (false)
 else
 bif v2 then
  bif (!((v7 == v5) && ((v8 == v6) && true))) then
   c4 v0 v1 v2 v3 2 v5 v6 v7 v8
  else
  c4 v0 v1 v2 v3 1 v5 v6 v7 v8
 else
 c4 v0 v1 v2 v3 1 v5 v6 v7 v8
theorem zq31.o2.run (N : Nat) (Kb511 : St D0 → Option zq31.R) (H1047295 : Code) (v0 : List Int) (v1 : Int) (v2 : Bool) (v3 : List S25) (v4 : Bool) (v5 : Int) (v6 : Int) (v7 : Int) (v8 : Int) : runC zq31.C (zq31.O N) N zq31.c523645 523645 (mkSt [(1, .one (.sl false 5 v0)), (5, .one (.int .i64 v1)), (6, .one (.ptr 6 0)), (7, .one (.ptr 7 0)), (8, .one (.bool v2)), (23, .one (.sl true 25 v3)), (205, .one (.bool v4))] [(6, some (25, [.int .i64 v5, .int .i64 v6])), (7, some (25, [.int .i64 v7, .int .i64 v8]))] : St D0) (onN (fun s => zq31.C.tidy 261822 s (fun s' => runC zq31.C (zq31.O N) N (.seq zq31.c523646 (.seq zq31.c1047294 H1047295)) 261823 s' (onN (fun s => zq31.C.tidy 1022 s Kb511) zq31.K0))) (onN (fun s => zq31.C.tidy 1022 s Kb511) zq31.K0)) = zq31.o2 N v0 v1 v2 v3 v4 v5 v6 v7 v8 ((fun w0 w1 w2 w3 w4 w5 w6 w7 w8 => runC zq31.C (zq31.O N) N H1047295 1047295 (mkSt [(1, .one (.sl false 5 w0)), (5, .one (.int .i64 w1)), (6, .one (.ptr 6 0)), (7, .one (.ptr 7 0)), (8, .one (.bool w2)), (23, .one (.sl true 25 w3)), (25, .one (.int .i64 w4))] [(6, some (25, [.int .i64 w5, .int .i64 w6])), (7, some (25, [.int .i64 w7, .int .i64 w8]))] : St D0) (onN (fun s => zq31.C.tidy 1022 s Kb511) zq31.K0))) := by kernel_rfl
def zq31.d2 (N : Nat) (v0 : List Int) (v1 : Int) (v2 : Bool) (v3 : List S25) (v4 : Bool) (v5 : Int) (v6 : Int) (v7 : Int) (v8 : Int) : Option zq31.R := zq31.o2 N v0 v1 v2 v3 v4 v5 v6 v7 v8 ((fun w0 w1 w2 w3 w4 w5 w6 w7 w8 => zq31.d4 N w0 w1 w2 w3 w4 w5 w6 w7 w8))
theorem zq31.d2.run (N : Nat) (v0 : List Int) (v1 : Int) (v2 : Bool) (v3 : List S25) (v4 : Bool) (v5 : Int) (v6 : Int) (v7 : Int) (v8 : Int) : runC zq31.C (zq31.O N) N zq31.c523645 523645 (mkSt [(1, .one (.sl false 5 v0)), (5, .one (.int .i64 v1)), (6, .one (.ptr 6 0)), (7, .one (.ptr 7 0)), (8, .one (.bool v2)), (23, .one (.sl true 25 v3)), (205, .one (.bool v4))] [(6, some (25, [.int .i64 v5, .int .i64 v6])), (7, some (25, [.int .i64 v7, .int .i64 v8]))] : St D0) (zq31.K523645 N) = zq31.d2 N v0 v1 v2 v3 v4 v5 v6 v7 v8 := by
  unfold zq31.d2; exact (zq31.o2.run N (zq31.B511 N) zq31.c1047295 v0 v1 v2 v3 v4 v5 v6 v7 v8).trans (congr rfl (funext fun w0 => funext fun w1 => funext fun w2 => funext fun w3 => funext fun w4 => funext fun w5 => funext fun w6 => funext fun w7 => funext fun w8 => zq31.d4.run N w0 w1 w2 w3 w4 w5 w6 w7 w8))
def zq31.K1021 (N : Nat) : Ex → St D0 → Option zq31.R := (onN (fun s => zq31.C.tidy 510 s (fun s' => runC zq31.C (zq31.O N) N zq31.c511 511 s' zq31.K0)) zq31.K0)
def zq31.o1 (N : Nat) (v0 : List Int) (v1 : Int) (v2 : Bool) (v3 : Bool) (v4 : Bool) (v5 : Int) (v6 : Int) (v7 : Int) (v8 : Int) (v9 : Int) (v10 : Int) (v11 : Int) (v12 : Int) (c2 : (List Int) → Int → Bool → (List S25) → Bool → Int → Int → Int → Int → Option zq31.R) (c3 : (List Int) → Int → Bool → Int → Int → Int → Int → Option zq31.R) : Option zq31.R :=
 bif v4 then
  some (false)
 else
 bif v3 then
  (zq7.g N v1 v9 v10 v11 v12).bind fun r1 =>
  (zq13.g N v1 v9 v10 v11 v12).bind fun r2 =>
  (zq4.g N v9 v10 v11 v12).bind fun r3 =>
  (zq7.g N v1 r3.1 r3.2.1 r3.2.2.1 r3.2.2.2.1).bind fun r4 =>
  (zq14.g N v1 v9 v10 v11 v12).bind fun r5 =>
  (zq6.g N v9 v10 v11 v12).bind fun r6 =>
  bif (!r6) then
   c2 v0 v1 v2 r5.1 true v5 v6 v7 v8
  else
  bif (!r1.2) then
   c2 v0 v1 v2 r5.1 true v5 v6 v7 v8
  else
  bif (!r1.1) then
   c2 v0 v1 v2 r5.1 true v5 v6 v7 v8
  else
  bif (!r2.2.2) then
   c2 v0 v1 v2 r5.1 true v5 v6 v7 v8
  else
  bif (!((r2.1 == v5) && ((r2.2.1 == v6) && true))) then
   c2 v0 v1 v2 r5.1 true v5 v6 v7 v8
  else
  bif (!r3.2.2.2.2) then
   c2 v0 v1 v2 r5.1 true v5 v6 v7 v8
  else
  bif (!r4.2) then
   c2 v0 v1 v2 r5.1 true v5 v6 v7 v8
  else
  bif (!(r4.1 == v2)) then
   c2 v0 v1 v2 r5.1 true v5 v6 v7 v8
  else
  bif (!r5.2) then
   c2 v0 v1 v2 r5.1 true v5 v6 v7 v8
  else
  (zq33.g N r5.1 v5 v6).bind fun r7 =>
  bif (!r7) then
   c2 v0 v1 v2 r5.1 true v5 v6 v7 v8
  else
  (zq34.g N r5.1).bind fun r8 =>
  c2 v0 v1 v2 r5.1 (!r8) v5 v6 v7 v8
 else
 c3 v0 v1 v2 v5 v6 v7 v8
theorem zq31.o1.run (N : Nat) (H1023 : Code) (H523645 : Code) (v0 : List Int) (v1 : Int) (v2 : Bool) (v3 : Bool) (v4 : Bool) (v5 : Int) (v6 : Int) (v7 : Int) (v8 : Int) (v9 : Int) (v10 : Int) (v11 : Int) (v12 : Int) : runC zq31.C (zq31.O N) N zq31.c1021 1021 (mkSt [(1, .one (.sl false 5 v0)), (5, .one (.int .i64 v1)), (6, .one (.ptr 6 0)), (7, .one (.ptr 7 0)), (8, .one (.bool v2)), (11, .one (.ptr 11 0)), (12, .one (.bool v3)), (127, .one (.bool v4))] [(6, some (25, [.int .i64 v5, .int .i64 v6])), (7, some (25, [.int .i64 v7, .int .i64 v8])), (11, some (31, [.int .i64 v9, .int .i64 v10, .int .i64 v11, .int .i64 v12]))] : St D0) (onN (fun s => zq31.C.tidy 510 s (fun s' => runC zq31.C (zq31.O N) N (.seq (.seq zq31.c2044 (.cond (.tmp 128) (.seq zq31.c8180 (.seq zq31.c16362 (.seq zq31.c32726 (.seq zq31.c65454 (.seq zq31.c130910 (.seq (.seq zq31.c523644 H523645) zq31.c261823)))))) zq31.c4091)) H1023) 511 s' zq31.K0)) zq31.K0) = zq31.o1 N v0 v1 v2 v3 v4 v5 v6 v7 v8 v9 v10 v11 v12 ((fun w0 w1 w2 w3 w4 w5 w6 w7 w8 => runC zq31.C (zq31.O N) N H523645 523645 (mkSt [(1, .one (.sl false 5 w0)), (5, .one (.int .i64 w1)), (6, .one (.ptr 6 0)), (7, .one (.ptr 7 0)), (8, .one (.bool w2)), (23, .one (.sl true 25 w3)), (205, .one (.bool w4))] [(6, some (25, [.int .i64 w5, .int .i64 w6])), (7, some (25, [.int .i64 w7, .int .i64 w8]))] : St D0) ((fun up => (onN (fun s => zq31.C.tidy 261822 s (fun s' => runC zq31.C (zq31.O N) N zq31.c261823 261823 s' up)) up)) (onN (fun s => zq31.C.tidy 1022 s (fun s' => runC zq31.C (zq31.O N) N H1023 1023 s' zq31.K0)) zq31.K0)))) ((fun w0 w1 w2 w3 w4 w5 w6 => runC zq31.C (zq31.O N) N H1023 1023 (mkSt [(1, .one (.sl false 5 w0)), (5, .one (.int .i64 w1)), (6, .one (.ptr 6 0)), (7, .one (.ptr 7 0)), (8, .one (.bool w2))] [(6, some (25, [.int .i64 w3, .int .i64 w4])), (7, some (25, [.int .i64 w5, .int .i64 w6]))] : St D0) zq31.K0)) := by kernel_rfl
def zq31.d1 (N : Nat) (v0 : List Int) (v1 : Int) (v2 : Bool) (v3 : Bool) (v4 : Bool) (v5 : Int) (v6 : Int) (v7 : Int) (v8 : Int) (v9 : Int) (v10 : Int) (v11 : Int) (v12 : Int) : Option zq31.R := zq31.o1 N v0 v1 v2 v3 v4 v5 v6 v7 v8 v9 v10 v11 v12 ((fun w0 w1 w2 w3 w4 w5 w6 w7 w8 => zq31.d2 N w0 w1 w2 w3 w4 w5 w6 w7 w8)) ((fun w0 w1 w2 w3 w4 w5 w6 => zq31.d3 N w0 w1 w2 w3 w4 w5 w6))
theorem zq31.d1.run (N : Nat) (v0 : List Int) (v1 : Int) (v2 : Bool) (v3 : Bool) (v4 : Bool) (v5 : Int) (v6 : Int) (v7 : Int) (v8 : Int) (v9 : Int) (v10 : Int) (v11 : Int) (v12 : Int) : runC zq31.C (zq31.O N) N zq31.c1021 1021 (mkSt [(1, .one (.sl false 5 v0)), (5, .one (.int .i64 v1)), (6, .one (.ptr 6 0)), (7, .one (.ptr 7 0)), (8, .one (.bool v2)), (11, .one (.ptr 11 0)), (12, .one (.bool v3)), (127, .one (.bool v4))] [(6, some (25, [.int .i64 v5, .int .i64 v6])), (7, some (25, [.int .i64 v7, .int .i64 v8])), (11, some (31, [.int .i64 v9, .int .i64 v10, .int .i64 v11, .int .i64 v12]))] : St D0) (zq31.K1021 N) = zq31.d1 N v0 v1 v2 v3 v4 v5 v6 v7 v8 v9 v10 v11 v12 := by
  unfold zq31.d1; exact (zq31.o1.run N zq31.c1023 zq31.c523645 v0 v1 v2 v3 v4 v5 v6 v7 v8 v9 v10 v11 v12).trans (congr (congr rfl (funext fun w0 => funext fun w1 => funext fun w2 => funext fun w3 => funext fun w4 => funext fun w5 => funext fun w6 => funext fun w7 => funext fun w8 => zq31.d2.run N w0 w1 w2 w3 w4 w5 w6 w7 w8)) (funext fun w0 => funext fun w1 => funext fun w2 => funext fun w3 => funext fun w4 => funext fun w5 => funext fun w6 => zq31.d3.run N w0 w1 w2 w3 w4 w5 w6))
def zq31.o0 (N : Nat) (a0 : List Int) (a1 : List Int) (c1 : (List Int) → Int → Bool → Bool → Bool → Int → Int → Int → Int → Int → Int → Int → Int → Option zq31.R) : Option zq31.R :=
 (zq32.g N a0 a1).bind fun r1 =>
 bif r1 then
  some (true)
 else
 (zq42.g N a0).bind fun r2 =>
 (zq5.g N r2.1 r2.2.1 r2.2.2).bind fun r3 =>
 (zq46.g N r2.1 r2.2.1 r2.2.2).bind fun r4 =>
 (zq11.g N r2.1 r2.2.1 r2.2.2).bind fun r5 =>
 (zq50.g N r2.1 r2.2.1 r2.2.2).bind fun r6 =>
 bif (!(r3.2.2 == r4.2.2)) then
  c1 a1 r2.1 r3.2.2 r5.2.2.2.2 true r2.2.1 r2.2.2 r3.1 r3.2.1 r5.1 r5.2.1 r5.2.2.1 r5.2.2.2.1
 else
 bif (!((r3.1 == r4.1) && ((r3.2.1 == r4.2.1) && true))) then
  c1 a1 r2.1 r3.2.2 r5.2.2.2.2 true r2.2.1 r2.2.2 r3.1 r3.2.1 r5.1 r5.2.1 r5.2.2.1 r5.2.2.2.1
 else
 bif (!(r5.2.2.2.2 == r6.2.2.2.2)) then
  c1 a1 r2.1 r3.2.2 r5.2.2.2.2 true r2.2.1 r2.2.2 r3.1 r3.2.1 r5.1 r5.2.1 r5.2.2.1 r5.2.2.2.1
 else
 bif (!(((r5.1 == r6.1) && ((r5.2.1 == r6.2.1) && true)) && (((r5.2.2.1 == r6.2.2.1) && ((r5.2.2.2.1 == r6.2.2.2.1) && true)) && true))) then
  c1 a1 r2.1 r3.2.2 r5.2.2.2.2 true r2.2.1 r2.2.2 r3.1 r3.2.1 r5.1 r5.2.1 r5.2.2.1 r5.2.2.2.1
 else
 bif r3.2.2 then
  c1 a1 r2.1 r3.2.2 r5.2.2.2.2 (!r5.2.2.2.2) r2.2.1 r2.2.2 r3.1 r3.2.1 r5.1 r5.2.1 r5.2.2.1 r5.2.2.2.1
 else
 c1 a1 r2.1 r3.2.2 r5.2.2.2.2 false r2.2.1 r2.2.2 r3.1 r3.2.1 r5.1 r5.2.1 r5.2.2.1 r5.2.2.2.1
theorem zq31.o0.run (N : Nat) (H1021 : Code) (a0 : List Int) (a1 : List Int) : runC zq31.C (zq31.O N) N (.seq zq31.c2 (.seq zq31.c6 (.seq zq31.c14 (.seq zq31.c30 (.seq zq31.c62 (.seq zq31.c126 (.seq zq31.c254 (.seq (.seq zq31.c1020 H1021) zq31.c511)))))))) 1 (st0 [.one (.sl false 5 a0), .one (.sl false 5 a1)] [] : St D0) zq31.K0 = zq31.o0 N a0 a1 ((fun w0 w1 w2 w3 w4 w5 w6 w7 w8 w9 w10 w11 w12 => runC zq31.C (zq31.O N) N H1021 1021 (mkSt [(1, .one (.sl false 5 w0)), (5, .one (.int .i64 w1)), (6, .one (.ptr 6 0)), (7, .one (.ptr 7 0)), (8, .one (.bool w2)), (11, .one (.ptr 11 0)), (12, .one (.bool w3)), (127, .one (.bool w4))] [(6, some (25, [.int .i64 w5, .int .i64 w6])), (7, some (25, [.int .i64 w7, .int .i64 w8])), (11, some (31, [.int .i64 w9, .int .i64 w10, .int .i64 w11, .int .i64 w12]))] : St D0) (onN (fun s => zq31.C.tidy 510 s (fun s' => runC zq31.C (zq31.O N) N zq31.c511 511 s' zq31.K0)) zq31.K0))) := by kernel_rfl
def zq31.g (N : Nat) (a0 : List Int) (a1 : List Int) : Option zq31.R := zq31.o0 N a0 a1 ((fun w0 w1 w2 w3 w4 w5 w6 w7 w8 w9 w10 w11 w12 => zq31.d1 N w0 w1 w2 w3 w4 w5 w6 w7 w8 w9 w10 w11 w12))
theorem zq31.c1_0 : zq31.c1 = (.seq zq31.c2 (.seq zq31.c6 (.seq zq31.c14 (.seq zq31.c30 (.seq zq31.c62 (.seq zq31.c126 (.seq zq31.c254 (.seq (.seq zq31.c1020 zq31.c1021) zq31.c511)))))))) := by kernel_rfl
theorem zq31.g.run (N : Nat) (a0 : List Int) (a1 : List Int) : runC zq31.C (zq31.O N) N zq31.c1 1 (st0 [.one (.sl false 5 a0), .one (.sl false 5 a1)] [] : St D0) zq31.K0 = zq31.g N a0 a1 := by
  rw [zq31.c1_0]; unfold zq31.g; exact (zq31.o0.run N zq31.c1021 a0 a1).trans (congr rfl (funext fun w0 => funext fun w1 => funext fun w2 => funext fun w3 => funext fun w4 => funext fun w5 => funext fun w6 => funext fun w7 => funext fun w8 => funext fun w9 => funext fun w10 => funext fun w11 => funext fun w12 => zq31.d1.run N w0 w1 w2 w3 w4 w5 w6 w7 w8 w9 w10 w11 w12))
theorem zq31.good (N : Nat) (a0 : List Int) (a1 : List Int) (r : zq31.R) (h : zq31.g N a0 a1 = some r) : Go.PM.Good Try.prog T0 3 [.one (.sl false 5 a0), .one (.sl false 5 a1)] [] (zq31.sig.ret r) (zq31.sig.bs r) :=
  good_fn tabOk0 mixed0 zq31.sig (zq31.E N) Try.func3 (by kernel_rfl) (by kernel_rfl) 6703903965751735687366010556948322452040891219936023214684597231984292962555631597939079342164492742560509805858376918047849107387405783228322068696137715 0 0 [(1020, [1, 5, 6, 7, 8, 11, 12, 127], [6, 7, 11]), (1022, [1, 5, 6, 7, 8], [6, 7]), (2046, [1], []), (32746, [1, 248], []), (523644, [1, 5, 6, 7, 8, 23, 205], [6, 7]), (1047294, [1, 5, 6, 7, 8, 23, 25], [6, 7]), (1048572, [1, 28, 29, 30, 33, 37, 320], []), (1048574, [1], []), (2094590, [1, 5, 6, 7, 8, 224], [6, 7]), (67108778, [1, 28, 29, 33, 37, 41, 322, 323, 324], []), (67108780, [1, 28, 37, 358], []), (134217566, [1, 395], []), (268435130, [1, 28, 37, 359, 360, 361], []), (536870908, [1, 478], []), (8589934588, [511], []), (137438786766, [1, 28, 37, 359, 360, 361, 386], [])] 3292572484926996888449626819607057946780740227738409366648208774939396453539134376898885548426465340944715070592034804974778700619898439770260138622976 false [] [(false, [.any])] (by kernel_rfl) rfl rfl ((zq31.g.run N a0 a1).trans h)
def zq31.ent (N : Nat) : Ent Try.prog T0 := mkEnt 3 [(false, [.ro 5]), (false, [.ro 5])] zq31.sig (fun t => zq31.g N t.1 t.2) (fun t r h => zq31.good N t.1 t.2 r h)
def FnSeenTrue.Pure : Prop := ∀ (y0 : List Int) (y1 : List Int), (y0.length ≤ maxLen ∧ y0.length * 1 ≤ 140737488351232 ∧ ∀ x ∈ y0, (Lit.int .u8 x).wf = true) → (y1.length ≤ maxLen ∧ y1.length * 1 ≤ 140737488351232 ∧ ∀ x ∈ y1, (Lit.int .u8 x).wf = true) → ∃ N, zq31.g N y0 y1 = some true
end Go.Proofs.Ytehbhinaopdkeaa.M
end
