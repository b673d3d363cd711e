/- What the program's functions compute, walked by the machine (part 3). No conditions but those stated. -/
import Derived.Test.YtpeleommbipeaaaFnFnTimesMade2
namespace Go.Proofs.Ytpeleommbipeaaa.M
open Go Go.PM Go.Proofs.Ytpeleommbipeaaa.P
set_option linter.unusedVariables false
set_option maxRecDepth 100000
/-! ### laws_FnTimesMadeOfAll -/
abbrev laws_FnTimesMadeOfAll.R : Type := Bool
abbrev laws_FnTimesMadeOfAll.sig : Sig := ⟨[(false, 1), (false, 1), (false, 1), (false, 1), (true, 2), (true, 2), (true, 3), (true, 2), (false, 1), (false, 1), (true, 3), (false, 1)], [], [.int .i64, .int .i64, .int .i64, .int .i64, .int .i64, .sl false 38, .int .i64, .sl false 38, .int .i64, .int .i64, .int .i64, .int .i64, .sl false 38, .int .i64, .int .i64, .int .i64, .int .i64, .int .i64, .int .i64], [(false, 1)], [], [.bool]⟩
noncomputable def laws_FnTimesMadeOfAll.C : Cfg D0 := ⟨Go.Proofs.Try.prog, T0, 133759930352941697707069811290092600440073102432417544965906120868029439264552627808061749137407, 0, 333, 0, [(60, [0, 1, 2, 8, 9, 11, 16, 17, 18, 19, 22, 25, 26, 83], [16, 17, 18, 19, 22, 25]), (62, [8, 9, 11, 16, 17, 18, 19, 22], [16, 17, 18, 19, 22]), (1002, [8, 9, 11, 16, 17, 18, 19, 22, 115], [16, 17, 18, 19, 22]), (2044, [8, 9, 11, 16, 17, 18, 19, 22, 31, 32, 147], [16, 17, 18, 19, 22, 31]), (2046, [8, 9, 11, 17, 18, 19, 22], [17, 18, 19, 22]), (130990, [8, 9, 11, 17, 18, 19, 22, 193], [17, 18, 19, 22]), (524284, [8, 17, 18, 19, 43, 44, 47, 48, 279], [17, 18, 19, 43, 47]), (524286, [8, 19, 47, 48], [19, 47]), (2097148, [8, 19, 47, 316], [19, 47]), (8388586, [8, 19, 47, 48, 307], [19, 47])]⟩
noncomputable def laws_FnTimesMadeOfAll.E (N : Nat) : List (Ent Go.Proofs.Try.prog T0) := [impl_MakePuzzle.ent N, spec_MakePuzzle.ent N, laws_kPuzzle.ent N, impl_Solutions.ent N, impl_IsPuzzle.ent N, laws_kHas.ent N, impl_HarderPuzzle.ent N, spec_HarderPuzzle.ent N, impl_IsSolved.ent N, impl_NeedlessClues.ent N, laws_kSame.ent N, impl_AddClue.ent N, spec_AddClue.ent N, impl_DropClue.ent N, spec_DropClue.ent N, impl_DoesFit.ent N, spec_DoesFit.ent N, impl_IsClue.ent N, spec_IsClue.ent N]
noncomputable def laws_FnTimesMadeOfAll.O (N : Nat) : Orc D0 laws_FnTimesMadeOfAll.R := orcOf (laws_FnTimesMadeOfAll.E N)
noncomputable def laws_FnTimesMadeOfAll.K0 : Ex → St D0 → Option laws_FnTimesMadeOfAll.R := exitK laws_FnTimesMadeOfAll.C Go.Proofs.Try.f5.results.toList [(false, [.any])] (decOut laws_FnTimesMadeOfAll.sig)
noncomputable def laws_FnTimesMadeOfAll.c1 : Code := codeAt (Go.Proofs.Try.f5.body.getD .skip) []
noncomputable def laws_FnTimesMadeOfAll.c2 : Code := codeAt (Go.Proofs.Try.f5.body.getD .skip) [false]
noncomputable def laws_FnTimesMadeOfAll.c6 : Code := codeAt (Go.Proofs.Try.f5.body.getD .skip) [true, false]
noncomputable def laws_FnTimesMadeOfAll.c14 : Code := codeAt (Go.Proofs.Try.f5.body.getD .skip) [true, true, false]
noncomputable def laws_FnTimesMadeOfAll.c31 : Code := codeAt (Go.Proofs.Try.f5.body.getD .skip) [true, true, true, true]
noncomputable def laws_FnTimesMadeOfAll.c60 : Code := codeAt (Go.Proofs.Try.f5.body.getD .skip) [true, true, true, false, false]
noncomputable def laws_FnTimesMadeOfAll.c61 : Code := codeAt (Go.Proofs.Try.f5.body.getD .skip) [true, true, true, false, true]
noncomputable def laws_FnTimesMadeOfAll.c63 : Code := codeAt (Go.Proofs.Try.f5.body.getD .skip) [true, true, true, true, true]
noncomputable def laws_FnTimesMadeOfAll.c124 : Code := codeAt (Go.Proofs.Try.f5.body.getD .skip) [true, true, true, true, false, false]
noncomputable def laws_FnTimesMadeOfAll.c126 : Code := codeAt (Go.Proofs.Try.f5.body.getD .skip) [true, true, true, true, true, false]
noncomputable def laws_FnTimesMadeOfAll.c251 : Code := codeAt (Go.Proofs.Try.f5.body.getD .skip) [true, true, true, true, false, true, true]
noncomputable def laws_FnTimesMadeOfAll.c254 : Code := codeAt (Go.Proofs.Try.f5.body.getD .skip) [true, true, true, true, true, true, false]
noncomputable def laws_FnTimesMadeOfAll.c500 : Code := codeAt (Go.Proofs.Try.f5.body.getD .skip) [true, true, true, true, false, true, false, false]
noncomputable def laws_FnTimesMadeOfAll.c510 : Code := codeAt (Go.Proofs.Try.f5.body.getD .skip) [true, true, true, true, true, true, true, false]
noncomputable def laws_FnTimesMadeOfAll.c1002 : Code := codeAt (Go.Proofs.Try.f5.body.getD .skip) [true, true, true, true, false, true, false, true, false]
noncomputable def laws_FnTimesMadeOfAll.c1003 : Code := codeAt (Go.Proofs.Try.f5.body.getD .skip) [true, true, true, true, false, true, false, true, true]
noncomputable def laws_FnTimesMadeOfAll.c1023 : Code := codeAt (Go.Proofs.Try.f5.body.getD .skip) [true, true, true, true, true, true, true, true, true]
noncomputable def laws_FnTimesMadeOfAll.c2044 : Code := codeAt (Go.Proofs.Try.f5.body.getD .skip) [true, true, true, true, true, true, true, true, false, false]
noncomputable def laws_FnTimesMadeOfAll.c2045 : Code := codeAt (Go.Proofs.Try.f5.body.getD .skip) [true, true, true, true, true, true, true, true, false, true]
noncomputable def laws_FnTimesMadeOfAll.c2047 : Code := codeAt (Go.Proofs.Try.f5.body.getD .skip) [true, true, true, true, true, true, true, true, true, true]
noncomputable def laws_FnTimesMadeOfAll.c4092 : Code := codeAt (Go.Proofs.Try.f5.body.getD .skip) [true, true, true, true, true, true, true, true, true, false, false]
noncomputable def laws_FnTimesMadeOfAll.c4094 : Code := codeAt (Go.Proofs.Try.f5.body.getD .skip) [true, true, true, true, true, true, true, true, true, true, false]
noncomputable def laws_FnTimesMadeOfAll.c8187 : Code := codeAt (Go.Proofs.Try.f5.body.getD .skip) [true, true, true, true, true, true, true, true, true, false, true, true]
noncomputable def laws_FnTimesMadeOfAll.c8190 : Code := codeAt (Go.Proofs.Try.f5.body.getD .skip) [true, true, true, true, true, true, true, true, true, true, true, false]
noncomputable def laws_FnTimesMadeOfAll.c16372 : Code := codeAt (Go.Proofs.Try.f5.body.getD .skip) [true, true, true, true, true, true, true, true, true, false, true, false, false]
noncomputable def laws_FnTimesMadeOfAll.c16382 : Code := codeAt (Go.Proofs.Try.f5.body.getD .skip) [true, true, true, true, true, true, true, true, true, true, true, true, false]
noncomputable def laws_FnTimesMadeOfAll.c32746 : Code := codeAt (Go.Proofs.Try.f5.body.getD .skip) [true, true, true, true, true, true, true, true, true, false, true, false, true, false]
noncomputable def laws_FnTimesMadeOfAll.c32766 : Code := codeAt (Go.Proofs.Try.f5.body.getD .skip) [true, true, true, true, true, true, true, true, true, true, true, true, true, false]
noncomputable def laws_FnTimesMadeOfAll.c65494 : Code := codeAt (Go.Proofs.Try.f5.body.getD .skip) [true, true, true, true, true, true, true, true, true, false, true, false, true, true, false]
noncomputable def laws_FnTimesMadeOfAll.c65534 : Code := codeAt (Go.Proofs.Try.f5.body.getD .skip) [true, true, true, true, true, true, true, true, true, true, true, true, true, true, false]
noncomputable def laws_FnTimesMadeOfAll.c130990 : Code := codeAt (Go.Proofs.Try.f5.body.getD .skip) [true, true, true, true, true, true, true, true, true, false, true, false, true, true, true, false]
noncomputable def laws_FnTimesMadeOfAll.c130991 : Code := codeAt (Go.Proofs.Try.f5.body.getD .skip) [true, true, true, true, true, true, true, true, true, false, true, false, true, true, true, true]
noncomputable def laws_FnTimesMadeOfAll.c131070 : Code := codeAt (Go.Proofs.Try.f5.body.getD .skip) [true, true, true, true, true, true, true, true, true, true, true, true, true, true, true, false]
noncomputable def laws_FnTimesMadeOfAll.c262143 : Code := codeAt (Go.Proofs.Try.f5.body.getD .skip) [true, true, true, true, true, true, true, true, true, true, true, true, true, true, true, true, true]
noncomputable def laws_FnTimesMadeOfAll.c524284 : Code := codeAt (Go.Proofs.Try.f5.body.getD .skip) [true, true, true, true, true, true, true, true, true, true, true, true, true, true, true, true, false, false]
noncomputable def laws_FnTimesMadeOfAll.c524285 : Code := codeAt (Go.Proofs.Try.f5.body.getD .skip) [true, true, true, true, true, true, true, true, true, true, true, true, true, true, true, true, false, true]
noncomputable def laws_FnTimesMadeOfAll.c524287 : Code := codeAt (Go.Proofs.Try.f5.body.getD .skip) [true, true, true, true, true, true, true, true, true, true, true, true, true, true, true, true, true, true]
noncomputable def laws_FnTimesMadeOfAll.c1048572 : Code := codeAt (Go.Proofs.Try.f5.body.getD .skip) [true, true, true, true, true, true, true, true, true, true, true, true, true, true, true, true, true, false, false]
noncomputable def laws_FnTimesMadeOfAll.c1048575 : Code := codeAt (Go.Proofs.Try.f5.body.getD .skip) [true, true, true, true, true, true, true, true, true, true, true, true, true, true, true, true, true, true, true]
noncomputable def laws_FnTimesMadeOfAll.c2097147 : Code := codeAt (Go.Proofs.Try.f5.body.getD .skip) [true, true, true, true, true, true, true, true, true, true, true, true, true, true, true, true, true, false, true, true]
noncomputable def laws_FnTimesMadeOfAll.c2097148 : Code := codeAt (Go.Proofs.Try.f5.body.getD .skip) [true, true, true, true, true, true, true, true, true, true, true, true, true, true, true, true, true, true, false, false]
noncomputable def laws_FnTimesMadeOfAll.c2097149 : Code := codeAt (Go.Proofs.Try.f5.body.getD .skip) [true, true, true, true, true, true, true, true, true, true, true, true, true, true, true, true, true, true, false, true]
noncomputable def laws_FnTimesMadeOfAll.c4194292 : Code := codeAt (Go.Proofs.Try.f5.body.getD .skip) [true, true, true, true, true, true, true, true, true, true, true, true, true, true, true, true, true, false, true, false, false]
noncomputable def laws_FnTimesMadeOfAll.c8388586 : Code := codeAt (Go.Proofs.Try.f5.body.getD .skip) [true, true, true, true, true, true, true, true, true, true, true, true, true, true, true, true, true, false, true, false, true, false]
noncomputable def laws_FnTimesMadeOfAll.c8388587 : Code := codeAt (Go.Proofs.Try.f5.body.getD .skip) [true, true, true, true, true, true, true, true, true, true, true, true, true, true, true, true, true, false, true, false, true, true]
noncomputable def laws_FnTimesMadeOfAll.K2097149 (N : Nat) : Ex → St D0 → Option laws_FnTimesMadeOfAll.R := (onN (fun s => laws_FnTimesMadeOfAll.C.tidy 1048574 s (fun s' => runC laws_FnTimesMadeOfAll.C (laws_FnTimesMadeOfAll.O N) N laws_FnTimesMadeOfAll.c1048575 1048575 s' laws_FnTimesMadeOfAll.K0)) laws_FnTimesMadeOfAll.K0)
noncomputable def laws_FnTimesMadeOfAll.o10 (N : Nat) (v0 : Int) (v1 : Bool) (v2 : Int) (v3 : List S38) (v4 : Int) (v5 : List S38) : Option laws_FnTimesMadeOfAll.R :=
 bif v1 then
  bif (decide (0 ≤ v0)) then
   bif (decide (v0 < (v3.length : Int))) then
    (v3[(v0 : Int).toNat]?).bind fun x1 =>
    (impl_AddClue.g N v4 v5 x1.f0 x1.f1 x1.f2).bind fun r2 =>
    bif r2.2.2 then
     (laws_kPuzzle.g N r2.1 r2.2.1 v2 v3).bind fun r3 =>
     some (r3)
    else
    some (false)
   else
   none
  else
  none
 else
 some (true)
theorem laws_FnTimesMadeOfAll.o10.run (N : Nat) (v0 : Int) (v1 : Bool) (v2 : Int) (v3 : List S38) (v4 : Int) (v5 : List S38) : runC laws_FnTimesMadeOfAll.C (laws_FnTimesMadeOfAll.O N) N laws_FnTimesMadeOfAll.c2097149 2097149 (mkSt [(8, .one (.int .i64 v0)), (19, .one (.ptr 19 0)), (47, .one (.ptr 47 0)), (316, .one (.bool v1))] [(19, some (24, [.int .i64 v2, .sl false 38 v3])), (47, some (24, [.int .i64 v4, .sl false 38 v5]))] : St D0) (onN (fun s => laws_FnTimesMadeOfAll.C.tidy 1048574 s (fun s' => runC laws_FnTimesMadeOfAll.C (laws_FnTimesMadeOfAll.O N) N laws_FnTimesMadeOfAll.c1048575 1048575 s' laws_FnTimesMadeOfAll.K0)) laws_FnTimesMadeOfAll.K0) = laws_FnTimesMadeOfAll.o10 N v0 v1 v2 v3 v4 v5 := by kernel_rfl
noncomputable def laws_FnTimesMadeOfAll.d10 (N : Nat) (v0 : Int) (v1 : Bool) (v2 : Int) (v3 : List S38) (v4 : Int) (v5 : List S38) : Option laws_FnTimesMadeOfAll.R := laws_FnTimesMadeOfAll.o10 N v0 v1 v2 v3 v4 v5
theorem laws_FnTimesMadeOfAll.d10.run (N : Nat) (v0 : Int) (v1 : Bool) (v2 : Int) (v3 : List S38) (v4 : Int) (v5 : List S38) : runC laws_FnTimesMadeOfAll.C (laws_FnTimesMadeOfAll.O N) N laws_FnTimesMadeOfAll.c2097149 2097149 (mkSt [(8, .one (.int .i64 v0)), (19, .one (.ptr 19 0)), (47, .one (.ptr 47 0)), (316, .one (.bool v1))] [(19, some (24, [.int .i64 v2, .sl false 38 v3])), (47, some (24, [.int .i64 v4, .sl false 38 v5]))] : St D0) (laws_FnTimesMadeOfAll.K2097149 N) = laws_FnTimesMadeOfAll.d10 N v0 v1 v2 v3 v4 v5 := by
  exact (laws_FnTimesMadeOfAll.o10.run N v0 v1 v2 v3 v4 v5).trans rfl
noncomputable def laws_FnTimesMadeOfAll.K524287 (N : Nat) : Ex → St D0 → Option laws_FnTimesMadeOfAll.R := laws_FnTimesMadeOfAll.K0
noncomputable def laws_FnTimesMadeOfAll.o9 (N : Nat) (v0 : Int) (v1 : Bool) (v2 : Int) (v3 : List S38) (v4 : Int) (v5 : List S38) (c10 : Int → Bool → Int → (List S38) → Int → (List S38) → Option laws_FnTimesMadeOfAll.R) : Option laws_FnTimesMadeOfAll.R :=
 bif v1 then
  c10 v0 (v0 == (w64 ((v3.length : Int) - 1))) v2 v3 v4 v5
 else
 c10 v0 false v2 v3 v4 v5
theorem laws_FnTimesMadeOfAll.o9.run (N : Nat) (H2097149 : Code) (v0 : Int) (v1 : Bool) (v2 : Int) (v3 : List S38) (v4 : Int) (v5 : List S38) : runC laws_FnTimesMadeOfAll.C (laws_FnTimesMadeOfAll.O N) N (.seq (.seq laws_FnTimesMadeOfAll.c2097148 H2097149) laws_FnTimesMadeOfAll.c1048575) 524287 (mkSt [(8, .one (.int .i64 v0)), (19, .one (.ptr 19 0)), (47, .one (.ptr 47 0)), (48, .one (.bool v1))] [(19, some (24, [.int .i64 v2, .sl false 38 v3])), (47, some (24, [.int .i64 v4, .sl false 38 v5]))] : St D0) laws_FnTimesMadeOfAll.K0 = laws_FnTimesMadeOfAll.o9 N v0 v1 v2 v3 v4 v5 ((fun w0 w1 w2 w3 w4 w5 => runC laws_FnTimesMadeOfAll.C (laws_FnTimesMadeOfAll.O N) N H2097149 2097149 (mkSt [(8, .one (.int .i64 w0)), (19, .one (.ptr 19 0)), (47, .one (.ptr 47 0)), (316, .one (.bool w1))] [(19, some (24, [.int .i64 w2, .sl false 38 w3])), (47, some (24, [.int .i64 w4, .sl false 38 w5]))] : St D0) (onN (fun s => laws_FnTimesMadeOfAll.C.tidy 1048574 s (fun s' => runC laws_FnTimesMadeOfAll.C (laws_FnTimesMadeOfAll.O N) N laws_FnTimesMadeOfAll.c1048575 1048575 s' laws_FnTimesMadeOfAll.K0)) laws_FnTimesMadeOfAll.K0))) := by kernel_rfl
noncomputable def laws_FnTimesMadeOfAll.B1048574 (N : Nat) : St D0 → Option laws_FnTimesMadeOfAll.R := fun s' => runC laws_FnTimesMadeOfAll.C (laws_FnTimesMadeOfAll.O N) N laws_FnTimesMadeOfAll.c2097149 2097149 s' (laws_FnTimesMadeOfAll.K2097149 N)
noncomputable def laws_FnTimesMadeOfAll.d9 (N : Nat) (v0 : Int) (v1 : Bool) (v2 : Int) (v3 : List S38) (v4 : Int) (v5 : List S38) : Option laws_FnTimesMadeOfAll.R := laws_FnTimesMadeOfAll.o9 N v0 v1 v2 v3 v4 v5 ((fun w0 w1 w2 w3 w4 w5 => laws_FnTimesMadeOfAll.d10 N w0 w1 w2 w3 w4 w5))
theorem laws_FnTimesMadeOfAll.c524287_9 : laws_FnTimesMadeOfAll.c524287 = (.seq (.seq laws_FnTimesMadeOfAll.c2097148 laws_FnTimesMadeOfAll.c2097149) laws_FnTimesMadeOfAll.c1048575) := by kernel_rfl
theorem laws_FnTimesMadeOfAll.d9.run (N : Nat) (v0 : Int) (v1 : Bool) (v2 : Int) (v3 : List S38) (v4 : Int) (v5 : List S38) : runC laws_FnTimesMadeOfAll.C (laws_FnTimesMadeOfAll.O N) N laws_FnTimesMadeOfAll.c524287 524287 (mkSt [(8, .one (.int .i64 v0)), (19, .one (.ptr 19 0)), (47, .one (.ptr 47 0)), (48, .one (.bool v1))] [(19, some (24, [.int .i64 v2, .sl false 38 v3])), (47, some (24, [.int .i64 v4, .sl false 38 v5]))] : St D0) (laws_FnTimesMadeOfAll.K524287 N) = laws_FnTimesMadeOfAll.d9 N v0 v1 v2 v3 v4 v5 := by
  rw [laws_FnTimesMadeOfAll.c524287_9]; unfold laws_FnTimesMadeOfAll.d9; exact (laws_FnTimesMadeOfAll.o9.run N laws_FnTimesMadeOfAll.c2097149 v0 v1 v2 v3 v4 v5).trans (congr rfl (funext fun w0 => funext fun w1 => funext fun w2 => funext fun w3 => funext fun w4 => funext fun w5 => laws_FnTimesMadeOfAll.d10.run N w0 w1 w2 w3 w4 w5))
noncomputable def laws_FnTimesMadeOfAll.B262143 (N : Nat) : St D0 → Option laws_FnTimesMadeOfAll.R := fun s' => runC laws_FnTimesMadeOfAll.C (laws_FnTimesMadeOfAll.O N) N laws_FnTimesMadeOfAll.c524287 524287 s' (laws_FnTimesMadeOfAll.K524287 N)
noncomputable def laws_FnTimesMadeOfAll.K8388587 (N : Nat) : Ex → St D0 → Option laws_FnTimesMadeOfAll.R := (onN (fun s => laws_FnTimesMadeOfAll.C.tidy 524286 s (laws_FnTimesMadeOfAll.B262143 N)) laws_FnTimesMadeOfAll.K0)
noncomputable def laws_FnTimesMadeOfAll.o8 (N : Nat) (v0 : Int) (v1 : Bool) (v2 : Bool) (v3 : Int) (v4 : List S38) (v5 : Int) (v6 : List S38) (c9 : Int → Bool → Int → (List S38) → Int → (List S38) → Option laws_FnTimesMadeOfAll.R) : Option laws_FnTimesMadeOfAll.R :=
 bif v2 then
  some (false)
 else
 c9 v0 v1 v3 v4 v5 v6
theorem laws_FnTimesMadeOfAll.o8.run (N : Nat) (Kb262143 : St D0 → Option laws_FnTimesMadeOfAll.R) (v0 : Int) (v1 : Bool) (v2 : Bool) (v3 : Int) (v4 : List S38) (v5 : Int) (v6 : List S38) : runC laws_FnTimesMadeOfAll.C (laws_FnTimesMadeOfAll.O N) N laws_FnTimesMadeOfAll.c8388587 8388587 (mkSt [(8, .one (.int .i64 v0)), (19, .one (.ptr 19 0)), (47, .one (.ptr 47 0)), (48, .one (.bool v1)), (307, .one (.bool v2))] [(19, some (24, [.int .i64 v3, .sl false 38 v4])), (47, some (24, [.int .i64 v5, .sl false 38 v6]))] : St D0) (onN (fun s => laws_FnTimesMadeOfAll.C.tidy 524286 s Kb262143) laws_FnTimesMadeOfAll.K0) = laws_FnTimesMadeOfAll.o8 N v0 v1 v2 v3 v4 v5 v6 ((fun w0 w1 w2 w3 w4 w5 => Kb262143 (mkSt [(8, .one (.int .i64 w0)), (19, .one (.ptr 19 0)), (47, .one (.ptr 47 0)), (48, .one (.bool w1))] [(19, some (24, [.int .i64 w2, .sl false 38 w3])), (47, some (24, [.int .i64 w4, .sl false 38 w5]))] : St D0))) := by kernel_rfl
noncomputable def laws_FnTimesMadeOfAll.d8 (N : Nat) (v0 : Int) (v1 : Bool) (v2 : Bool) (v3 : Int) (v4 : List S38) (v5 : Int) (v6 : List S38) : Option laws_FnTimesMadeOfAll.R := laws_FnTimesMadeOfAll.o8 N v0 v1 v2 v3 v4 v5 v6 ((fun w0 w1 w2 w3 w4 w5 => laws_FnTimesMadeOfAll.d9 N w0 w1 w2 w3 w4 w5))
theorem laws_FnTimesMadeOfAll.d8.run (N : Nat) (v0 : Int) (v1 : Bool) (v2 : Bool) (v3 : Int) (v4 : List S38) (v5 : Int) (v6 : List S38) : runC laws_FnTimesMadeOfAll.C (laws_FnTimesMadeOfAll.O N) N laws_FnTimesMadeOfAll.c8388587 8388587 (mkSt [(8, .one (.int .i64 v0)), (19, .one (.ptr 19 0)), (47, .one (.ptr 47 0)), (48, .one (.bool v1)), (307, .one (.bool v2))] [(19, some (24, [.int .i64 v3, .sl false 38 v4])), (47, some (24, [.int .i64 v5, .sl false 38 v6]))] : St D0) (laws_FnTimesMadeOfAll.K8388587 N) = laws_FnTimesMadeOfAll.d8 N v0 v1 v2 v3 v4 v5 v6 := by
  unfold laws_FnTimesMadeOfAll.d8; exact (laws_FnTimesMadeOfAll.o8.run N (laws_FnTimesMadeOfAll.B262143 N) v0 v1 v2 v3 v4 v5 v6).trans (congr rfl (funext fun w0 => funext fun w1 => funext fun w2 => funext fun w3 => funext fun w4 => funext fun w5 => laws_FnTimesMadeOfAll.d9.run N w0 w1 w2 w3 w4 w5))
noncomputable def laws_FnTimesMadeOfAll.K524285 (N : Nat) : Ex → St D0 → Option laws_FnTimesMadeOfAll.R := (onN (fun s => laws_FnTimesMadeOfAll.C.tidy 262142 s (fun s' => runC laws_FnTimesMadeOfAll.C (laws_FnTimesMadeOfAll.O N) N laws_FnTimesMadeOfAll.c262143 262143 s' laws_FnTimesMadeOfAll.K0)) laws_FnTimesMadeOfAll.K0)
noncomputable def laws_FnTimesMadeOfAll.o7 (N : Nat) (v0 : Int) (v1 : Bool) (v2 : Bool) (v3 : Bool) (v4 : Int) (v5 : List S38) (v6 : Int) (v7 : Int) (v8 : Int) (v9 : Int) (v10 : List S38) (v11 : Int) (v12 : List S38) (v13 : Int) (v14 : List S38) (c8 : Int → Bool → Bool → Int → (List S38) → Int → (List S38) → Option laws_FnTimesMadeOfAll.R) (c9 : Int → Bool → Int → (List S38) → Int → (List S38) → Option laws_FnTimesMadeOfAll.R) : Option laws_FnTimesMadeOfAll.R :=
 bif v3 then
  some (false)
 else
 bif v1 then
  (impl_DropClue.g N v11 v12 (v5.length : Int)).bind fun r1 =>
  bif (!r1.2.2) then
   c8 v0 v2 true v9 v10 v13 v14
  else
  (laws_kPuzzle.g N r1.1 r1.2.1 v4 v5).bind fun r2 =>
  bif (!r2) then
   c8 v0 v2 true v9 v10 v13 v14
  else
  bif (decide (0 ≤ (v5.length : Int))) then
   bif (decide ((v5.length : Int) < (v12.length : Int))) then
    (v12[((v5.length : Int) : Int).toNat]?).bind fun x3 =>
    c8 v0 v2 (!((x3.f0 == v6) && ((x3.f1 == v7) && ((x3.f2 == v8) && true)))) v9 v10 v13 v14
   else
   none
  else
  none
 else
 c9 v0 v2 v9 v10 v13 v14
theorem laws_FnTimesMadeOfAll.o7.run (N : Nat) (H524287 : Code) (H8388587 : Code) (v0 : Int) (v1 : Bool) (v2 : Bool) (v3 : Bool) (v4 : Int) (v5 : List S38) (v6 : Int) (v7 : Int) (v8 : Int) (v9 : Int) (v10 : List S38) (v11 : Int) (v12 : List S38) (v13 : Int) (v14 : List S38) : runC laws_FnTimesMadeOfAll.C (laws_FnTimesMadeOfAll.O N) N laws_FnTimesMadeOfAll.c524285 524285 (mkSt [(8, .one (.int .i64 v0)), (17, .one (.ptr 17 0)), (18, .one (.ptr 18 0)), (19, .one (.ptr 19 0)), (43, .one (.ptr 43 0)), (44, .one (.bool v1)), (47, .one (.ptr 47 0)), (48, .one (.bool v2)), (279, .one (.bool v3))] [(17, some (24, [.int .i64 v4, .sl false 38 v5])), (18, some (38, [.int .i64 v6, .int .i64 v7, .int .i64 v8])), (19, some (24, [.int .i64 v9, .sl false 38 v10])), (43, some (24, [.int .i64 v11, .sl false 38 v12])), (47, some (24, [.int .i64 v13, .sl false 38 v14]))] : St D0) (onN (fun s => laws_FnTimesMadeOfAll.C.tidy 262142 s (fun s' => runC laws_FnTimesMadeOfAll.C (laws_FnTimesMadeOfAll.O N) N (.seq (.seq laws_FnTimesMadeOfAll.c1048572 (.cond (.tmp 280) (.seq laws_FnTimesMadeOfAll.c4194292 (.seq laws_FnTimesMadeOfAll.c8388586 H8388587)) laws_FnTimesMadeOfAll.c2097147)) H524287) 262143 s' laws_FnTimesMadeOfAll.K0)) laws_FnTimesMadeOfAll.K0) = laws_FnTimesMadeOfAll.o7 N v0 v1 v2 v3 v4 v5 v6 v7 v8 v9 v10 v11 v12 v13 v14 ((fun w0 w1 w2 w3 w4 w5 w6 => runC laws_FnTimesMadeOfAll.C (laws_FnTimesMadeOfAll.O N) N H8388587 8388587 (mkSt [(8, .one (.int .i64 w0)), (19, .one (.ptr 19 0)), (47, .one (.ptr 47 0)), (48, .one (.bool w1)), (307, .one (.bool w2))] [(19, some (24, [.int .i64 w3, .sl false 38 w4])), (47, some (24, [.int .i64 w5, .sl false 38 w6]))] : St D0) (onN (fun s => laws_FnTimesMadeOfAll.C.tidy 524286 s (fun s' => runC laws_FnTimesMadeOfAll.C (laws_FnTimesMadeOfAll.O N) N H524287 524287 s' laws_FnTimesMadeOfAll.K0)) laws_FnTimesMadeOfAll.K0))) ((fun w0 w1 w2 w3 w4 w5 => runC laws_FnTimesMadeOfAll.C (laws_FnTimesMadeOfAll.O N) N H524287 524287 (mkSt [(8, .one (.int .i64 w0)), (19, .one (.ptr 19 0)), (47, .one (.ptr 47 0)), (48, .one (.bool w1))] [(19, some (24, [.int .i64 w2, .sl false 38 w3])), (47, some (24, [.int .i64 w4, .sl false 38 w5]))] : St D0) laws_FnTimesMadeOfAll.K0)) := by kernel_rfl
noncomputable def laws_FnTimesMadeOfAll.B4194293 (N : Nat) : St D0 → Option laws_FnTimesMadeOfAll.R := fun s' => runC laws_FnTimesMadeOfAll.C (laws_FnTimesMadeOfAll.O N) N laws_FnTimesMadeOfAll.c8388587 8388587 s' (laws_FnTimesMadeOfAll.K8388587 N)
noncomputable def laws_FnTimesMadeOfAll.d7 (N : Nat) (v0 : Int) (v1 : Bool) (v2 : Bool) (v3 : Bool) (v4 : Int) (v5 : List S38) (v6 : Int) (v7 : Int) (v8 : Int) (v9 : Int) (v10 : List S38) (v11 : Int) (v12 : List S38) (v13 : Int) (v14 : List S38) : Option laws_FnTimesMadeOfAll.R := laws_FnTimesMadeOfAll.o7 N v0 v1 v2 v3 v4 v5 v6 v7 v8 v9 v10 v11 v12 v13 v14 ((fun w0 w1 w2 w3 w4 w5 w6 => laws_FnTimesMadeOfAll.d8 N w0 w1 w2 w3 w4 w5 w6)) ((fun w0 w1 w2 w3 w4 w5 => laws_FnTimesMadeOfAll.d9 N w0 w1 w2 w3 w4 w5))
theorem laws_FnTimesMadeOfAll.d7.run (N : Nat) (v0 : Int) (v1 : Bool) (v2 : Bool) (v3 : Bool) (v4 : Int) (v5 : List S38) (v6 : Int) (v7 : Int) (v8 : Int) (v9 : Int) (v10 : List S38) (v11 : Int) (v12 : List S38) (v13 : Int) (v14 : List S38) : runC laws_FnTimesMadeOfAll.C (laws_FnTimesMadeOfAll.O N) N laws_FnTimesMadeOfAll.c524285 524285 (mkSt [(8, .one (.int .i64 v0)), (17, .one (.ptr 17 0)), (18, .one (.ptr 18 0)), (19, .one (.ptr 19 0)), (43, .one (.ptr 43 0)), (44, .one (.bool v1)), (47, .one (.ptr 47 0)), (48, .one (.bool v2)), (279, .one (.bool v3))] [(17, some (24, [.int .i64 v4, .sl false 38 v5])), (18, some (38, [.int .i64 v6, .int .i64 v7, .int .i64 v8])), (19, some (24, [.int .i64 v9, .sl false 38 v10])), (43, some (24, [.int .i64 v11, .sl false 38 v12])), (47, some (24, [.int .i64 v13, .sl false 38 v14]))] : St D0) (laws_FnTimesMadeOfAll.K524285 N) = laws_FnTimesMadeOfAll.d7 N v0 v1 v2 v3 v4 v5 v6 v7 v8 v9 v10 v11 v12 v13 v14 := by
  unfold laws_FnTimesMadeOfAll.d7; exact (laws_FnTimesMadeOfAll.o7.run N laws_FnTimesMadeOfAll.c524287 laws_FnTimesMadeOfAll.c8388587 v0 v1 v2 v3 v4 v5 v6 v7 v8 v9 v10 v11 v12 v13 v14).trans (congr (congr rfl (funext fun w0 => funext fun w1 => funext fun w2 => funext fun w3 => funext fun w4 => funext fun w5 => funext fun w6 => laws_FnTimesMadeOfAll.d8.run N w0 w1 w2 w3 w4 w5 w6)) (funext fun w0 => funext fun w1 => funext fun w2 => funext fun w3 => funext fun w4 => funext fun w5 => laws_FnTimesMadeOfAll.d9.run N w0 w1 w2 w3 w4 w5))
noncomputable def laws_FnTimesMadeOfAll.K2047 (N : Nat) : Ex → St D0 → Option laws_FnTimesMadeOfAll.R := laws_FnTimesMadeOfAll.K0
noncomputable def laws_FnTimesMadeOfAll.o6 (N : Nat) (v0 : Int) (v1 : Int) (v2 : Int) (v3 : Int) (v4 : List S38) (v5 : Int) (v6 : Int) (v7 : Int) (v8 : Int) (v9 : List S38) (v10 : Int) (v11 : Int) (v12 : Int) (c7 : Int → Bool → Bool → Bool → Int → (List S38) → Int → Int → Int → Int → (List S38) → Int → (List S38) → Int → (List S38) → Option laws_FnTimesMadeOfAll.R) : Option laws_FnTimesMadeOfAll.R :=
 (impl_AddClue.g N v3 v4 v5 v6 v7).bind fun r1 =>
 (spec_AddClue.g N v3 v4 v5 v6 v7).bind fun r2 =>
 (impl_DropClue.g N v8 v9 v0).bind fun r3 =>
 (spec_DropClue.g N v8 v9 v0).bind fun r4 =>
 (impl_DoesFit.g N v1 v10 v11 v12 v2).bind fun r5 =>
 (spec_DoesFit.g N v1 v10 v11 v12 v2).bind fun r6 =>
 bif (!(r1.2.2 == r2.2.2)) then
  c7 v0 r1.2.2 r3.2.2 true v3 v4 v5 v6 v7 v8 v9 r1.1 r1.2.1 r3.1 r3.2.1
 else
 (laws_kPuzzle.g N r1.1 r1.2.1 r2.1 r2.2.1).bind fun r7 =>
 bif (!r7) then
  c7 v0 r1.2.2 r3.2.2 true v3 v4 v5 v6 v7 v8 v9 r1.1 r1.2.1 r3.1 r3.2.1
 else
 bif (!(r3.2.2 == r4.2.2)) then
  c7 v0 r1.2.2 r3.2.2 true v3 v4 v5 v6 v7 v8 v9 r1.1 r1.2.1 r3.1 r3.2.1
 else
 (laws_kPuzzle.g N r3.1 r3.2.1 r4.1 r4.2.1).bind fun r8 =>
 bif (!r8) then
  c7 v0 r1.2.2 r3.2.2 true v3 v4 v5 v6 v7 v8 v9 r1.1 r1.2.1 r3.1 r3.2.1
 else
 bif (!(r5.2 == r6.2)) then
  c7 v0 r1.2.2 r3.2.2 true v3 v4 v5 v6 v7 v8 v9 r1.1 r1.2.1 r3.1 r3.2.1
 else
 bif (!(r5.1 == r6.1)) then
  c7 v0 r1.2.2 r3.2.2 true v3 v4 v5 v6 v7 v8 v9 r1.1 r1.2.1 r3.1 r3.2.1
 else
 (impl_IsClue.g N v1 v10 v11 v12).bind fun r9 =>
 (spec_IsClue.g N v1 v10 v11 v12).bind fun r10 =>
 bif (!(r9 == r10)) then
  c7 v0 r1.2.2 r3.2.2 true v3 v4 v5 v6 v7 v8 v9 r1.1 r1.2.1 r3.1 r3.2.1
 else
 bif r5.2 then
  (impl_IsClue.g N v1 v10 v11 v12).bind fun r11 =>
  c7 v0 r1.2.2 r3.2.2 (!r11) v3 v4 v5 v6 v7 v8 v9 r1.1 r1.2.1 r3.1 r3.2.1
 else
 c7 v0 r1.2.2 r3.2.2 false v3 v4 v5 v6 v7 v8 v9 r1.1 r1.2.1 r3.1 r3.2.1
theorem laws_FnTimesMadeOfAll.o6.run (N : Nat) (H524285 : Code) (v0 : Int) (v1 : Int) (v2 : Int) (v3 : Int) (v4 : List S38) (v5 : Int) (v6 : Int) (v7 : Int) (v8 : Int) (v9 : List S38) (v10 : Int) (v11 : Int) (v12 : Int) : runC laws_FnTimesMadeOfAll.C (laws_FnTimesMadeOfAll.O N) N (.seq laws_FnTimesMadeOfAll.c4094 (.seq laws_FnTimesMadeOfAll.c8190 (.seq laws_FnTimesMadeOfAll.c16382 (.seq laws_FnTimesMadeOfAll.c32766 (.seq laws_FnTimesMadeOfAll.c65534 (.seq laws_FnTimesMadeOfAll.c131070 (.seq (.seq laws_FnTimesMadeOfAll.c524284 H524285) laws_FnTimesMadeOfAll.c262143))))))) 2047 (mkSt [(8, .one (.int .i64 v0)), (9, .one (.int .i64 v1)), (11, .one (.int .i64 v2)), (17, .one (.ptr 17 0)), (18, .one (.ptr 18 0)), (19, .one (.ptr 19 0)), (22, .one (.ptr 22 0))] [(17, some (24, [.int .i64 v3, .sl false 38 v4])), (18, some (38, [.int .i64 v5, .int .i64 v6, .int .i64 v7])), (19, some (24, [.int .i64 v8, .sl false 38 v9])), (22, some (38, [.int .i64 v10, .int .i64 v11, .int .i64 v12]))] : St D0) laws_FnTimesMadeOfAll.K0 = laws_FnTimesMadeOfAll.o6 N v0 v1 v2 v3 v4 v5 v6 v7 v8 v9 v10 v11 v12 ((fun w0 w1 w2 w3 w4 w5 w6 w7 w8 w9 w10 w11 w12 w13 w14 => runC laws_FnTimesMadeOfAll.C (laws_FnTimesMadeOfAll.O N) N H524285 524285 (mkSt [(8, .one (.int .i64 w0)), (17, .one (.ptr 17 0)), (18, .one (.ptr 18 0)), (19, .one (.ptr 19 0)), (43, .one (.ptr 43 0)), (44, .one (.bool w1)), (47, .one (.ptr 47 0)), (48, .one (.bool w2)), (279, .one (.bool w3))] [(17, some (24, [.int .i64 w4, .sl false 38 w5])), (18, some (38, [.int .i64 w6, .int .i64 w7, .int .i64 w8])), (19, some (24, [.int .i64 w9, .sl false 38 w10])), (43, some (24, [.int .i64 w11, .sl false 38 w12])), (47, some (24, [.int .i64 w13, .sl false 38 w14]))] : St D0) (onN (fun s => laws_FnTimesMadeOfAll.C.tidy 262142 s (fun s' => runC laws_FnTimesMadeOfAll.C (laws_FnTimesMadeOfAll.O N) N laws_FnTimesMadeOfAll.c262143 262143 s' laws_FnTimesMadeOfAll.K0)) laws_FnTimesMadeOfAll.K0))) := by kernel_rfl
noncomputable def laws_FnTimesMadeOfAll.B262142 (N : Nat) : St D0 → Option laws_FnTimesMadeOfAll.R := fun s' => runC laws_FnTimesMadeOfAll.C (laws_FnTimesMadeOfAll.O N) N laws_FnTimesMadeOfAll.c524285 524285 s' (laws_FnTimesMadeOfAll.K524285 N)
noncomputable def laws_FnTimesMadeOfAll.d6 (N : Nat) (v0 : Int) (v1 : Int) (v2 : Int) (v3 : Int) (v4 : List S38) (v5 : Int) (v6 : Int) (v7 : Int) (v8 : Int) (v9 : List S38) (v10 : Int) (v11 : Int) (v12 : Int) : Option laws_FnTimesMadeOfAll.R := laws_FnTimesMadeOfAll.o6 N v0 v1 v2 v3 v4 v5 v6 v7 v8 v9 v10 v11 v12 ((fun w0 w1 w2 w3 w4 w5 w6 w7 w8 w9 w10 w11 w12 w13 w14 => laws_FnTimesMadeOfAll.d7 N w0 w1 w2 w3 w4 w5 w6 w7 w8 w9 w10 w11 w12 w13 w14))
theorem laws_FnTimesMadeOfAll.c2047_6 : laws_FnTimesMadeOfAll.c2047 = (.seq laws_FnTimesMadeOfAll.c4094 (.seq laws_FnTimesMadeOfAll.c8190 (.seq laws_FnTimesMadeOfAll.c16382 (.seq laws_FnTimesMadeOfAll.c32766 (.seq laws_FnTimesMadeOfAll.c65534 (.seq laws_FnTimesMadeOfAll.c131070 (.seq (.seq laws_FnTimesMadeOfAll.c524284 laws_FnTimesMadeOfAll.c524285) laws_FnTimesMadeOfAll.c262143))))))) := by kernel_rfl
theorem laws_FnTimesMadeOfAll.d6.run (N : Nat) (v0 : Int) (v1 : Int) (v2 : Int) (v3 : Int) (v4 : List S38) (v5 : Int) (v6 : Int) (v7 : Int) (v8 : Int) (v9 : List S38) (v10 : Int) (v11 : Int) (v12 : Int) : runC laws_FnTimesMadeOfAll.C (laws_FnTimesMadeOfAll.O N) N laws_FnTimesMadeOfAll.c2047 2047 (mkSt [(8, .one (.int .i64 v0)), (9, .one (.int .i64 v1)), (11, .one (.int .i64 v2)), (17, .one (.ptr 17 0)), (18, .one (.ptr 18 0)), (19, .one (.ptr 19 0)), (22, .one (.ptr 22 0))] [(17, some (24, [.int .i64 v3, .sl false 38 v4])), (18, some (38, [.int .i64 v5, .int .i64 v6, .int .i64 v7])), (19, some (24, [.int .i64 v8, .sl false 38 v9])), (22, some (38, [.int .i64 v10, .int .i64 v11, .int .i64 v12]))] : St D0) (laws_FnTimesMadeOfAll.K2047 N) = laws_FnTimesMadeOfAll.d6 N v0 v1 v2 v3 v4 v5 v6 v7 v8 v9 v10 v11 v12 := by
  rw [laws_FnTimesMadeOfAll.c2047_6]; unfold laws_FnTimesMadeOfAll.d6; exact (laws_FnTimesMadeOfAll.o6.run N laws_FnTimesMadeOfAll.c524285 v0 v1 v2 v3 v4 v5 v6 v7 v8 v9 v10 v11 v12).trans (congr rfl (funext fun w0 => funext fun w1 => funext fun w2 => funext fun w3 => funext fun w4 => funext fun w5 => funext fun w6 => funext fun w7 => funext fun w8 => funext fun w9 => funext fun w10 => funext fun w11 => funext fun w12 => funext fun w13 => funext fun w14 => laws_FnTimesMadeOfAll.d7.run N w0 w1 w2 w3 w4 w5 w6 w7 w8 w9 w10 w11 w12 w13 w14))
noncomputable def laws_FnTimesMadeOfAll.B1023 (N : Nat) : St D0 → Option laws_FnTimesMadeOfAll.R := fun s' => runC laws_FnTimesMadeOfAll.C (laws_FnTimesMadeOfAll.O N) N laws_FnTimesMadeOfAll.c2047 2047 s' (laws_FnTimesMadeOfAll.K2047 N)
noncomputable def laws_FnTimesMadeOfAll.K130991 (N : Nat) : Ex → St D0 → Option laws_FnTimesMadeOfAll.R := (onN (fun s => laws_FnTimesMadeOfAll.C.tidy 2046 s (laws_FnTimesMadeOfAll.B1023 N)) laws_FnTimesMadeOfAll.K0)
noncomputable def laws_FnTimesMadeOfAll.o5 (N : Nat) (v0 : Int) (v1 : Int) (v2 : Int) (v3 : Bool) (v4 : Int) (v5 : List S38) (v6 : Int) (v7 : Int) (v8 : Int) (v9 : Int) (v10 : List S38) (v11 : Int) (v12 : Int) (v13 : Int) (c6 : Int → Int → Int → Int → (List S38) → Int → Int → Int → Int → (List S38) → Int → Int → Int → Option laws_FnTimesMadeOfAll.R) : Option laws_FnTimesMadeOfAll.R :=
 bif v3 then
  some (false)
 else
 c6 v0 v1 v2 v4 v5 v6 v7 v8 v9 v10 v11 v12 v13
theorem laws_FnTimesMadeOfAll.o5.run (N : Nat) (Kb1023 : St D0 → Option laws_FnTimesMadeOfAll.R) (v0 : Int) (v1 : Int) (v2 : Int) (v3 : Bool) (v4 : Int) (v5 : List S38) (v6 : Int) (v7 : Int) (v8 : Int) (v9 : Int) (v10 : List S38) (v11 : Int) (v12 : Int) (v13 : Int) : runC laws_FnTimesMadeOfAll.C (laws_FnTimesMadeOfAll.O N) N laws_FnTimesMadeOfAll.c130991 130991 (mkSt [(8, .one (.int .i64 v0)), (9, .one (.int .i64 v1)), (11, .one (.int .i64 v2)), (17, .one (.ptr 17 0)), (18, .one (.ptr 18 0)), (19, .one (.ptr 19 0)), (22, .one (.ptr 22 0)), (193, .one (.bool v3))] [(17, some (24, [.int .i64 v4, .sl false 38 v5])), (18, some (38, [.int .i64 v6, .int .i64 v7, .int .i64 v8])), (19, some (24, [.int .i64 v9, .sl false 38 v10])), (22, some (38, [.int .i64 v11, .int .i64 v12, .int .i64 v13]))] : St D0) (onN (fun s => laws_FnTimesMadeOfAll.C.tidy 2046 s Kb1023) laws_FnTimesMadeOfAll.K0) = laws_FnTimesMadeOfAll.o5 N v0 v1 v2 v3 v4 v5 v6 v7 v8 v9 v10 v11 v12 v13 ((fun w0 w1 w2 w3 w4 w5 w6 w7 w8 w9 w10 w11 w12 => Kb1023 (mkSt [(8, .one (.int .i64 w0)), (9, .one (.int .i64 w1)), (11, .one (.int .i64 w2)), (17, .one (.ptr 17 0)), (18, .one (.ptr 18 0)), (19, .one (.ptr 19 0)), (22, .one (.ptr 22 0))] [(17, some (24, [.int .i64 w3, .sl false 38 w4])), (18, some (38, [.int .i64 w5, .int .i64 w6, .int .i64 w7])), (19, some (24, [.int .i64 w8, .sl false 38 w9])), (22, some (38, [.int .i64 w10, .int .i64 w11, .int .i64 w12]))] : St D0))) := by kernel_rfl
noncomputable def laws_FnTimesMadeOfAll.d5 (N : Nat) (v0 : Int) (v1 : Int) (v2 : Int) (v3 : Bool) (v4 : Int) (v5 : List S38) (v6 : Int) (v7 : Int) (v8 : Int) (v9 : Int) (v10 : List S38) (v11 : Int) (v12 : Int) (v13 : Int) : Option laws_FnTimesMadeOfAll.R := laws_FnTimesMadeOfAll.o5 N v0 v1 v2 v3 v4 v5 v6 v7 v8 v9 v10 v11 v12 v13 ((fun w0 w1 w2 w3 w4 w5 w6 w7 w8 w9 w10 w11 w12 => laws_FnTimesMadeOfAll.d6 N w0 w1 w2 w3 w4 w5 w6 w7 w8 w9 w10 w11 w12))
theorem laws_FnTimesMadeOfAll.d5.run (N : Nat) (v0 : Int) (v1 : Int) (v2 : Int) (v3 : Bool) (v4 : Int) (v5 : List S38) (v6 : Int) (v7 : Int) (v8 : Int) (v9 : Int) (v10 : List S38) (v11 : Int) (v12 : Int) (v13 : Int) : runC laws_FnTimesMadeOfAll.C (laws_FnTimesMadeOfAll.O N) N laws_FnTimesMadeOfAll.c130991 130991 (mkSt [(8, .one (.int .i64 v0)), (9, .one (.int .i64 v1)), (11, .one (.int .i64 v2)), (17, .one (.ptr 17 0)), (18, .one (.ptr 18 0)), (19, .one (.ptr 19 0)), (22, .one (.ptr 22 0)), (193, .one (.bool v3))] [(17, some (24, [.int .i64 v4, .sl false 38 v5])), (18, some (38, [.int .i64 v6, .int .i64 v7, .int .i64 v8])), (19, some (24, [.int .i64 v9, .sl false 38 v10])), (22, some (38, [.int .i64 v11, .int .i64 v12, .int .i64 v13]))] : St D0) (laws_FnTimesMadeOfAll.K130991 N) = laws_FnTimesMadeOfAll.d5 N v0 v1 v2 v3 v4 v5 v6 v7 v8 v9 v10 v11 v12 v13 := by
  unfold laws_FnTimesMadeOfAll.d5; exact (laws_FnTimesMadeOfAll.o5.run N (laws_FnTimesMadeOfAll.B1023 N) v0 v1 v2 v3 v4 v5 v6 v7 v8 v9 v10 v11 v12 v13).trans (congr rfl (funext fun w0 => funext fun w1 => funext fun w2 => funext fun w3 => funext fun w4 => funext fun w5 => funext fun w6 => funext fun w7 => funext fun w8 => funext fun w9 => funext fun w10 => funext fun w11 => funext fun w12 => laws_FnTimesMadeOfAll.d6.run N w0 w1 w2 w3 w4 w5 w6 w7 w8 w9 w10 w11 w12))
noncomputable def laws_FnTimesMadeOfAll.K2045 (N : Nat) : Ex → St D0 → Option laws_FnTimesMadeOfAll.R := (onN (fun s => laws_FnTimesMadeOfAll.C.tidy 1022 s (fun s' => runC laws_FnTimesMadeOfAll.C (laws_FnTimesMadeOfAll.O N) N laws_FnTimesMadeOfAll.c1023 1023 s' laws_FnTimesMadeOfAll.K0)) laws_FnTimesMadeOfAll.K0)
noncomputable def laws_FnTimesMadeOfAll.o4 (N : Nat) (v0 : Int) (v1 : Int) (v2 : Int) (v3 : Bool) (v4 : Bool) (v5 : Int) (v6 : List S38) (v7 : Int) (v8 : List S38) (v9 : Int) (v10 : Int) (v11 : Int) (v12 : Int) (v13 : List S38) (v14 : Int) (v15 : Int) (v16 : Int) (v17 : Int) (v18 : List S38) (c5 : Int → Int → Int → Bool → Int → (List S38) → Int → Int → Int → Int → (List S38) → Int → Int → Int → Option laws_FnTimesMadeOfAll.R) (c6 : Int → Int → Int → Int → (List S38) → Int → Int → Int → Int → (List S38) → Int → Int → Int → Option laws_FnTimesMadeOfAll.R) : Option laws_FnTimesMadeOfAll.R :=
 bif v4 then
  some (false)
 else
 bif v3 then
  (impl_Solutions.g N v5 v6).bind fun r1 =>
  (impl_Solutions.g N v17 v18).bind fun r2 =>
  (impl_NeedlessClues.g N v17 v18).bind fun r3 =>
  bif (!r1.2) then
   c5 v0 v1 v2 true v7 v8 v9 v10 v11 v12 v13 v14 v15 v16
  else
  bif (!r2.2) then
   c5 v0 v1 v2 true v7 v8 v9 v10 v11 v12 v13 v14 v15 v16
  else
  (laws_kSame.g N r1.1 r2.1).bind fun r4 =>
  bif (!r4) then
   c5 v0 v1 v2 true v7 v8 v9 v10 v11 v12 v13 v14 v15 v16
  else
  bif (decide ((v18.length : Int) > (v6.length : Int))) then
   c5 v0 v1 v2 true v7 v8 v9 v10 v11 v12 v13 v14 v15 v16
  else
  bif (!r3.2) then
   c5 v0 v1 v2 true v7 v8 v9 v10 v11 v12 v13 v14 v15 v16
  else
  c5 v0 v1 v2 ((r3.1.length : Int) != 0) v7 v8 v9 v10 v11 v12 v13 v14 v15 v16
 else
 c6 v0 v1 v2 v7 v8 v9 v10 v11 v12 v13 v14 v15 v16
theorem laws_FnTimesMadeOfAll.o4.run (N : Nat) (H2047 : Code) (H130991 : Code) (v0 : Int) (v1 : Int) (v2 : Int) (v3 : Bool) (v4 : Bool) (v5 : Int) (v6 : List S38) (v7 : Int) (v8 : List S38) (v9 : Int) (v10 : Int) (v11 : Int) (v12 : Int) (v13 : List S38) (v14 : Int) (v15 : Int) (v16 : Int) (v17 : Int) (v18 : List S38) : runC laws_FnTimesMadeOfAll.C (laws_FnTimesMadeOfAll.O N) N laws_FnTimesMadeOfAll.c2045 2045 (mkSt [(8, .one (.int .i64 v0)), (9, .one (.int .i64 v1)), (11, .one (.int .i64 v2)), (16, .one (.ptr 16 0)), (17, .one (.ptr 17 0)), (18, .one (.ptr 18 0)), (19, .one (.ptr 19 0)), (22, .one (.ptr 22 0)), (31, .one (.ptr 31 0)), (32, .one (.bool v3)), (147, .one (.bool v4))] [(16, some (24, [.int .i64 v5, .sl false 38 v6])), (17, some (24, [.int .i64 v7, .sl false 38 v8])), (18, some (38, [.int .i64 v9, .int .i64 v10, .int .i64 v11])), (19, some (24, [.int .i64 v12, .sl false 38 v13])), (22, some (38, [.int .i64 v14, .int .i64 v15, .int .i64 v16])), (31, some (24, [.int .i64 v17, .sl false 38 v18]))] : St D0) (onN (fun s => laws_FnTimesMadeOfAll.C.tidy 1022 s (fun s' => runC laws_FnTimesMadeOfAll.C (laws_FnTimesMadeOfAll.O N) N (.seq (.seq laws_FnTimesMadeOfAll.c4092 (.cond (.tmp 148) (.seq laws_FnTimesMadeOfAll.c16372 (.seq laws_FnTimesMadeOfAll.c32746 (.seq laws_FnTimesMadeOfAll.c65494 (.seq laws_FnTimesMadeOfAll.c130990 H130991)))) laws_FnTimesMadeOfAll.c8187)) H2047) 1023 s' laws_FnTimesMadeOfAll.K0)) laws_FnTimesMadeOfAll.K0) = laws_FnTimesMadeOfAll.o4 N v0 v1 v2 v3 v4 v5 v6 v7 v8 v9 v10 v11 v12 v13 v14 v15 v16 v17 v18 ((fun w0 w1 w2 w3 w4 w5 w6 w7 w8 w9 w10 w11 w12 w13 => runC laws_FnTimesMadeOfAll.C (laws_FnTimesMadeOfAll.O N) N H130991 130991 (mkSt [(8, .one (.int .i64 w0)), (9, .one (.int .i64 w1)), (11, .one (.int .i64 w2)), (17, .one (.ptr 17 0)), (18, .one (.ptr 18 0)), (19, .one (.ptr 19 0)), (22, .one (.ptr 22 0)), (193, .one (.bool w3))] [(17, some (24, [.int .i64 w4, .sl false 38 w5])), (18, some (38, [.int .i64 w6, .int .i64 w7, .int .i64 w8])), (19, some (24, [.int .i64 w9, .sl false 38 w10])), (22, some (38, [.int .i64 w11, .int .i64 w12, .int .i64 w13]))] : St D0) (onN (fun s => laws_FnTimesMadeOfAll.C.tidy 2046 s (fun s' => runC laws_FnTimesMadeOfAll.C (laws_FnTimesMadeOfAll.O N) N H2047 2047 s' laws_FnTimesMadeOfAll.K0)) laws_FnTimesMadeOfAll.K0))) ((fun w0 w1 w2 w3 w4 w5 w6 w7 w8 w9 w10 w11 w12 => runC laws_FnTimesMadeOfAll.C (laws_FnTimesMadeOfAll.O N) N H2047 2047 (mkSt [(8, .one (.int .i64 w0)), (9, .one (.int .i64 w1)), (11, .one (.int .i64 w2)), (17, .one (.ptr 17 0)), (18, .one (.ptr 18 0)), (19, .one (.ptr 19 0)), (22, .one (.ptr 22 0))] [(17, some (24, [.int .i64 w3, .sl false 38 w4])), (18, some (38, [.int .i64 w5, .int .i64 w6, .int .i64 w7])), (19, some (24, [.int .i64 w8, .sl false 38 w9])), (22, some (38, [.int .i64 w10, .int .i64 w11, .int .i64 w12]))] : St D0) laws_FnTimesMadeOfAll.K0)) := by kernel_rfl
noncomputable def laws_FnTimesMadeOfAll.B65495 (N : Nat) : St D0 → Option laws_FnTimesMadeOfAll.R := fun s' => runC laws_FnTimesMadeOfAll.C (laws_FnTimesMadeOfAll.O N) N laws_FnTimesMadeOfAll.c130991 130991 s' (laws_FnTimesMadeOfAll.K130991 N)
noncomputable def laws_FnTimesMadeOfAll.d4 (N : Nat) (v0 : Int) (v1 : Int) (v2 : Int) (v3 : Bool) (v4 : Bool) (v5 : Int) (v6 : List S38) (v7 : Int) (v8 : List S38) (v9 : Int) (v10 : Int) (v11 : Int) (v12 : Int) (v13 : List S38) (v14 : Int) (v15 : Int) (v16 : Int) (v17 : Int) (v18 : List S38) : Option laws_FnTimesMadeOfAll.R := laws_FnTimesMadeOfAll.o4 N v0 v1 v2 v3 v4 v5 v6 v7 v8 v9 v10 v11 v12 v13 v14 v15 v16 v17 v18 ((fun w0 w1 w2 w3 w4 w5 w6 w7 w8 w9 w10 w11 w12 w13 => laws_FnTimesMadeOfAll.d5 N w0 w1 w2 w3 w4 w5 w6 w7 w8 w9 w10 w11 w12 w13)) ((fun w0 w1 w2 w3 w4 w5 w6 w7 w8 w9 w10 w11 w12 => laws_FnTimesMadeOfAll.d6 N w0 w1 w2 w3 w4 w5 w6 w7 w8 w9 w10 w11 w12))
theorem laws_FnTimesMadeOfAll.d4.run (N : Nat) (v0 : Int) (v1 : Int) (v2 : Int) (v3 : Bool) (v4 : Bool) (v5 : Int) (v6 : List S38) (v7 : Int) (v8 : List S38) (v9 : Int) (v10 : Int) (v11 : Int) (v12 : Int) (v13 : List S38) (v14 : Int) (v15 : Int) (v16 : Int) (v17 : Int) (v18 : List S38) : runC laws_FnTimesMadeOfAll.C (laws_FnTimesMadeOfAll.O N) N laws_FnTimesMadeOfAll.c2045 2045 (mkSt [(8, .one (.int .i64 v0)), (9, .one (.int .i64 v1)), (11, .one (.int .i64 v2)), (16, .one (.ptr 16 0)), (17, .one (.ptr 17 0)), (18, .one (.ptr 18 0)), (19, .one (.ptr 19 0)), (22, .one (.ptr 22 0)), (31, .one (.ptr 31 0)), (32, .one (.bool v3)), (147, .one (.bool v4))] [(16, some (24, [.int .i64 v5, .sl false 38 v6])), (17, some (24, [.int .i64 v7, .sl false 38 v8])), (18, some (38, [.int .i64 v9, .int .i64 v10, .int .i64 v11])), (19, some (24, [.int .i64 v12, .sl false 38 v13])), (22, some (38, [.int .i64 v14, .int .i64 v15, .int .i64 v16])), (31, some (24, [.int .i64 v17, .sl false 38 v18]))] : St D0) (laws_FnTimesMadeOfAll.K2045 N) = laws_FnTimesMadeOfAll.d4 N v0 v1 v2 v3 v4 v5 v6 v7 v8 v9 v10 v11 v12 v13 v14 v15 v16 v17 v18 := by
  unfold laws_FnTimesMadeOfAll.d4; exact (laws_FnTimesMadeOfAll.o4.run N laws_FnTimesMadeOfAll.c2047 laws_FnTimesMadeOfAll.c130991 v0 v1 v2 v3 v4 v5 v6 v7 v8 v9 v10 v11 v12 v13 v14 v15 v16 v17 v18).trans (congr (congr rfl (funext fun w0 => funext fun w1 => funext fun w2 => funext fun w3 => funext fun w4 => funext fun w5 => funext fun w6 => funext fun w7 => funext fun w8 => funext fun w9 => funext fun w10 => funext fun w11 => funext fun w12 => funext fun w13 => laws_FnTimesMadeOfAll.d5.run N w0 w1 w2 w3 w4 w5 w6 w7 w8 w9 w10 w11 w12 w13)) (funext fun w0 => funext fun w1 => funext fun w2 => funext fun w3 => funext fun w4 => funext fun w5 => funext fun w6 => funext fun w7 => funext fun w8 => funext fun w9 => funext fun w10 => funext fun w11 => funext fun w12 => laws_FnTimesMadeOfAll.d6.run N w0 w1 w2 w3 w4 w5 w6 w7 w8 w9 w10 w11 w12))
noncomputable def laws_FnTimesMadeOfAll.K63 (N : Nat) : Ex → St D0 → Option laws_FnTimesMadeOfAll.R := laws_FnTimesMadeOfAll.K0
noncomputable def laws_FnTimesMadeOfAll.o3 (N : Nat) (v0 : Int) (v1 : Int) (v2 : Int) (v3 : Int) (v4 : List S38) (v5 : Int) (v6 : List S38) (v7 : Int) (v8 : Int) (v9 : Int) (v10 : Int) (v11 : List S38) (v12 : Int) (v13 : Int) (v14 : Int) (c4 : Int → Int → Int → Bool → Bool → Int → (List S38) → Int → (List S38) → Int → Int → Int → Int → (List S38) → Int → Int → Int → Int → (List S38) → Option laws_FnTimesMadeOfAll.R) : Option laws_FnTimesMadeOfAll.R :=
 (impl_HarderPuzzle.g N v3 v4).bind fun r1 =>
 (spec_HarderPuzzle.g N v3 v4).bind fun r2 =>
 (impl_IsSolved.g N v3 v4).bind fun r3 =>
 bif (!(r1.2.2 == r2.2.2)) then
  c4 v0 v1 v2 r1.2.2 true v3 v4 v5 v6 v7 v8 v9 v10 v11 v12 v13 v14 r1.1 r1.2.1
 else
 (laws_kPuzzle.g N r1.1 r1.2.1 r2.1 r2.2.1).bind fun r4 =>
 bif (!r4) then
  c4 v0 v1 v2 r1.2.2 true v3 v4 v5 v6 v7 v8 v9 v10 v11 v12 v13 v14 r1.1 r1.2.1
 else
 bif r3.2 then
  c4 v0 v1 v2 r1.2.2 (!(r1.2.2 == r3.1)) v3 v4 v5 v6 v7 v8 v9 v10 v11 v12 v13 v14 r1.1 r1.2.1
 else
 c4 v0 v1 v2 r1.2.2 (!(r1.2.2 == false)) v3 v4 v5 v6 v7 v8 v9 v10 v11 v12 v13 v14 r1.1 r1.2.1
theorem laws_FnTimesMadeOfAll.o3.run (N : Nat) (H2045 : Code) (v0 : Int) (v1 : Int) (v2 : Int) (v3 : Int) (v4 : List S38) (v5 : Int) (v6 : List S38) (v7 : Int) (v8 : Int) (v9 : Int) (v10 : Int) (v11 : List S38) (v12 : Int) (v13 : Int) (v14 : Int) : runC laws_FnTimesMadeOfAll.C (laws_FnTimesMadeOfAll.O N) N (.seq laws_FnTimesMadeOfAll.c126 (.seq laws_FnTimesMadeOfAll.c254 (.seq laws_FnTimesMadeOfAll.c510 (.seq (.seq laws_FnTimesMadeOfAll.c2044 H2045) laws_FnTimesMadeOfAll.c1023)))) 63 (mkSt [(8, .one (.int .i64 v0)), (9, .one (.int .i64 v1)), (11, .one (.int .i64 v2)), (16, .one (.ptr 16 0)), (17, .one (.ptr 17 0)), (18, .one (.ptr 18 0)), (19, .one (.ptr 19 0)), (22, .one (.ptr 22 0))] [(16, some (24, [.int .i64 v3, .sl false 38 v4])), (17, some (24, [.int .i64 v5, .sl false 38 v6])), (18, some (38, [.int .i64 v7, .int .i64 v8, .int .i64 v9])), (19, some (24, [.int .i64 v10, .sl false 38 v11])), (22, some (38, [.int .i64 v12, .int .i64 v13, .int .i64 v14]))] : St D0) laws_FnTimesMadeOfAll.K0 = laws_FnTimesMadeOfAll.o3 N v0 v1 v2 v3 v4 v5 v6 v7 v8 v9 v10 v11 v12 v13 v14 ((fun w0 w1 w2 w3 w4 w5 w6 w7 w8 w9 w10 w11 w12 w13 w14 w15 w16 w17 w18 => runC laws_FnTimesMadeOfAll.C (laws_FnTimesMadeOfAll.O N) N H2045 2045 (mkSt [(8, .one (.int .i64 w0)), (9, .one (.int .i64 w1)), (11, .one (.int .i64 w2)), (16, .one (.ptr 16 0)), (17, .one (.ptr 17 0)), (18, .one (.ptr 18 0)), (19, .one (.ptr 19 0)), (22, .one (.ptr 22 0)), (31, .one (.ptr 31 0)), (32, .one (.bool w3)), (147, .one (.bool w4))] [(16, some (24, [.int .i64 w5, .sl false 38 w6])), (17, some (24, [.int .i64 w7, .sl false 38 w8])), (18, some (38, [.int .i64 w9, .int .i64 w10, .int .i64 w11])), (19, some (24, [.int .i64 w12, .sl false 38 w13])), (22, some (38, [.int .i64 w14, .int .i64 w15, .int .i64 w16])), (31, some (24, [.int .i64 w17, .sl false 38 w18]))] : St D0) (onN (fun s => laws_FnTimesMadeOfAll.C.tidy 1022 s (fun s' => runC laws_FnTimesMadeOfAll.C (laws_FnTimesMadeOfAll.O N) N laws_FnTimesMadeOfAll.c1023 1023 s' laws_FnTimesMadeOfAll.K0)) laws_FnTimesMadeOfAll.K0))) := by kernel_rfl
noncomputable def laws_FnTimesMadeOfAll.B1022 (N : Nat) : St D0 → Option laws_FnTimesMadeOfAll.R := fun s' => runC laws_FnTimesMadeOfAll.C (laws_FnTimesMadeOfAll.O N) N laws_FnTimesMadeOfAll.c2045 2045 s' (laws_FnTimesMadeOfAll.K2045 N)
noncomputable def laws_FnTimesMadeOfAll.d3 (N : Nat) (v0 : Int) (v1 : Int) (v2 : Int) (v3 : Int) (v4 : List S38) (v5 : Int) (v6 : List S38) (v7 : Int) (v8 : Int) (v9 : Int) (v10 : Int) (v11 : List S38) (v12 : Int) (v13 : Int) (v14 : Int) : Option laws_FnTimesMadeOfAll.R := laws_FnTimesMadeOfAll.o3 N v0 v1 v2 v3 v4 v5 v6 v7 v8 v9 v10 v11 v12 v13 v14 ((fun w0 w1 w2 w3 w4 w5 w6 w7 w8 w9 w10 w11 w12 w13 w14 w15 w16 w17 w18 => laws_FnTimesMadeOfAll.d4 N w0 w1 w2 w3 w4 w5 w6 w7 w8 w9 w10 w11 w12 w13 w14 w15 w16 w17 w18))
theorem laws_FnTimesMadeOfAll.c63_3 : laws_FnTimesMadeOfAll.c63 = (.seq laws_FnTimesMadeOfAll.c126 (.seq laws_FnTimesMadeOfAll.c254 (.seq laws_FnTimesMadeOfAll.c510 (.seq (.seq laws_FnTimesMadeOfAll.c2044 laws_FnTimesMadeOfAll.c2045) laws_FnTimesMadeOfAll.c1023)))) := by kernel_rfl
theorem laws_FnTimesMadeOfAll.d3.run (N : Nat) (v0 : Int) (v1 : Int) (v2 : Int) (v3 : Int) (v4 : List S38) (v5 : Int) (v6 : List S38) (v7 : Int) (v8 : Int) (v9 : Int) (v10 : Int) (v11 : List S38) (v12 : Int) (v13 : Int) (v14 : Int) : runC laws_FnTimesMadeOfAll.C (laws_FnTimesMadeOfAll.O N) N laws_FnTimesMadeOfAll.c63 63 (mkSt [(8, .one (.int .i64 v0)), (9, .one (.int .i64 v1)), (11, .one (.int .i64 v2)), (16, .one (.ptr 16 0)), (17, .one (.ptr 17 0)), (18, .one (.ptr 18 0)), (19, .one (.ptr 19 0)), (22, .one (.ptr 22 0))] [(16, some (24, [.int .i64 v3, .sl false 38 v4])), (17, some (24, [.int .i64 v5, .sl false 38 v6])), (18, some (38, [.int .i64 v7, .int .i64 v8, .int .i64 v9])), (19, some (24, [.int .i64 v10, .sl false 38 v11])), (22, some (38, [.int .i64 v12, .int .i64 v13, .int .i64 v14]))] : St D0) (laws_FnTimesMadeOfAll.K63 N) = laws_FnTimesMadeOfAll.d3 N v0 v1 v2 v3 v4 v5 v6 v7 v8 v9 v10 v11 v12 v13 v14 := by
  rw [laws_FnTimesMadeOfAll.c63_3]; unfold laws_FnTimesMadeOfAll.d3; exact (laws_FnTimesMadeOfAll.o3.run N laws_FnTimesMadeOfAll.c2045 v0 v1 v2 v3 v4 v5 v6 v7 v8 v9 v10 v11 v12 v13 v14).trans (congr rfl (funext fun w0 => funext fun w1 => funext fun w2 => funext fun w3 => funext fun w4 => funext fun w5 => funext fun w6 => funext fun w7 => funext fun w8 => funext fun w9 => funext fun w10 => funext fun w11 => funext fun w12 => funext fun w13 => funext fun w14 => funext fun w15 => funext fun w16 => funext fun w17 => funext fun w18 => laws_FnTimesMadeOfAll.d4.run N w0 w1 w2 w3 w4 w5 w6 w7 w8 w9 w10 w11 w12 w13 w14 w15 w16 w17 w18))
noncomputable def laws_FnTimesMadeOfAll.B31 (N : Nat) : St D0 → Option laws_FnTimesMadeOfAll.R := fun s' => runC laws_FnTimesMadeOfAll.C (laws_FnTimesMadeOfAll.O N) N laws_FnTimesMadeOfAll.c63 63 s' (laws_FnTimesMadeOfAll.K63 N)
noncomputable def laws_FnTimesMadeOfAll.K1003 (N : Nat) : Ex → St D0 → Option laws_FnTimesMadeOfAll.R := (onN (fun s => laws_FnTimesMadeOfAll.C.tidy 62 s (laws_FnTimesMadeOfAll.B31 N)) laws_FnTimesMadeOfAll.K0)
noncomputable def laws_FnTimesMadeOfAll.o2 (N : Nat) (v0 : Int) (v1 : Int) (v2 : Int) (v3 : Bool) (v4 : Int) (v5 : List S38) (v6 : Int) (v7 : List S38) (v8 : Int) (v9 : Int) (v10 : Int) (v11 : Int) (v12 : List S38) (v13 : Int) (v14 : Int) (v15 : Int) (c3 : Int → Int → Int → Int → (List S38) → Int → (List S38) → Int → Int → Int → Int → (List S38) → Int → Int → Int → Option laws_FnTimesMadeOfAll.R) : Option laws_FnTimesMadeOfAll.R :=
 bif v3 then
  some (false)
 else
 c3 v0 v1 v2 v4 v5 v6 v7 v8 v9 v10 v11 v12 v13 v14 v15
theorem laws_FnTimesMadeOfAll.o2.run (N : Nat) (Kb31 : St D0 → Option laws_FnTimesMadeOfAll.R) (v0 : Int) (v1 : Int) (v2 : Int) (v3 : Bool) (v4 : Int) (v5 : List S38) (v6 : Int) (v7 : List S38) (v8 : Int) (v9 : Int) (v10 : Int) (v11 : Int) (v12 : List S38) (v13 : Int) (v14 : Int) (v15 : Int) : runC laws_FnTimesMadeOfAll.C (laws_FnTimesMadeOfAll.O N) N laws_FnTimesMadeOfAll.c1003 1003 (mkSt [(8, .one (.int .i64 v0)), (9, .one (.int .i64 v1)), (11, .one (.int .i64 v2)), (16, .one (.ptr 16 0)), (17, .one (.ptr 17 0)), (18, .one (.ptr 18 0)), (19, .one (.ptr 19 0)), (22, .one (.ptr 22 0)), (115, .one (.bool v3))] [(16, some (24, [.int .i64 v4, .sl false 38 v5])), (17, some (24, [.int .i64 v6, .sl false 38 v7])), (18, some (38, [.int .i64 v8, .int .i64 v9, .int .i64 v10])), (19, some (24, [.int .i64 v11, .sl false 38 v12])), (22, some (38, [.int .i64 v13, .int .i64 v14, .int .i64 v15]))] : St D0) (onN (fun s => laws_FnTimesMadeOfAll.C.tidy 62 s Kb31) laws_FnTimesMadeOfAll.K0) = laws_FnTimesMadeOfAll.o2 N v0 v1 v2 v3 v4 v5 v6 v7 v8 v9 v10 v11 v12 v13 v14 v15 ((fun w0 w1 w2 w3 w4 w5 w6 w7 w8 w9 w10 w11 w12 w13 w14 => Kb31 (mkSt [(8, .one (.int .i64 w0)), (9, .one (.int .i64 w1)), (11, .one (.int .i64 w2)), (16, .one (.ptr 16 0)), (17, .one (.ptr 17 0)), (18, .one (.ptr 18 0)), (19, .one (.ptr 19 0)), (22, .one (.ptr 22 0))] [(16, some (24, [.int .i64 w3, .sl false 38 w4])), (17, some (24, [.int .i64 w5, .sl false 38 w6])), (18, some (38, [.int .i64 w7, .int .i64 w8, .int .i64 w9])), (19, some (24, [.int .i64 w10, .sl false 38 w11])), (22, some (38, [.int .i64 w12, .int .i64 w13, .int .i64 w14]))] : St D0))) := by kernel_rfl
noncomputable def laws_FnTimesMadeOfAll.d2 (N : Nat) (v0 : Int) (v1 : Int) (v2 : Int) (v3 : Bool) (v4 : Int) (v5 : List S38) (v6 : Int) (v7 : List S38) (v8 : Int) (v9 : Int) (v10 : Int) (v11 : Int) (v12 : List S38) (v13 : Int) (v14 : Int) (v15 : Int) : Option laws_FnTimesMadeOfAll.R := laws_FnTimesMadeOfAll.o2 N v0 v1 v2 v3 v4 v5 v6 v7 v8 v9 v10 v11 v12 v13 v14 v15 ((fun w0 w1 w2 w3 w4 w5 w6 w7 w8 w9 w10 w11 w12 w13 w14 => laws_FnTimesMadeOfAll.d3 N w0 w1 w2 w3 w4 w5 w6 w7 w8 w9 w10 w11 w12 w13 w14))
theorem laws_FnTimesMadeOfAll.d2.run (N : Nat) (v0 : Int) (v1 : Int) (v2 : Int) (v3 : Bool) (v4 : Int) (v5 : List S38) (v6 : Int) (v7 : List S38) (v8 : Int) (v9 : Int) (v10 : Int) (v11 : Int) (v12 : List S38) (v13 : Int) (v14 : Int) (v15 : Int) : runC laws_FnTimesMadeOfAll.C (laws_FnTimesMadeOfAll.O N) N laws_FnTimesMadeOfAll.c1003 1003 (mkSt [(8, .one (.int .i64 v0)), (9, .one (.int .i64 v1)), (11, .one (.int .i64 v2)), (16, .one (.ptr 16 0)), (17, .one (.ptr 17 0)), (18, .one (.ptr 18 0)), (19, .one (.ptr 19 0)), (22, .one (.ptr 22 0)), (115, .one (.bool v3))] [(16, some (24, [.int .i64 v4, .sl false 38 v5])), (17, some (24, [.int .i64 v6, .sl false 38 v7])), (18, some (38, [.int .i64 v8, .int .i64 v9, .int .i64 v10])), (19, some (24, [.int .i64 v11, .sl false 38 v12])), (22, some (38, [.int .i64 v13, .int .i64 v14, .int .i64 v15]))] : St D0) (laws_FnTimesMadeOfAll.K1003 N) = laws_FnTimesMadeOfAll.d2 N v0 v1 v2 v3 v4 v5 v6 v7 v8 v9 v10 v11 v12 v13 v14 v15 := by
  unfold laws_FnTimesMadeOfAll.d2; exact (laws_FnTimesMadeOfAll.o2.run N (laws_FnTimesMadeOfAll.B31 N) v0 v1 v2 v3 v4 v5 v6 v7 v8 v9 v10 v11 v12 v13 v14 v15).trans (congr rfl (funext fun w0 => funext fun w1 => funext fun w2 => funext fun w3 => funext fun w4 => funext fun w5 => funext fun w6 => funext fun w7 => funext fun w8 => funext fun w9 => funext fun w10 => funext fun w11 => funext fun w12 => funext fun w13 => funext fun w14 => laws_FnTimesMadeOfAll.d3.run N w0 w1 w2 w3 w4 w5 w6 w7 w8 w9 w10 w11 w12 w13 w14))
noncomputable def laws_FnTimesMadeOfAll.K61 (N : Nat) : Ex → St D0 → Option laws_FnTimesMadeOfAll.R := (onN (fun s => laws_FnTimesMadeOfAll.C.tidy 30 s (fun s' => runC laws_FnTimesMadeOfAll.C (laws_FnTimesMadeOfAll.O N) N laws_FnTimesMadeOfAll.c31 31 s' laws_FnTimesMadeOfAll.K0)) laws_FnTimesMadeOfAll.K0)
noncomputable def laws_FnTimesMadeOfAll.o1 (N : Nat) (v0 : Int) (v1 : Int) (v2 : Int) (v3 : Int) (v4 : Int) (v5 : Int) (v6 : Bool) (v7 : Bool) (v8 : Int) (v9 : List S38) (v10 : Int) (v11 : List S38) (v12 : Int) (v13 : Int) (v14 : Int) (v15 : Int) (v16 : List S38) (v17 : Int) (v18 : Int) (v19 : Int) (v20 : Int) (v21 : List S38) (c2 : Int → Int → Int → Bool → Int → (List S38) → Int → (List S38) → Int → Int → Int → Int → (List S38) → Int → Int → Int → Option laws_FnTimesMadeOfAll.R) (c3 : Int → Int → Int → Int → (List S38) → Int → (List S38) → Int → Int → Int → Int → (List S38) → Int → Int → Int → Option laws_FnTimesMadeOfAll.R) : Option laws_FnTimesMadeOfAll.R :=
 bif v7 then
  some (false)
 else
 bif v6 then
  (impl_Solutions.g N v20 v21).bind fun r1 =>
  (impl_IsPuzzle.g N v20 v21).bind fun r2 =>
  bif (!r2) then
   c2 v3 v4 v5 true v8 v9 v10 v11 v12 v13 v14 v15 v16 v17 v18 v19
  else
  bif (!r1.2) then
   c2 v3 v4 v5 true v8 v9 v10 v11 v12 v13 v14 v15 v16 v17 v18 v19
  else
  (laws_kHas.g N r1.1 v1).bind fun r3 =>
  bif (!r3) then
   c2 v3 v4 v5 true v8 v9 v10 v11 v12 v13 v14 v15 v16 v17 v18 v19
  else
  bif ((v21.length : Int) != v2) then
   c2 v3 v4 v5 true v8 v9 v10 v11 v12 v13 v14 v15 v16 v17 v18 v19
  else
  c2 v3 v4 v5 (v20 != v0) v8 v9 v10 v11 v12 v13 v14 v15 v16 v17 v18 v19
 else
 c3 v3 v4 v5 v8 v9 v10 v11 v12 v13 v14 v15 v16 v17 v18 v19
theorem laws_FnTimesMadeOfAll.o1.run (N : Nat) (H63 : Code) (H1003 : Code) (v0 : Int) (v1 : Int) (v2 : Int) (v3 : Int) (v4 : Int) (v5 : Int) (v6 : Bool) (v7 : Bool) (v8 : Int) (v9 : List S38) (v10 : Int) (v11 : List S38) (v12 : Int) (v13 : Int) (v14 : Int) (v15 : Int) (v16 : List S38) (v17 : Int) (v18 : Int) (v19 : Int) (v20 : Int) (v21 : List S38) : runC laws_FnTimesMadeOfAll.C (laws_FnTimesMadeOfAll.O N) N laws_FnTimesMadeOfAll.c61 61 (mkSt [(0, .one (.int .i64 v0)), (1, .one (.int .i64 v1)), (2, .one (.int .i64 v2)), (8, .one (.int .i64 v3)), (9, .one (.int .i64 v4)), (11, .one (.int .i64 v5)), (16, .one (.ptr 16 0)), (17, .one (.ptr 17 0)), (18, .one (.ptr 18 0)), (19, .one (.ptr 19 0)), (22, .one (.ptr 22 0)), (25, .one (.ptr 25 0)), (26, .one (.bool v6)), (83, .one (.bool v7))] [(16, some (24, [.int .i64 v8, .sl false 38 v9])), (17, some (24, [.int .i64 v10, .sl false 38 v11])), (18, some (38, [.int .i64 v12, .int .i64 v13, .int .i64 v14])), (19, some (24, [.int .i64 v15, .sl false 38 v16])), (22, some (38, [.int .i64 v17, .int .i64 v18, .int .i64 v19])), (25, some (24, [.int .i64 v20, .sl true 38 v21]))] : St D0) (onN (fun s => laws_FnTimesMadeOfAll.C.tidy 30 s (fun s' => runC laws_FnTimesMadeOfAll.C (laws_FnTimesMadeOfAll.O N) N (.seq (.seq laws_FnTimesMadeOfAll.c124 (.cond (.tmp 84) (.seq laws_FnTimesMadeOfAll.c500 (.seq laws_FnTimesMadeOfAll.c1002 H1003)) laws_FnTimesMadeOfAll.c251)) H63) 31 s' laws_FnTimesMadeOfAll.K0)) laws_FnTimesMadeOfAll.K0) = laws_FnTimesMadeOfAll.o1 N v0 v1 v2 v3 v4 v5 v6 v7 v8 v9 v10 v11 v12 v13 v14 v15 v16 v17 v18 v19 v20 v21 ((fun w0 w1 w2 w3 w4 w5 w6 w7 w8 w9 w10 w11 w12 w13 w14 w15 => runC laws_FnTimesMadeOfAll.C (laws_FnTimesMadeOfAll.O N) N H1003 1003 (mkSt [(8, .one (.int .i64 w0)), (9, .one (.int .i64 w1)), (11, .one (.int .i64 w2)), (16, .one (.ptr 16 0)), (17, .one (.ptr 17 0)), (18, .one (.ptr 18 0)), (19, .one (.ptr 19 0)), (22, .one (.ptr 22 0)), (115, .one (.bool w3))] [(16, some (24, [.int .i64 w4, .sl false 38 w5])), (17, some (24, [.int .i64 w6, .sl false 38 w7])), (18, some (38, [.int .i64 w8, .int .i64 w9, .int .i64 w10])), (19, some (24, [.int .i64 w11, .sl false 38 w12])), (22, some (38, [.int .i64 w13, .int .i64 w14, .int .i64 w15]))] : St D0) (onN (fun s => laws_FnTimesMadeOfAll.C.tidy 62 s (fun s' => runC laws_FnTimesMadeOfAll.C (laws_FnTimesMadeOfAll.O N) N H63 63 s' laws_FnTimesMadeOfAll.K0)) laws_FnTimesMadeOfAll.K0))) ((fun w0 w1 w2 w3 w4 w5 w6 w7 w8 w9 w10 w11 w12 w13 w14 => runC laws_FnTimesMadeOfAll.C (laws_FnTimesMadeOfAll.O N) N H63 63 (mkSt [(8, .one (.int .i64 w0)), (9, .one (.int .i64 w1)), (11, .one (.int .i64 w2)), (16, .one (.ptr 16 0)), (17, .one (.ptr 17 0)), (18, .one (.ptr 18 0)), (19, .one (.ptr 19 0)), (22, .one (.ptr 22 0))] [(16, some (24, [.int .i64 w3, .sl false 38 w4])), (17, some (24, [.int .i64 w5, .sl false 38 w6])), (18, some (38, [.int .i64 w7, .int .i64 w8, .int .i64 w9])), (19, some (24, [.int .i64 w10, .sl false 38 w11])), (22, some (38, [.int .i64 w12, .int .i64 w13, .int .i64 w14]))] : St D0) laws_FnTimesMadeOfAll.K0)) := by kernel_rfl
noncomputable def laws_FnTimesMadeOfAll.B501 (N : Nat) : St D0 → Option laws_FnTimesMadeOfAll.R := fun s' => runC laws_FnTimesMadeOfAll.C (laws_FnTimesMadeOfAll.O N) N laws_FnTimesMadeOfAll.c1003 1003 s' (laws_FnTimesMadeOfAll.K1003 N)
noncomputable def laws_FnTimesMadeOfAll.d1 (N : Nat) (v0 : Int) (v1 : Int) (v2 : Int) (v3 : Int) (v4 : Int) (v5 : Int) (v6 : Bool) (v7 : Bool) (v8 : Int) (v9 : List S38) (v10 : Int) (v11 : List S38) (v12 : Int) (v13 : Int) (v14 : Int) (v15 : Int) (v16 : List S38) (v17 : Int) (v18 : Int) (v19 : Int) (v20 : Int) (v21 : List S38) : Option laws_FnTimesMadeOfAll.R := laws_FnTimesMadeOfAll.o1 N v0 v1 v2 v3 v4 v5 v6 v7 v8 v9 v10 v11 v12 v13 v14 v15 v16 v17 v18 v19 v20 v21 ((fun w0 w1 w2 w3 w4 w5 w6 w7 w8 w9 w10 w11 w12 w13 w14 w15 => laws_FnTimesMadeOfAll.d2 N w0 w1 w2 w3 w4 w5 w6 w7 w8 w9 w10 w11 w12 w13 w14 w15)) ((fun w0 w1 w2 w3 w4 w5 w6 w7 w8 w9 w10 w11 w12 w13 w14 => laws_FnTimesMadeOfAll.d3 N w0 w1 w2 w3 w4 w5 w6 w7 w8 w9 w10 w11 w12 w13 w14))
theorem laws_FnTimesMadeOfAll.d1.run (N : Nat) (v0 : Int) (v1 : Int) (v2 : Int) (v3 : Int) (v4 : Int) (v5 : Int) (v6 : Bool) (v7 : Bool) (v8 : Int) (v9 : List S38) (v10 : Int) (v11 : List S38) (v12 : Int) (v13 : Int) (v14 : Int) (v15 : Int) (v16 : List S38) (v17 : Int) (v18 : Int) (v19 : Int) (v20 : Int) (v21 : List S38) : runC laws_FnTimesMadeOfAll.C (laws_FnTimesMadeOfAll.O N) N laws_FnTimesMadeOfAll.c61 61 (mkSt [(0, .one (.int .i64 v0)), (1, .one (.int .i64 v1)), (2, .one (.int .i64 v2)), (8, .one (.int .i64 v3)), (9, .one (.int .i64 v4)), (11, .one (.int .i64 v5)), (16, .one (.ptr 16 0)), (17, .one (.ptr 17 0)), (18, .one (.ptr 18 0)), (19, .one (.ptr 19 0)), (22, .one (.ptr 22 0)), (25, .one (.ptr 25 0)), (26, .one (.bool v6)), (83, .one (.bool v7))] [(16, some (24, [.int .i64 v8, .sl false 38 v9])), (17, some (24, [.int .i64 v10, .sl false 38 v11])), (18, some (38, [.int .i64 v12, .int .i64 v13, .int .i64 v14])), (19, some (24, [.int .i64 v15, .sl false 38 v16])), (22, some (38, [.int .i64 v17, .int .i64 v18, .int .i64 v19])), (25, some (24, [.int .i64 v20, .sl true 38 v21]))] : St D0) (laws_FnTimesMadeOfAll.K61 N) = laws_FnTimesMadeOfAll.d1 N v0 v1 v2 v3 v4 v5 v6 v7 v8 v9 v10 v11 v12 v13 v14 v15 v16 v17 v18 v19 v20 v21 := by
  unfold laws_FnTimesMadeOfAll.d1; exact (laws_FnTimesMadeOfAll.o1.run N laws_FnTimesMadeOfAll.c63 laws_FnTimesMadeOfAll.c1003 v0 v1 v2 v3 v4 v5 v6 v7 v8 v9 v10 v11 v12 v13 v14 v15 v16 v17 v18 v19 v20 v21).trans (congr (congr rfl (funext fun w0 => funext fun w1 => funext fun w2 => funext fun w3 => funext fun w4 => funext fun w5 => funext fun w6 => funext fun w7 => funext fun w8 => funext fun w9 => funext fun w10 => funext fun w11 => funext fun w12 => funext fun w13 => funext fun w14 => funext fun w15 => laws_FnTimesMadeOfAll.d2.run N w0 w1 w2 w3 w4 w5 w6 w7 w8 w9 w10 w11 w12 w13 w14 w15)) (funext fun w0 => funext fun w1 => funext fun w2 => funext fun w3 => funext fun w4 => funext fun w5 => funext fun w6 => funext fun w7 => funext fun w8 => funext fun w9 => funext fun w10 => funext fun w11 => funext fun w12 => funext fun w13 => funext fun w14 => laws_FnTimesMadeOfAll.d3.run N w0 w1 w2 w3 w4 w5 w6 w7 w8 w9 w10 w11 w12 w13 w14))
noncomputable def laws_FnTimesMadeOfAll.o0 (N : Nat) (a0 : Int) (a1 : Int) (a2 : Int) (a3 : Int) (a4_0 : Int) (a4_1 : List S38) (a5_0 : Int) (a5_1 : List S38) (a6_0 : Int) (a6_1 : Int) (a6_2 : Int) (a7_0 : Int) (a7_1 : List S38) (a8 : Int) (a9 : Int) (a10_0 : Int) (a10_1 : Int) (a10_2 : Int) (a11 : Int) (c1 : Int → Int → Int → Int → Int → Int → Bool → Bool → Int → (List S38) → Int → (List S38) → Int → Int → Int → Int → (List S38) → Int → Int → Int → Int → (List S38) → Option laws_FnTimesMadeOfAll.R) : Option laws_FnTimesMadeOfAll.R :=
 (impl_MakePuzzle.g N a0 a1 a2 a3).bind fun r1 =>
 (spec_MakePuzzle.g N a0 a1 a2 a3).bind fun r2 =>
 bif (!(r1.2.2 == r2.2.2)) then
  c1 a0 a1 a2 a8 a9 a11 r1.2.2 true a4_0 a4_1 a5_0 a5_1 a6_0 a6_1 a6_2 a7_0 a7_1 a10_0 a10_1 a10_2 r1.1 r1.2.1
 else
 (laws_kPuzzle.g N r1.1 r1.2.1 r2.1 r2.2.1).bind fun r3 =>
 c1 a0 a1 a2 a8 a9 a11 r1.2.2 (!r3) a4_0 a4_1 a5_0 a5_1 a6_0 a6_1 a6_2 a7_0 a7_1 a10_0 a10_1 a10_2 r1.1 r1.2.1
theorem laws_FnTimesMadeOfAll.o0.run (N : Nat) (H61 : Code) (a0 : Int) (a1 : Int) (a2 : Int) (a3 : Int) (a4_0 : Int) (a4_1 : List S38) (a5_0 : Int) (a5_1 : List S38) (a6_0 : Int) (a6_1 : Int) (a6_2 : Int) (a7_0 : Int) (a7_1 : List S38) (a8 : Int) (a9 : Int) (a10_0 : Int) (a10_1 : Int) (a10_2 : Int) (a11 : Int) : runC laws_FnTimesMadeOfAll.C (laws_FnTimesMadeOfAll.O N) N (.seq laws_FnTimesMadeOfAll.c2 (.seq laws_FnTimesMadeOfAll.c6 (.seq laws_FnTimesMadeOfAll.c14 (.seq (.seq laws_FnTimesMadeOfAll.c60 H61) laws_FnTimesMadeOfAll.c31)))) 1 (st0 [.one (.int .i64 a0), .one (.int .i64 a1), .one (.int .i64 a2), .one (.int .i64 a3), .agg [.int .i64 a4_0, .sl false 38 a4_1], .agg [.int .i64 a5_0, .sl false 38 a5_1], .agg [.int .i64 a6_0, .int .i64 a6_1, .int .i64 a6_2], .agg [.int .i64 a7_0, .sl false 38 a7_1], .one (.int .i64 a8), .one (.int .i64 a9), .agg [.int .i64 a10_0, .int .i64 a10_1, .int .i64 a10_2], .one (.int .i64 a11)] [] : St D0) laws_FnTimesMadeOfAll.K0 = laws_FnTimesMadeOfAll.o0 N a0 a1 a2 a3 a4_0 a4_1 a5_0 a5_1 a6_0 a6_1 a6_2 a7_0 a7_1 a8 a9 a10_0 a10_1 a10_2 a11 ((fun w0 w1 w2 w3 w4 w5 w6 w7 w8 w9 w10 w11 w12 w13 w14 w15 w16 w17 w18 w19 w20 w21 => runC laws_FnTimesMadeOfAll.C (laws_FnTimesMadeOfAll.O N) N H61 61 (mkSt [(0, .one (.int .i64 w0)), (1, .one (.int .i64 w1)), (2, .one (.int .i64 w2)), (8, .one (.int .i64 w3)), (9, .one (.int .i64 w4)), (11, .one (.int .i64 w5)), (16, .one (.ptr 16 0)), (17, .one (.ptr 17 0)), (18, .one (.ptr 18 0)), (19, .one (.ptr 19 0)), (22, .one (.ptr 22 0)), (25, .one (.ptr 25 0)), (26, .one (.bool w6)), (83, .one (.bool w7))] [(16, some (24, [.int .i64 w8, .sl false 38 w9])), (17, some (24, [.int .i64 w10, .sl false 38 w11])), (18, some (38, [.int .i64 w12, .int .i64 w13, .int .i64 w14])), (19, some (24, [.int .i64 w15, .sl false 38 w16])), (22, some (38, [.int .i64 w17, .int .i64 w18, .int .i64 w19])), (25, some (24, [.int .i64 w20, .sl true 38 w21]))] : St D0) (onN (fun s => laws_FnTimesMadeOfAll.C.tidy 30 s (fun s' => runC laws_FnTimesMadeOfAll.C (laws_FnTimesMadeOfAll.O N) N laws_FnTimesMadeOfAll.c31 31 s' laws_FnTimesMadeOfAll.K0)) laws_FnTimesMadeOfAll.K0))) := by kernel_rfl
noncomputable def laws_FnTimesMadeOfAll.B30 (N : Nat) : St D0 → Option laws_FnTimesMadeOfAll.R := fun s' => runC laws_FnTimesMadeOfAll.C (laws_FnTimesMadeOfAll.O N) N laws_FnTimesMadeOfAll.c61 61 s' (laws_FnTimesMadeOfAll.K61 N)
noncomputable def laws_FnTimesMadeOfAll.g (N : Nat) (a0 : Int) (a1 : Int) (a2 : Int) (a3 : Int) (a4_0 : Int) (a4_1 : List S38) (a5_0 : Int) (a5_1 : List S38) (a6_0 : Int) (a6_1 : Int) (a6_2 : Int) (a7_0 : Int) (a7_1 : List S38) (a8 : Int) (a9 : Int) (a10_0 : Int) (a10_1 : Int) (a10_2 : Int) (a11 : Int) : Option laws_FnTimesMadeOfAll.R := laws_FnTimesMadeOfAll.o0 N a0 a1 a2 a3 a4_0 a4_1 a5_0 a5_1 a6_0 a6_1 a6_2 a7_0 a7_1 a8 a9 a10_0 a10_1 a10_2 a11 ((fun w0 w1 w2 w3 w4 w5 w6 w7 w8 w9 w10 w11 w12 w13 w14 w15 w16 w17 w18 w19 w20 w21 => laws_FnTimesMadeOfAll.d1 N w0 w1 w2 w3 w4 w5 w6 w7 w8 w9 w10 w11 w12 w13 w14 w15 w16 w17 w18 w19 w20 w21))
theorem laws_FnTimesMadeOfAll.c1_0 : laws_FnTimesMadeOfAll.c1 = (.seq laws_FnTimesMadeOfAll.c2 (.seq laws_FnTimesMadeOfAll.c6 (.seq laws_FnTimesMadeOfAll.c14 (.seq (.seq laws_FnTimesMadeOfAll.c60 laws_FnTimesMadeOfAll.c61) laws_FnTimesMadeOfAll.c31)))) := by kernel_rfl
theorem laws_FnTimesMadeOfAll.g.run (N : Nat) (a0 : Int) (a1 : Int) (a2 : Int) (a3 : Int) (a4_0 : Int) (a4_1 : List S38) (a5_0 : Int) (a5_1 : List S38) (a6_0 : Int) (a6_1 : Int) (a6_2 : Int) (a7_0 : Int) (a7_1 : List S38) (a8 : Int) (a9 : Int) (a10_0 : Int) (a10_1 : Int) (a10_2 : Int) (a11 : Int) : runC laws_FnTimesMadeOfAll.C (laws_FnTimesMadeOfAll.O N) N laws_FnTimesMadeOfAll.c1 1 (st0 [.one (.int .i64 a0), .one (.int .i64 a1), .one (.int .i64 a2), .one (.int .i64 a3), .agg [.int .i64 a4_0, .sl false 38 a4_1], .agg [.int .i64 a5_0, .sl false 38 a5_1], .agg [.int .i64 a6_0, .int .i64 a6_1, .int .i64 a6_2], .agg [.int .i64 a7_0, .sl false 38 a7_1], .one (.int .i64 a8), .one (.int .i64 a9), .agg [.int .i64 a10_0, .int .i64 a10_1, .int .i64 a10_2], .one (.int .i64 a11)] [] : St D0) laws_FnTimesMadeOfAll.K0 = laws_FnTimesMadeOfAll.g N a0 a1 a2 a3 a4_0 a4_1 a5_0 a5_1 a6_0 a6_1 a6_2 a7_0 a7_1 a8 a9 a10_0 a10_1 a10_2 a11 := by
  rw [laws_FnTimesMadeOfAll.c1_0]; unfold laws_FnTimesMadeOfAll.g; exact (laws_FnTimesMadeOfAll.o0.run N laws_FnTimesMadeOfAll.c61 a0 a1 a2 a3 a4_0 a4_1 a5_0 a5_1 a6_0 a6_1 a6_2 a7_0 a7_1 a8 a9 a10_0 a10_1 a10_2 a11).trans (congr rfl (funext fun w0 => funext fun w1 => funext fun w2 => funext fun w3 => funext fun w4 => funext fun w5 => funext fun w6 => funext fun w7 => funext fun w8 => funext fun w9 => funext fun w10 => funext fun w11 => funext fun w12 => funext fun w13 => funext fun w14 => funext fun w15 => funext fun w16 => funext fun w17 => funext fun w18 => funext fun w19 => funext fun w20 => funext fun w21 => laws_FnTimesMadeOfAll.d1.run N w0 w1 w2 w3 w4 w5 w6 w7 w8 w9 w10 w11 w12 w13 w14 w15 w16 w17 w18 w19 w20 w21))
theorem laws_FnTimesMadeOfAll.good (N : Nat) (a0 : Int) (a1 : Int) (a2 : Int) (a3 : Int) (a4_0 : Int) (a4_1 : List S38) (a5_0 : Int) (a5_1 : List S38) (a6_0 : Int) (a6_1 : Int) (a6_2 : Int) (a7_0 : Int) (a7_1 : List S38) (a8 : Int) (a9 : Int) (a10_0 : Int) (a10_1 : Int) (a10_2 : Int) (a11 : Int) (r : laws_FnTimesMadeOfAll.R) (h : laws_FnTimesMadeOfAll.g N a0 a1 a2 a3 a4_0 a4_1 a5_0 a5_1 a6_0 a6_1 a6_2 a7_0 a7_1 a8 a9 a10_0 a10_1 a10_2 a11 = some r) : Go.PM.Good Go.Proofs.Try.prog T0 5 [.one (.int .i64 a0), .one (.int .i64 a1), .one (.int .i64 a2), .one (.int .i64 a3), .agg [.int .i64 a4_0, .sl false 38 a4_1], .agg [.int .i64 a5_0, .sl false 38 a5_1], .agg [.int .i64 a6_0, .int .i64 a6_1, .int .i64 a6_2], .agg [.int .i64 a7_0, .sl false 38 a7_1], .one (.int .i64 a8), .one (.int .i64 a9), .agg [.int .i64 a10_0, .int .i64 a10_1, .int .i64 a10_2], .one (.int .i64 a11)] [] (laws_FnTimesMadeOfAll.sig.ret r) (laws_FnTimesMadeOfAll.sig.bs r) :=
  good_fn tabOk0 mixed0 laws_FnTimesMadeOfAll.sig (laws_FnTimesMadeOfAll.E N) Go.Proofs.Try.func5 (by kernel_rfl) (by kernel_rfl) 133759930352941697707069811290092600440073102432417544965906120868029439264552627808061749137407 0 0 [(60, [0, 1, 2, 8, 9, 11, 16, 17, 18, 19, 22, 25, 26, 83], [16, 17, 18, 19, 22, 25]), (62, [8, 9, 11, 16, 17, 18, 19, 22], [16, 17, 18, 19, 22]), (1002, [8, 9, 11, 16, 17, 18, 19, 22, 115], [16, 17, 18, 19, 22]), (2044, [8, 9, 11, 16, 17, 18, 19, 22, 31, 32, 147], [16, 17, 18, 19, 22, 31]), (2046, [8, 9, 11, 17, 18, 19, 22], [17, 18, 19, 22]), (130990, [8, 9, 11, 17, 18, 19, 22, 193], [17, 18, 19, 22]), (524284, [8, 17, 18, 19, 43, 44, 47, 48, 279], [17, 18, 19, 43, 47]), (524286, [8, 19, 47, 48], [19, 47]), (2097148, [8, 19, 47, 316], [19, 47]), (8388586, [8, 19, 47, 48, 307], [19, 47])] [(false, [.any])] (by kernel_rfl) rfl ((laws_FnTimesMadeOfAll.g.run N a0 a1 a2 a3 a4_0 a4_1 a5_0 a5_1 a6_0 a6_1 a6_2 a7_0 a7_1 a8 a9 a10_0 a10_1 a10_2 a11).trans h)
noncomputable def laws_FnTimesMadeOfAll.ent (N : Nat) : Ent Go.Proofs.Try.prog T0 := mkEnt 5 [(false, [.any]), (false, [.any]), (false, [.any]), (false, [.any]), (true, [.any, .ro 38]), (true, [.any, .ro 38]), (true, [.any, .any, .any]), (true, [.any, .ro 38]), (false, [.any]), (false, [.any]), (true, [.any, .any, .any]), (false, [.any])] laws_FnTimesMadeOfAll.sig (fun t => laws_FnTimesMadeOfAll.g N t.1 t.2.1 t.2.2.1 t.2.2.2.1 t.2.2.2.2.1 t.2.2.2.2.2.1 t.2.2.2.2.2.2.1 t.2.2.2.2.2.2.2.1 t.2.2.2.2.2.2.2.2.1 t.2.2.2.2.2.2.2.2.2.1 t.2.2.2.2.2.2.2.2.2.2.1 t.2.2.2.2.2.2.2.2.2.2.2.1 t.2.2.2.2.2.2.2.2.2.2.2.2.1 t.2.2.2.2.2.2.2.2.2.2.2.2.2.1 t.2.2.2.2.2.2.2.2.2.2.2.2.2.2.1 t.2.2.2.2.2.2.2.2.2.2.2.2.2.2.2.1 t.2.2.2.2.2.2.2.2.2.2.2.2.2.2.2.2.1 t.2.2.2.2.2.2.2.2.2.2.2.2.2.2.2.2.2.1 t.2.2.2.2.2.2.2.2.2.2.2.2.2.2.2.2.2.2) (fun t r h => laws_FnTimesMadeOfAll.good N t.1 t.2.1 t.2.2.1 t.2.2.2.1 t.2.2.2.2.1 t.2.2.2.2.2.1 t.2.2.2.2.2.2.1 t.2.2.2.2.2.2.2.1 t.2.2.2.2.2.2.2.2.1 t.2.2.2.2.2.2.2.2.2.1 t.2.2.2.2.2.2.2.2.2.2.1 t.2.2.2.2.2.2.2.2.2.2.2.1 t.2.2.2.2.2.2.2.2.2.2.2.2.1 t.2.2.2.2.2.2.2.2.2.2.2.2.2.1 t.2.2.2.2.2.2.2.2.2.2.2.2.2.2.1 t.2.2.2.2.2.2.2.2.2.2.2.2.2.2.2.1 t.2.2.2.2.2.2.2.2.2.2.2.2.2.2.2.2.1 t.2.2.2.2.2.2.2.2.2.2.2.2.2.2.2.2.2.1 t.2.2.2.2.2.2.2.2.2.2.2.2.2.2.2.2.2.2 r h)
end Go.Proofs.Ytpeleommbipeaaa.M

namespace Go.Proofs.Ytpeleommbipeaaa.M
open Go Go.PM Go.Proofs.Ytpeleommbipeaaa.P
set_option linter.unusedVariables false
set_option maxRecDepth 100000
def FnTimesMadeOfAll.Pure : Prop := ∀ (y0 : Int) (y1 : Int) (y2 : Int) (y3 : Int) (y4 : Int × (List S38)) (y5 : Int × (List S38)) (y6 : Int × Int × Int) (y7 : Int × (List S38)) (y8 : Int) (y9 : Int) (y10 : Int × Int × Int) (y11 : Int), ((Lit.int .i64 y0).wf = true) → ((Lit.int .i64 y1).wf = true) → ((Lit.int .i64 y2).wf = true) → ((Lit.int .i64 y3).wf = true) → (((Lit.int .i64 y4.1).wf = true) ∧ (y4.2.length ≤ maxLen ∧ y4.2.length * 24 ≤ 140737488351232 ∧ ∀ x ∈ y4.2, ((Lit.int .i64 x.f0).wf = true) ∧ ((Lit.int .i64 x.f1).wf = true) ∧ ((Lit.int .i64 x.f2).wf = true))) → (((Lit.int .i64 y5.1).wf = true) ∧ (y5.2.length ≤ maxLen ∧ y5.2.length * 24 ≤ 140737488351232 ∧ ∀ x ∈ y5.2, ((Lit.int .i64 x.f0).wf = true) ∧ ((Lit.int .i64 x.f1).wf = true) ∧ ((Lit.int .i64 x.f2).wf = true))) → (((Lit.int .i64 y6.1).wf = true) ∧ ((Lit.int .i64 y6.2.1).wf = true) ∧ ((Lit.int .i64 y6.2.2).wf = true)) → (((Lit.int .i64 y7.1).wf = true) ∧ (y7.2.length ≤ maxLen ∧ y7.2.length * 24 ≤ 140737488351232 ∧ ∀ x ∈ y7.2, ((Lit.int .i64 x.f0).wf = true) ∧ ((Lit.int .i64 x.f1).wf = true) ∧ ((Lit.int .i64 x.f2).wf = true))) → ((Lit.int .i64 y8).wf = true) → ((Lit.int .i64 y9).wf = true) → (((Lit.int .i64 y10.1).wf = true) ∧ ((Lit.int .i64 y10.2.1).wf = true) ∧ ((Lit.int .i64 y10.2.2).wf = true)) → ((Lit.int .i64 y11).wf = true) → ∃ N, laws_FnTimesMadeOfAll.g N y0 y1 y2 y3 y4.1 y4.2 y5.1 y5.2 y6.1 y6.2.1 y6.2.2 y7.1 y7.2 y8 y9 y10.1 y10.2.1 y10.2.2 y11 = some true
end Go.Proofs.Ytpeleommbipeaaa.M

namespace Go.Proofs.Ytpeleommbipeaaa.M
open Go Go.PM Go.Proofs.Ytpeleommbipeaaa.P
set_option linter.unusedVariables false
set_option maxRecDepth 100000
/-! ### laws_big -/
abbrev laws_big.R : Type := Bool
abbrev laws_big.sig : Sig := ⟨[(false, 1), (false, 1)], [], [.sl false 5, .sl false 5], [(false, 1)], [], [.bool]⟩
noncomputable def laws_big.C : Cfg D0 := ⟨Go.Proofs.Try.prog, T0, 19, 0, 16, 0, []⟩
noncomputable def laws_big.E (N : Nat) : List (Ent Go.Proofs.Try.prog T0) := []
noncomputable def laws_big.O (N : Nat) : Orc D0 laws_big.R := orcOf (laws_big.E N)
noncomputable def laws_big.K0 : Ex → St D0 → Option laws_big.R := exitK laws_big.C Go.Proofs.Try.f32.results.toList [(false, [.any])] (decOut laws_big.sig)
noncomputable def laws_big.c1 : Code := codeAt (Go.Proofs.Try.f32.body.getD .skip) []
noncomputable def laws_big.o0 (N : Nat) (a0 : List Int) (a1 : List Int) : Option laws_big.R :=
 bif (decide ((a0.length : Int) > 1048576)) then
  some (true)
 else
 some ((decide ((a1.length : Int) > (w64 (1048576 - (a0.length : Int))))))
theorem laws_big.o0.run (N : Nat) (a0 : List Int) (a1 : List Int) : runC laws_big.C (laws_big.O N) N laws_big.c1 1 (st0 [.one (.sl false 5 a0), .one (.sl false 5 a1)] [] : St D0) laws_big.K0 = laws_big.o0 N a0 a1 := by kernel_rfl
noncomputable def laws_big.g (N : Nat) (a0 : List Int) (a1 : List Int) : Option laws_big.R := laws_big.o0 N a0 a1
theorem laws_big.g.run (N : Nat) (a0 : List Int) (a1 : List Int) : runC laws_big.C (laws_big.O N) N laws_big.c1 1 (st0 [.one (.sl false 5 a0), .one (.sl false 5 a1)] [] : St D0) laws_big.K0 = laws_big.g N a0 a1 := by
  exact (laws_big.o0.run N a0 a1).trans rfl
theorem laws_big.good (N : Nat) (a0 : List Int) (a1 : List Int) (r : laws_big.R) (h : laws_big.g N a0 a1 = some r) : Go.PM.Good Go.Proofs.Try.prog T0 32 [.one (.sl false 5 a0), .one (.sl false 5 a1)] [] (laws_big.sig.ret r) (laws_big.sig.bs r) :=
  good_fn tabOk0 mixed0 laws_big.sig (laws_big.E N) Go.Proofs.Try.func32 (by kernel_rfl) (by kernel_rfl) 19 0 0 [] [(false, [.any])] (by kernel_rfl) rfl ((laws_big.g.run N a0 a1).trans h)
noncomputable def laws_big.ent (N : Nat) : Ent Go.Proofs.Try.prog T0 := mkEnt 32 [(false, [.ro 5]), (false, [.ro 5])] laws_big.sig (fun t => laws_big.g N t.1 t.2) (fun t r h => laws_big.good N t.1 t.2 r h)
end Go.Proofs.Ytpeleommbipeaaa.M

namespace Go.Proofs.Ytpeleommbipeaaa.M
open Go Go.PM Go.Proofs.Ytpeleommbipeaaa.P
set_option linter.unusedVariables false
set_option maxRecDepth 100000
/-! ### laws_FnTimesMade -/
abbrev laws_FnTimesMade.R : Type := Bool
abbrev laws_FnTimesMade.sig : Sig := ⟨[(false, 1), (false, 1)], [], [.sl false 5, .sl false 5], [(false, 1)], [], [.bool]⟩
noncomputable def laws_FnTimesMade.C : Cfg D0 := ⟨Go.Proofs.Try.prog, T0, 140257452729766193614888434443320138585886257864859982458649373413655902178955755481231220485654577139, 0, 353, 0, [(252, [1, 5, 6, 7, 9, 10, 85], [9]), (254, [1], []), (4074, [1, 117], []), (16380, [1, 15, 16, 17, 151], [15, 16]), (16382, [1], []), (1048494, [1, 197], []), (33554428, [28, 29, 30, 31, 34, 35, 36, 37, 299], [28, 29, 30, 34, 36]), (33554430, [34, 35, 36, 37], [34, 36]), (134217724, [34, 35, 36, 336], [34, 36]), (536870890, [34, 35, 36, 37, 327], [34, 36])]⟩
noncomputable def laws_FnTimesMade.E (N : Nat) : List (Ent Go.Proofs.Try.prog T0) := [laws_big.ent N, spec_DrawMakePuzzle.ent N, impl_MakePuzzle.ent N, spec_MakePuzzle.ent N, laws_kPuzzle.ent N, impl_Solutions.ent N, impl_IsPuzzle.ent N, laws_kHas.ent N, spec_DrawHarderPuzzle.ent N, impl_HarderPuzzle.ent N, spec_HarderPuzzle.ent N, impl_IsSolved.ent N, impl_NeedlessClues.ent N, laws_kSame.ent N, spec_DrawAddClue.ent N, impl_AddClue.ent N, spec_AddClue.ent N, spec_DrawDropClue.ent N, impl_DropClue.ent N, spec_DropClue.ent N, spec_DrawDoesFit.ent N, impl_DoesFit.ent N, spec_DoesFit.ent N, impl_IsClue.ent N, spec_IsClue.ent N]
noncomputable def laws_FnTimesMade.O (N : Nat) : Orc D0 laws_FnTimesMade.R := orcOf (laws_FnTimesMade.E N)
noncomputable def laws_FnTimesMade.K0 : Ex → St D0 → Option laws_FnTimesMade.R := exitK laws_FnTimesMade.C Go.Proofs.Try.f6.results.toList [(false, [.any])] (decOut laws_FnTimesMade.sig)
noncomputable def laws_FnTimesMade.c1 : Code := codeAt (Go.Proofs.Try.f6.body.getD .skip) []
noncomputable def laws_FnTimesMade.c2 : Code := codeAt (Go.Proofs.Try.f6.body.getD .skip) [false]
noncomputable def laws_FnTimesMade.c6 : Code := codeAt (Go.Proofs.Try.f6.body.getD .skip) [true, false]
noncomputable def laws_FnTimesMade.c14 : Code := codeAt (Go.Proofs.Try.f6.body.getD .skip) [true, true, false]
noncomputable def laws_FnTimesMade.c30 : Code := codeAt (Go.Proofs.Try.f6.body.getD .skip) [true, true, true, false]
noncomputable def laws_FnTimesMade.c62 : Code := codeAt (Go.Proofs.Try.f6.body.getD .skip) [true, true, true, true, false]
noncomputable def laws_FnTimesMade.c127 : Code := codeAt (Go.Proofs.Try.f6.body.getD .skip) [true, true, true, true, true, true]
noncomputable def laws_FnTimesMade.c252 : Code := codeAt (Go.Proofs.Try.f6.body.getD .skip) [true, true, true, true, true, false, false]
noncomputable def laws_FnTimesMade.c253 : Code := codeAt (Go.Proofs.Try.f6.body.getD .skip) [true, true, true, true, true, false, true]
noncomputable def laws_FnTimesMade.c255 : Code := codeAt (Go.Proofs.Try.f6.body.getD .skip) [true, true, true, true, true, true, true]
noncomputable def laws_FnTimesMade.c508 : Code := codeAt (Go.Proofs.Try.f6.body.getD .skip) [true, true, true, true, true, true, false, false]
noncomputable def laws_FnTimesMade.c510 : Code := codeAt (Go.Proofs.Try.f6.body.getD .skip) [true, true, true, true, true, true, true, false]
noncomputable def laws_FnTimesMade.c1019 : Code := codeAt (Go.Proofs.Try.f6.body.getD .skip) [true, true, true, true, true, true, false, true, true]
noncomputable def laws_FnTimesMade.c1022 : Code := codeAt (Go.Proofs.Try.f6.body.getD .skip) [true, true, true, true, true, true, true, true, false]
noncomputable def laws_FnTimesMade.c2036 : Code := codeAt (Go.Proofs.Try.f6.body.getD .skip) [true, true, true, true, true, true, false, true, false, false]
noncomputable def laws_FnTimesMade.c2046 : Code := codeAt (Go.Proofs.Try.f6.body.getD .skip) [true, true, true, true, true, true, true, true, true, false]
noncomputable def laws_FnTimesMade.c4074 : Code := codeAt (Go.Proofs.Try.f6.body.getD .skip) [true, true, true, true, true, true, false, true, false, true, false]
noncomputable def laws_FnTimesMade.c4075 : Code := codeAt (Go.Proofs.Try.f6.body.getD .skip) [true, true, true, true, true, true, false, true, false, true, true]
noncomputable def laws_FnTimesMade.c4094 : Code := codeAt (Go.Proofs.Try.f6.body.getD .skip) [true, true, true, true, true, true, true, true, true, true, false]
noncomputable def laws_FnTimesMade.c8191 : Code := codeAt (Go.Proofs.Try.f6.body.getD .skip) [true, true, true, true, true, true, true, true, true, true, true, true]
noncomputable def laws_FnTimesMade.c16380 : Code := codeAt (Go.Proofs.Try.f6.body.getD .skip) [true, true, true, true, true, true, true, true, true, true, true, false, false]
noncomputable def laws_FnTimesMade.c16381 : Code := codeAt (Go.Proofs.Try.f6.body.getD .skip) [true, true, true, true, true, true, true, true, true, true, true, false, true]
noncomputable def laws_FnTimesMade.c16383 : Code := codeAt (Go.Proofs.Try.f6.body.getD .skip) [true, true, true, true, true, true, true, true, true, true, true, true, true]
noncomputable def laws_FnTimesMade.c32764 : Code := codeAt (Go.Proofs.Try.f6.body.getD .skip) [true, true, true, true, true, true, true, true, true, true, true, true, false, false]
noncomputable def laws_FnTimesMade.c32766 : Code := codeAt (Go.Proofs.Try.f6.body.getD .skip) [true, true, true, true, true, true, true, true, true, true, true, true, true, false]
noncomputable def laws_FnTimesMade.c65531 : Code := codeAt (Go.Proofs.Try.f6.body.getD .skip) [true, true, true, true, true, true, true, true, true, true, true, true, false, true, true]
noncomputable def laws_FnTimesMade.c65534 : Code := codeAt (Go.Proofs.Try.f6.body.getD .skip) [true, true, true, true, true, true, true, true, true, true, true, true, true, true, false]
noncomputable def laws_FnTimesMade.c131060 : Code := codeAt (Go.Proofs.Try.f6.body.getD .skip) [true, true, true, true, true, true, true, true, true, true, true, true, false, true, false, false]
noncomputable def laws_FnTimesMade.c131070 : Code := codeAt (Go.Proofs.Try.f6.body.getD .skip) [true, true, true, true, true, true, true, true, true, true, true, true, true, true, true, false]
noncomputable def laws_FnTimesMade.c262122 : Code := codeAt (Go.Proofs.Try.f6.body.getD .skip) [true, true, true, true, true, true, true, true, true, true, true, true, false, true, false, true, false]
noncomputable def laws_FnTimesMade.c262142 : Code := codeAt (Go.Proofs.Try.f6.body.getD .skip) [true, true, true, true, true, true, true, true, true, true, true, true, true, true, true, true, false]
noncomputable def laws_FnTimesMade.c524246 : Code := codeAt (Go.Proofs.Try.f6.body.getD .skip) [true, true, true, true, true, true, true, true, true, true, true, true, false, true, false, true, true, false]
noncomputable def laws_FnTimesMade.c524286 : Code := codeAt (Go.Proofs.Try.f6.body.getD .skip) [true, true, true, true, true, true, true, true, true, true, true, true, true, true, true, true, true, false]
noncomputable def laws_FnTimesMade.c1048494 : Code := codeAt (Go.Proofs.Try.f6.body.getD .skip) [true, true, true, true, true, true, true, true, true, true, true, true, false, true, false, true, true, true, false]
noncomputable def laws_FnTimesMade.c1048495 : Code := codeAt (Go.Proofs.Try.f6.body.getD .skip) [true, true, true, true, true, true, true, true, true, true, true, true, false, true, false, true, true, true, true]
noncomputable def laws_FnTimesMade.c1048574 : Code := codeAt (Go.Proofs.Try.f6.body.getD .skip) [true, true, true, true, true, true, true, true, true, true, true, true, true, true, true, true, true, true, false]
noncomputable def laws_FnTimesMade.c2097150 : Code := codeAt (Go.Proofs.Try.f6.body.getD .skip) [true, true, true, true, true, true, true, true, true, true, true, true, true, true, true, true, true, true, true, false]
noncomputable def laws_FnTimesMade.c4194302 : Code := codeAt (Go.Proofs.Try.f6.body.getD .skip) [true, true, true, true, true, true, true, true, true, true, true, true, true, true, true, true, true, true, true, true, false]
noncomputable def laws_FnTimesMade.c8388606 : Code := codeAt (Go.Proofs.Try.f6.body.getD .skip) [true, true, true, true, true, true, true, true, true, true, true, true, true, true, true, true, true, true, true, true, true, false]
noncomputable def laws_FnTimesMade.c16777215 : Code := codeAt (Go.Proofs.Try.f6.body.getD .skip) [true, true, true, true, true, true, true, true, true, true, true, true, true, true, true, true, true, true, true, true, true, true, true]
noncomputable def laws_FnTimesMade.c33554428 : Code := codeAt (Go.Proofs.Try.f6.body.getD .skip) [true, true, true, true, true, true, true, true, true, true, true, true, true, true, true, true, true, true, true, true, true, true, false, false]
noncomputable def laws_FnTimesMade.c33554429 : Code := codeAt (Go.Proofs.Try.f6.body.getD .skip) [true, true, true, true, true, true, true, true, true, true, true, true, true, true, true, true, true, true, true, true, true, true, false, true]
noncomputable def laws_FnTimesMade.c33554431 : Code := codeAt (Go.Proofs.Try.f6.body.getD .skip) [true, true, true, true, true, true, true, true, true, true, true, true, true, true, true, true, true, true, true, true, true, true, true, true]
noncomputable def laws_FnTimesMade.c67108860 : Code := codeAt (Go.Proofs.Try.f6.body.getD .skip) [true, true, true, true, true, true, true, true, true, true, true, true, true, true, true, true, true, true, true, true, true, true, true, false, false]
noncomputable def laws_FnTimesMade.c67108863 : Code := codeAt (Go.Proofs.Try.f6.body.getD .skip) [true, true, true, true, true, true, true, true, true, true, true, true, true, true, true, true, true, true, true, true, true, true, true, true, true]
noncomputable def laws_FnTimesMade.c134217723 : Code := codeAt (Go.Proofs.Try.f6.body.getD .skip) [true, true, true, true, true, true, true, true, true, true, true, true, true, true, true, true, true, true, true, true, true, true, true, false, true, true]
noncomputable def laws_FnTimesMade.c134217724 : Code := codeAt (Go.Proofs.Try.f6.body.getD .skip) [true, true, true, true, true, true, true, true, true, true, true, true, true, true, true, true, true, true, true, true, true, true, true, true, false, false]
noncomputable def laws_FnTimesMade.c134217725 : Code := codeAt (Go.Proofs.Try.f6.body.getD .skip) [true, true, true, true, true, true, true, true, true, true, true, true, true, true, true, true, true, true, true, true, true, true, true, true, false, true]
noncomputable def laws_FnTimesMade.c268435444 : Code := codeAt (Go.Proofs.Try.f6.body.getD .skip) [true, true, true, true, true, true, true, true, true, true, true, true, true, true, true, true, true, true, true, true, true, true, true, false, true, false, false]
noncomputable def laws_FnTimesMade.c536870890 : Code := codeAt (Go.Proofs.Try.f6.body.getD .skip) [true, true, true, true, true, true, true, true, true, true, true, true, true, true, true, true, true, true, true, true, true, true, true, false, true, false, true, false]
noncomputable def laws_FnTimesMade.c536870891 : Code := codeAt (Go.Proofs.Try.f6.body.getD .skip) [true, true, true, true, true, true, true, true, true, true, true, true, true, true, true, true, true, true, true, true, true, true, true, false, true, false, true, true]
noncomputable def laws_FnTimesMade.K134217725 (N : Nat) : Ex → St D0 → Option laws_FnTimesMade.R := (onN (fun s => laws_FnTimesMade.C.tidy 67108862 s (fun s' => runC laws_FnTimesMade.C (laws_FnTimesMade.O N) N laws_FnTimesMade.c67108863 67108863 s' laws_FnTimesMade.K0)) laws_FnTimesMade.K0)
noncomputable def laws_FnTimesMade.o10 (N : Nat) (v0 : Int) (v1 : Bool) (v2 : Int) (v3 : List S38) (v4 : Int) (v5 : List S38) : Option laws_FnTimesMade.R :=
 bif v1 then
  bif (decide (0 ≤ v0)) then
   bif (decide (v0 < (v3.length : Int))) then
    (v3[(v0 : Int).toNat]?).bind fun x1 =>
    (impl_AddClue.g N v4 v5 x1.f0 x1.f1 x1.f2).bind fun r2 =>
    bif r2.2.2 then
     (laws_kPuzzle.g N r2.1 r2.2.1 v2 v3).bind fun r3 =>
     some (r3)
    else
    some (false)
   else
   none
  else
  none
 else
 some (true)
theorem laws_FnTimesMade.o10.run (N : Nat) (v0 : Int) (v1 : Bool) (v2 : Int) (v3 : List S38) (v4 : Int) (v5 : List S38) : runC laws_FnTimesMade.C (laws_FnTimesMade.O N) N laws_FnTimesMade.c134217725 134217725 (mkSt [(34, .one (.ptr 34 0)), (35, .one (.int .i64 v0)), (36, .one (.ptr 36 0)), (336, .one (.bool v1))] [(34, some (24, [.int .i64 v2, .sl true 38 v3])), (36, some (24, [.int .i64 v4, .sl false 38 v5]))] : St D0) (onN (fun s => laws_FnTimesMade.C.tidy 67108862 s (fun s' => runC laws_FnTimesMade.C (laws_FnTimesMade.O N) N laws_FnTimesMade.c67108863 67108863 s' laws_FnTimesMade.K0)) laws_FnTimesMade.K0) = laws_FnTimesMade.o10 N v0 v1 v2 v3 v4 v5 := by kernel_rfl
noncomputable def laws_FnTimesMade.d10 (N : Nat) (v0 : Int) (v1 : Bool) (v2 : Int) (v3 : List S38) (v4 : Int) (v5 : List S38) : Option laws_FnTimesMade.R := laws_FnTimesMade.o10 N v0 v1 v2 v3 v4 v5
theorem laws_FnTimesMade.d10.run (N : Nat) (v0 : Int) (v1 : Bool) (v2 : Int) (v3 : List S38) (v4 : Int) (v5 : List S38) : runC laws_FnTimesMade.C (laws_FnTimesMade.O N) N laws_FnTimesMade.c134217725 134217725 (mkSt [(34, .one (.ptr 34 0)), (35, .one (.int .i64 v0)), (36, .one (.ptr 36 0)), (336, .one (.bool v1))] [(34, some (24, [.int .i64 v2, .sl true 38 v3])), (36, some (24, [.int .i64 v4, .sl false 38 v5]))] : St D0) (laws_FnTimesMade.K134217725 N) = laws_FnTimesMade.d10 N v0 v1 v2 v3 v4 v5 := by
  exact (laws_FnTimesMade.o10.run N v0 v1 v2 v3 v4 v5).trans rfl
noncomputable def laws_FnTimesMade.K33554431 (N : Nat) : Ex → St D0 → Option laws_FnTimesMade.R := laws_FnTimesMade.K0
noncomputable def laws_FnTimesMade.o9 (N : Nat) (v0 : Int) (v1 : Bool) (v2 : Int) (v3 : List S38) (v4 : Int) (v5 : List S38) (c10 : Int → Bool → Int → (List S38) → Int → (List S38) → Option laws_FnTimesMade.R) : Option laws_FnTimesMade.R :=
 bif v1 then
  c10 v0 (v0 == (w64 ((v3.length : Int) - 1))) v2 v3 v4 v5
 else
 c10 v0 false v2 v3 v4 v5
theorem laws_FnTimesMade.o9.run (N : Nat) (H134217725 : Code) (v0 : Int) (v1 : Bool) (v2 : Int) (v3 : List S38) (v4 : Int) (v5 : List S38) : runC laws_FnTimesMade.C (laws_FnTimesMade.O N) N (.seq (.seq laws_FnTimesMade.c134217724 H134217725) laws_FnTimesMade.c67108863) 33554431 (mkSt [(34, .one (.ptr 34 0)), (35, .one (.int .i64 v0)), (36, .one (.ptr 36 0)), (37, .one (.bool v1))] [(34, some (24, [.int .i64 v2, .sl true 38 v3])), (36, some (24, [.int .i64 v4, .sl false 38 v5]))] : St D0) laws_FnTimesMade.K0 = laws_FnTimesMade.o9 N v0 v1 v2 v3 v4 v5 ((fun w0 w1 w2 w3 w4 w5 => runC laws_FnTimesMade.C (laws_FnTimesMade.O N) N H134217725 134217725 (mkSt [(34, .one (.ptr 34 0)), (35, .one (.int .i64 w0)), (36, .one (.ptr 36 0)), (336, .one (.bool w1))] [(34, some (24, [.int .i64 w2, .sl true 38 w3])), (36, some (24, [.int .i64 w4, .sl false 38 w5]))] : St D0) (onN (fun s => laws_FnTimesMade.C.tidy 67108862 s (fun s' => runC laws_FnTimesMade.C (laws_FnTimesMade.O N) N laws_FnTimesMade.c67108863 67108863 s' laws_FnTimesMade.K0)) laws_FnTimesMade.K0))) := by kernel_rfl
noncomputable def laws_FnTimesMade.B67108862 (N : Nat) : St D0 → Option laws_FnTimesMade.R := fun s' => runC laws_FnTimesMade.C (laws_FnTimesMade.O N) N laws_FnTimesMade.c134217725 134217725 s' (laws_FnTimesMade.K134217725 N)
noncomputable def laws_FnTimesMade.d9 (N : Nat) (v0 : Int) (v1 : Bool) (v2 : Int) (v3 : List S38) (v4 : Int) (v5 : List S38) : Option laws_FnTimesMade.R := laws_FnTimesMade.o9 N v0 v1 v2 v3 v4 v5 ((fun w0 w1 w2 w3 w4 w5 => laws_FnTimesMade.d10 N w0 w1 w2 w3 w4 w5))
theorem laws_FnTimesMade.c33554431_9 : laws_FnTimesMade.c33554431 = (.seq (.seq laws_FnTimesMade.c134217724 laws_FnTimesMade.c134217725) laws_FnTimesMade.c67108863) := by kernel_rfl
theorem laws_FnTimesMade.d9.run (N : Nat) (v0 : Int) (v1 : Bool) (v2 : Int) (v3 : List S38) (v4 : Int) (v5 : List S38) : runC laws_FnTimesMade.C (laws_FnTimesMade.O N) N laws_FnTimesMade.c33554431 33554431 (mkSt [(34, .one (.ptr 34 0)), (35, .one (.int .i64 v0)), (36, .one (.ptr 36 0)), (37, .one (.bool v1))] [(34, some (24, [.int .i64 v2, .sl true 38 v3])), (36, some (24, [.int .i64 v4, .sl false 38 v5]))] : St D0) (laws_FnTimesMade.K33554431 N) = laws_FnTimesMade.d9 N v0 v1 v2 v3 v4 v5 := by
  rw [laws_FnTimesMade.c33554431_9]; unfold laws_FnTimesMade.d9; exact (laws_FnTimesMade.o9.run N laws_FnTimesMade.c134217725 v0 v1 v2 v3 v4 v5).trans (congr rfl (funext fun w0 => funext fun w1 => funext fun w2 => funext fun w3 => funext fun w4 => funext fun w5 => laws_FnTimesMade.d10.run N w0 w1 w2 w3 w4 w5))
noncomputable def laws_FnTimesMade.B16777215 (N : Nat) : St D0 → Option laws_FnTimesMade.R := fun s' => runC laws_FnTimesMade.C (laws_FnTimesMade.O N) N laws_FnTimesMade.c33554431 33554431 s' (laws_FnTimesMade.K33554431 N)
noncomputable def laws_FnTimesMade.K536870891 (N : Nat) : Ex → St D0 → Option laws_FnTimesMade.R := (onN (fun s => laws_FnTimesMade.C.tidy 33554430 s (laws_FnTimesMade.B16777215 N)) laws_FnTimesMade.K0)
noncomputable def laws_FnTimesMade.o8 (N : Nat) (v0 : Int) (v1 : Bool) (v2 : Bool) (v3 : Int) (v4 : List S38) (v5 : Int) (v6 : List S38) (c9 : Int → Bool → Int → (List S38) → Int → (List S38) → Option laws_FnTimesMade.R) : Option laws_FnTimesMade.R :=
 bif v2 then
  some (false)
 else
 c9 v0 v1 v3 v4 v5 v6
theorem laws_FnTimesMade.o8.run (N : Nat) (Kb16777215 : St D0 → Option laws_FnTimesMade.R) (v0 : Int) (v1 : Bool) (v2 : Bool) (v3 : Int) (v4 : List S38) (v5 : Int) (v6 : List S38) : runC laws_FnTimesMade.C (laws_FnTimesMade.O N) N laws_FnTimesMade.c536870891 536870891 (mkSt [(34, .one (.ptr 34 0)), (35, .one (.int .i64 v0)), (36, .one (.ptr 36 0)), (37, .one (.bool v1)), (327, .one (.bool v2))] [(34, some (24, [.int .i64 v3, .sl true 38 v4])), (36, some (24, [.int .i64 v5, .sl false 38 v6]))] : St D0) (onN (fun s => laws_FnTimesMade.C.tidy 33554430 s Kb16777215) laws_FnTimesMade.K0) = laws_FnTimesMade.o8 N v0 v1 v2 v3 v4 v5 v6 ((fun w0 w1 w2 w3 w4 w5 => Kb16777215 (mkSt [(34, .one (.ptr 34 0)), (35, .one (.int .i64 w0)), (36, .one (.ptr 36 0)), (37, .one (.bool w1))] [(34, some (24, [.int .i64 w2, .sl true 38 w3])), (36, some (24, [.int .i64 w4, .sl false 38 w5]))] : St D0))) := by kernel_rfl
noncomputable def laws_FnTimesMade.d8 (N : Nat) (v0 : Int) (v1 : Bool) (v2 : Bool) (v3 : Int) (v4 : List S38) (v5 : Int) (v6 : List S38) : Option laws_FnTimesMade.R := laws_FnTimesMade.o8 N v0 v1 v2 v3 v4 v5 v6 ((fun w0 w1 w2 w3 w4 w5 => laws_FnTimesMade.d9 N w0 w1 w2 w3 w4 w5))
theorem laws_FnTimesMade.d8.run (N : Nat) (v0 : Int) (v1 : Bool) (v2 : Bool) (v3 : Int) (v4 : List S38) (v5 : Int) (v6 : List S38) : runC laws_FnTimesMade.C (laws_FnTimesMade.O N) N laws_FnTimesMade.c536870891 536870891 (mkSt [(34, .one (.ptr 34 0)), (35, .one (.int .i64 v0)), (36, .one (.ptr 36 0)), (37, .one (.bool v1)), (327, .one (.bool v2))] [(34, some (24, [.int .i64 v3, .sl true 38 v4])), (36, some (24, [.int .i64 v5, .sl false 38 v6]))] : St D0) (laws_FnTimesMade.K536870891 N) = laws_FnTimesMade.d8 N v0 v1 v2 v3 v4 v5 v6 := by
  unfold laws_FnTimesMade.d8; exact (laws_FnTimesMade.o8.run N (laws_FnTimesMade.B16777215 N) v0 v1 v2 v3 v4 v5 v6).trans (congr rfl (funext fun w0 => funext fun w1 => funext fun w2 => funext fun w3 => funext fun w4 => funext fun w5 => laws_FnTimesMade.d9.run N w0 w1 w2 w3 w4 w5))
noncomputable def laws_FnTimesMade.K33554429 (N : Nat) : Ex → St D0 → Option laws_FnTimesMade.R := (onN (fun s => laws_FnTimesMade.C.tidy 16777214 s (fun s' => runC laws_FnTimesMade.C (laws_FnTimesMade.O N) N laws_FnTimesMade.c16777215 16777215 s' laws_FnTimesMade.K0)) laws_FnTimesMade.K0)
noncomputable def laws_FnTimesMade.o7 (N : Nat) (v0 : Bool) (v1 : Int) (v2 : Bool) (v3 : Bool) (v4 : Int) (v5 : List S38) (v6 : Int) (v7 : Int) (v8 : Int) (v9 : Int) (v10 : List S38) (v11 : Int) (v12 : List S38) (v13 : Int) (v14 : List S38) (c8 : Int → Bool → Bool → Int → (List S38) → Int → (List S38) → Option laws_FnTimesMade.R) (c9 : Int → Bool → Int → (List S38) → Int → (List S38) → Option laws_FnTimesMade.R) : Option laws_FnTimesMade.R :=
 bif v3 then
  some (false)
 else
 bif v0 then
  (impl_DropClue.g N v9 v10 (v5.length : Int)).bind fun r1 =>
  bif (!r1.2.2) then
   c8 v1 v2 true v11 v12 v13 v14
  else
  (laws_kPuzzle.g N r1.1 r1.2.1 v4 v5).bind fun r2 =>
  bif (!r2) then
   c8 v1 v2 true v11 v12 v13 v14
  else
  bif (decide (0 ≤ (v5.length : Int))) then
   bif (decide ((v5.length : Int) < (v10.length : Int))) then
    (v10[((v5.length : Int) : Int).toNat]?).bind fun x3 =>
    c8 v1 v2 (!((x3.f0 == v6) && ((x3.f1 == v7) && ((x3.f2 == v8) && true)))) v11 v12 v13 v14
   else
   none
  else
  none
 else
 c9 v1 v2 v11 v12 v13 v14
theorem laws_FnTimesMade.o7.run (N : Nat) (H33554431 : Code) (H536870891 : Code) (v0 : Bool) (v1 : Int) (v2 : Bool) (v3 : Bool) (v4 : Int) (v5 : List S38) (v6 : Int) (v7 : Int) (v8 : Int) (v9 : Int) (v10 : List S38) (v11 : Int) (v12 : List S38) (v13 : Int) (v14 : List S38) : runC laws_FnTimesMade.C (laws_FnTimesMade.O N) N laws_FnTimesMade.c33554429 33554429 (mkSt [(28, .one (.ptr 28 0)), (29, .one (.ptr 29 0)), (30, .one (.ptr 30 0)), (31, .one (.bool v0)), (34, .one (.ptr 34 0)), (35, .one (.int .i64 v1)), (36, .one (.ptr 36 0)), (37, .one (.bool v2)), (299, .one (.bool v3))] [(28, some (24, [.int .i64 v4, .sl true 38 v5])), (29, some (38, [.int .i64 v6, .int .i64 v7, .int .i64 v8])), (30, some (24, [.int .i64 v9, .sl false 38 v10])), (34, some (24, [.int .i64 v11, .sl true 38 v12])), (36, some (24, [.int .i64 v13, .sl false 38 v14]))] : St D0) (onN (fun s => laws_FnTimesMade.C.tidy 16777214 s (fun s' => runC laws_FnTimesMade.C (laws_FnTimesMade.O N) N (.seq (.seq laws_FnTimesMade.c67108860 (.cond (.tmp 300) (.seq laws_FnTimesMade.c268435444 (.seq laws_FnTimesMade.c536870890 H536870891)) laws_FnTimesMade.c134217723)) H33554431) 16777215 s' laws_FnTimesMade.K0)) laws_FnTimesMade.K0) = laws_FnTimesMade.o7 N v0 v1 v2 v3 v4 v5 v6 v7 v8 v9 v10 v11 v12 v13 v14 ((fun w0 w1 w2 w3 w4 w5 w6 => runC laws_FnTimesMade.C (laws_FnTimesMade.O N) N H536870891 536870891 (mkSt [(34, .one (.ptr 34 0)), (35, .one (.int .i64 w0)), (36, .one (.ptr 36 0)), (37, .one (.bool w1)), (327, .one (.bool w2))] [(34, some (24, [.int .i64 w3, .sl true 38 w4])), (36, some (24, [.int .i64 w5, .sl false 38 w6]))] : St D0) (onN (fun s => laws_FnTimesMade.C.tidy 33554430 s (fun s' => runC laws_FnTimesMade.C (laws_FnTimesMade.O N) N H33554431 33554431 s' laws_FnTimesMade.K0)) laws_FnTimesMade.K0))) ((fun w0 w1 w2 w3 w4 w5 => runC laws_FnTimesMade.C (laws_FnTimesMade.O N) N H33554431 33554431 (mkSt [(34, .one (.ptr 34 0)), (35, .one (.int .i64 w0)), (36, .one (.ptr 36 0)), (37, .one (.bool w1))] [(34, some (24, [.int .i64 w2, .sl true 38 w3])), (36, some (24, [.int .i64 w4, .sl false 38 w5]))] : St D0) laws_FnTimesMade.K0)) := by kernel_rfl
noncomputable def laws_FnTimesMade.B268435445 (N : Nat) : St D0 → Option laws_FnTimesMade.R := fun s' => runC laws_FnTimesMade.C (laws_FnTimesMade.O N) N laws_FnTimesMade.c536870891 536870891 s' (laws_FnTimesMade.K536870891 N)
noncomputable def laws_FnTimesMade.d7 (N : Nat) (v0 : Bool) (v1 : Int) (v2 : Bool) (v3 : Bool) (v4 : Int) (v5 : List S38) (v6 : Int) (v7 : Int) (v8 : Int) (v9 : Int) (v10 : List S38) (v11 : Int) (v12 : List S38) (v13 : Int) (v14 : List S38) : Option laws_FnTimesMade.R := laws_FnTimesMade.o7 N v0 v1 v2 v3 v4 v5 v6 v7 v8 v9 v10 v11 v12 v13 v14 ((fun w0 w1 w2 w3 w4 w5 w6 => laws_FnTimesMade.d8 N w0 w1 w2 w3 w4 w5 w6)) ((fun w0 w1 w2 w3 w4 w5 => laws_FnTimesMade.d9 N w0 w1 w2 w3 w4 w5))
theorem laws_FnTimesMade.d7.run (N : Nat) (v0 : Bool) (v1 : Int) (v2 : Bool) (v3 : Bool) (v4 : Int) (v5 : List S38) (v6 : Int) (v7 : Int) (v8 : Int) (v9 : Int) (v10 : List S38) (v11 : Int) (v12 : List S38) (v13 : Int) (v14 : List S38) : runC laws_FnTimesMade.C (laws_FnTimesMade.O N) N laws_FnTimesMade.c33554429 33554429 (mkSt [(28, .one (.ptr 28 0)), (29, .one (.ptr 29 0)), (30, .one (.ptr 30 0)), (31, .one (.bool v0)), (34, .one (.ptr 34 0)), (35, .one (.int .i64 v1)), (36, .one (.ptr 36 0)), (37, .one (.bool v2)), (299, .one (.bool v3))] [(28, some (24, [.int .i64 v4, .sl true 38 v5])), (29, some (38, [.int .i64 v6, .int .i64 v7, .int .i64 v8])), (30, some (24, [.int .i64 v9, .sl false 38 v10])), (34, some (24, [.int .i64 v11, .sl true 38 v12])), (36, some (24, [.int .i64 v13, .sl false 38 v14]))] : St D0) (laws_FnTimesMade.K33554429 N) = laws_FnTimesMade.d7 N v0 v1 v2 v3 v4 v5 v6 v7 v8 v9 v10 v11 v12 v13 v14 := by
  unfold laws_FnTimesMade.d7; exact (laws_FnTimesMade.o7.run N laws_FnTimesMade.c33554431 laws_FnTimesMade.c536870891 v0 v1 v2 v3 v4 v5 v6 v7 v8 v9 v10 v11 v12 v13 v14).trans (congr (congr rfl (funext fun w0 => funext fun w1 => funext fun w2 => funext fun w3 => funext fun w4 => funext fun w5 => funext fun w6 => laws_FnTimesMade.d8.run N w0 w1 w2 w3 w4 w5 w6)) (funext fun w0 => funext fun w1 => funext fun w2 => funext fun w3 => funext fun w4 => funext fun w5 => laws_FnTimesMade.d9.run N w0 w1 w2 w3 w4 w5))
noncomputable def laws_FnTimesMade.K16383 (N : Nat) : Ex → St D0 → Option laws_FnTimesMade.R := laws_FnTimesMade.K0
noncomputable def laws_FnTimesMade.o6 (N : Nat) (v0 : List Int) (c7 : Bool → Int → Bool → Bool → Int → (List S38) → Int → Int → Int → Int → (List S38) → Int → (List S38) → Int → (List S38) → Option laws_FnTimesMade.R) : Option laws_FnTimesMade.R :=
 (spec_DrawAddClue.g N v0).bind fun r1 =>
 (impl_AddClue.g N r1.1 r1.2.1 r1.2.2.1 r1.2.2.2.1 r1.2.2.2.2).bind fun r2 =>
 (spec_AddClue.g N r1.1 r1.2.1 r1.2.2.1 r1.2.2.2.1 r1.2.2.2.2).bind fun r3 =>
 (spec_DrawDropClue.g N v0).bind fun r4 =>
 (impl_DropClue.g N r4.1 r4.2.1 r4.2.2).bind fun r5 =>
 (spec_DropClue.g N r4.1 r4.2.1 r4.2.2).bind fun r6 =>
 (spec_DrawDoesFit.g N v0).bind fun r7 =>
 (impl_DoesFit.g N r7.1 r7.2.1 r7.2.2.1 r7.2.2.2.1 r7.2.2.2.2).bind fun r8 =>
 (spec_DoesFit.g N r7.1 r7.2.1 r7.2.2.1 r7.2.2.2.1 r7.2.2.2.2).bind fun r9 =>
 bif (!(r2.2.2 == r3.2.2)) then
  c7 r2.2.2 r4.2.2 r5.2.2 true r1.1 r1.2.1 r1.2.2.1 r1.2.2.2.1 r1.2.2.2.2 r2.1 r2.2.1 r4.1 r4.2.1 r5.1 r5.2.1
 else
 (laws_kPuzzle.g N r2.1 r2.2.1 r3.1 r3.2.1).bind fun r10 =>
 bif (!r10) then
  c7 r2.2.2 r4.2.2 r5.2.2 true r1.1 r1.2.1 r1.2.2.1 r1.2.2.2.1 r1.2.2.2.2 r2.1 r2.2.1 r4.1 r4.2.1 r5.1 r5.2.1
 else
 bif (!(r5.2.2 == r6.2.2)) then
  c7 r2.2.2 r4.2.2 r5.2.2 true r1.1 r1.2.1 r1.2.2.1 r1.2.2.2.1 r1.2.2.2.2 r2.1 r2.2.1 r4.1 r4.2.1 r5.1 r5.2.1
 else
 (laws_kPuzzle.g N r5.1 r5.2.1 r6.1 r6.2.1).bind fun r11 =>
 bif (!r11) then
  c7 r2.2.2 r4.2.2 r5.2.2 true r1.1 r1.2.1 r1.2.2.1 r1.2.2.2.1 r1.2.2.2.2 r2.1 r2.2.1 r4.1 r4.2.1 r5.1 r5.2.1
 else
 bif (!(r8.2 == r9.2)) then
  c7 r2.2.2 r4.2.2 r5.2.2 true r1.1 r1.2.1 r1.2.2.1 r1.2.2.2.1 r1.2.2.2.2 r2.1 r2.2.1 r4.1 r4.2.1 r5.1 r5.2.1
 else
 bif (!(r8.1 == r9.1)) then
  c7 r2.2.2 r4.2.2 r5.2.2 true r1.1 r1.2.1 r1.2.2.1 r1.2.2.2.1 r1.2.2.2.2 r2.1 r2.2.1 r4.1 r4.2.1 r5.1 r5.2.1
 else
 (impl_IsClue.g N r7.1 r7.2.1 r7.2.2.1 r7.2.2.2.1).bind fun r12 =>
 (spec_IsClue.g N r7.1 r7.2.1 r7.2.2.1 r7.2.2.2.1).bind fun r13 =>
 bif (!(r12 == r13)) then
  c7 r2.2.2 r4.2.2 r5.2.2 true r1.1 r1.2.1 r1.2.2.1 r1.2.2.2.1 r1.2.2.2.2 r2.1 r2.2.1 r4.1 r4.2.1 r5.1 r5.2.1
 else
 bif r8.2 then
  (impl_IsClue.g N r7.1 r7.2.1 r7.2.2.1 r7.2.2.2.1).bind fun r14 =>
  c7 r2.2.2 r4.2.2 r5.2.2 (!r14) r1.1 r1.2.1 r1.2.2.1 r1.2.2.2.1 r1.2.2.2.2 r2.1 r2.2.1 r4.1 r4.2.1 r5.1 r5.2.1
 else
 c7 r2.2.2 r4.2.2 r5.2.2 false r1.1 r1.2.1 r1.2.2.1 r1.2.2.2.1 r1.2.2.2.2 r2.1 r2.2.1 r4.1 r4.2.1 r5.1 r5.2.1
theorem laws_FnTimesMade.o6.run (N : Nat) (H33554429 : Code) (v0 : List Int) : runC laws_FnTimesMade.C (laws_FnTimesMade.O N) N (.seq laws_FnTimesMade.c32766 (.seq laws_FnTimesMade.c65534 (.seq laws_FnTimesMade.c131070 (.seq laws_FnTimesMade.c262142 (.seq laws_FnTimesMade.c524286 (.seq laws_FnTimesMade.c1048574 (.seq laws_FnTimesMade.c2097150 (.seq laws_FnTimesMade.c4194302 (.seq laws_FnTimesMade.c8388606 (.seq (.seq laws_FnTimesMade.c33554428 H33554429) laws_FnTimesMade.c16777215)))))))))) 16383 (mkSt [(1, .one (.sl false 5 v0))] [] : St D0) laws_FnTimesMade.K0 = laws_FnTimesMade.o6 N v0 ((fun w0 w1 w2 w3 w4 w5 w6 w7 w8 w9 w10 w11 w12 w13 w14 => runC laws_FnTimesMade.C (laws_FnTimesMade.O N) N H33554429 33554429 (mkSt [(28, .one (.ptr 28 0)), (29, .one (.ptr 29 0)), (30, .one (.ptr 30 0)), (31, .one (.bool w0)), (34, .one (.ptr 34 0)), (35, .one (.int .i64 w1)), (36, .one (.ptr 36 0)), (37, .one (.bool w2)), (299, .one (.bool w3))] [(28, some (24, [.int .i64 w4, .sl true 38 w5])), (29, some (38, [.int .i64 w6, .int .i64 w7, .int .i64 w8])), (30, some (24, [.int .i64 w9, .sl false 38 w10])), (34, some (24, [.int .i64 w11, .sl true 38 w12])), (36, some (24, [.int .i64 w13, .sl false 38 w14]))] : St D0) (onN (fun s => laws_FnTimesMade.C.tidy 16777214 s (fun s' => runC laws_FnTimesMade.C (laws_FnTimesMade.O N) N laws_FnTimesMade.c16777215 16777215 s' laws_FnTimesMade.K0)) laws_FnTimesMade.K0))) := by kernel_rfl
noncomputable def laws_FnTimesMade.B16777214 (N : Nat) : St D0 → Option laws_FnTimesMade.R := fun s' => runC laws_FnTimesMade.C (laws_FnTimesMade.O N) N laws_FnTimesMade.c33554429 33554429 s' (laws_FnTimesMade.K33554429 N)
noncomputable def laws_FnTimesMade.d6 (N : Nat) (v0 : List Int) : Option laws_FnTimesMade.R := laws_FnTimesMade.o6 N v0 ((fun w0 w1 w2 w3 w4 w5 w6 w7 w8 w9 w10 w11 w12 w13 w14 => laws_FnTimesMade.d7 N w0 w1 w2 w3 w4 w5 w6 w7 w8 w9 w10 w11 w12 w13 w14))
theorem laws_FnTimesMade.c16383_6 : laws_FnTimesMade.c16383 = (.seq laws_FnTimesMade.c32766 (.seq laws_FnTimesMade.c65534 (.seq laws_FnTimesMade.c131070 (.seq laws_FnTimesMade.c262142 (.seq laws_FnTimesMade.c524286 (.seq laws_FnTimesMade.c1048574 (.seq laws_FnTimesMade.c2097150 (.seq laws_FnTimesMade.c4194302 (.seq laws_FnTimesMade.c8388606 (.seq (.seq laws_FnTimesMade.c33554428 laws_FnTimesMade.c33554429) laws_FnTimesMade.c16777215)))))))))) := by kernel_rfl
theorem laws_FnTimesMade.d6.run (N : Nat) (v0 : List Int) : runC laws_FnTimesMade.C (laws_FnTimesMade.O N) N laws_FnTimesMade.c16383 16383 (mkSt [(1, .one (.sl false 5 v0))] [] : St D0) (laws_FnTimesMade.K16383 N) = laws_FnTimesMade.d6 N v0 := by
  rw [laws_FnTimesMade.c16383_6]; unfold laws_FnTimesMade.d6; exact (laws_FnTimesMade.o6.run N laws_FnTimesMade.c33554429 v0).trans (congr rfl (funext fun w0 => funext fun w1 => funext fun w2 => funext fun w3 => funext fun w4 => funext fun w5 => funext fun w6 => funext fun w7 => funext fun w8 => funext fun w9 => funext fun w10 => funext fun w11 => funext fun w12 => funext fun w13 => funext fun w14 => laws_FnTimesMade.d7.run N w0 w1 w2 w3 w4 w5 w6 w7 w8 w9 w10 w11 w12 w13 w14))
noncomputable def laws_FnTimesMade.B8191 (N : Nat) : St D0 → Option laws_FnTimesMade.R := fun s' => runC laws_FnTimesMade.C (laws_FnTimesMade.O N) N laws_FnTimesMade.c16383 16383 s' (laws_FnTimesMade.K16383 N)
noncomputable def laws_FnTimesMade.K1048495 (N : Nat) : Ex → St D0 → Option laws_FnTimesMade.R := (onN (fun s => laws_FnTimesMade.C.tidy 16382 s (laws_FnTimesMade.B8191 N)) laws_FnTimesMade.K0)
noncomputable def laws_FnTimesMade.o5 (N : Nat) (v0 : List Int) (v1 : Bool) (c6 : (List Int) → Option laws_FnTimesMade.R) : Option laws_FnTimesMade.R :=
 bif v1 then
  some (false)
 else
 c6 v0
theorem laws_FnTimesMade.o5.run (N : Nat) (Kb8191 : St D0 → Option laws_FnTimesMade.R) (v0 : List Int) (v1 : Bool) : runC laws_FnTimesMade.C (laws_FnTimesMade.O N) N laws_FnTimesMade.c1048495 1048495 (mkSt [(1, .one (.sl false 5 v0)), (197, .one (.bool v1))] [] : St D0) (onN (fun s => laws_FnTimesMade.C.tidy 16382 s Kb8191) laws_FnTimesMade.K0) = laws_FnTimesMade.o5 N v0 v1 ((fun w0 => Kb8191 (mkSt [(1, .one (.sl false 5 w0))] [] : St D0))) := by kernel_rfl
noncomputable def laws_FnTimesMade.d5 (N : Nat) (v0 : List Int) (v1 : Bool) : Option laws_FnTimesMade.R := laws_FnTimesMade.o5 N v0 v1 ((fun w0 => laws_FnTimesMade.d6 N w0))
theorem laws_FnTimesMade.d5.run (N : Nat) (v0 : List Int) (v1 : Bool) : runC laws_FnTimesMade.C (laws_FnTimesMade.O N) N laws_FnTimesMade.c1048495 1048495 (mkSt [(1, .one (.sl false 5 v0)), (197, .one (.bool v1))] [] : St D0) (laws_FnTimesMade.K1048495 N) = laws_FnTimesMade.d5 N v0 v1 := by
  unfold laws_FnTimesMade.d5; exact (laws_FnTimesMade.o5.run N (laws_FnTimesMade.B8191 N) v0 v1).trans (congr rfl (funext fun w0 => laws_FnTimesMade.d6.run N w0))
noncomputable def laws_FnTimesMade.K16381 (N : Nat) : Ex → St D0 → Option laws_FnTimesMade.R := (onN (fun s => laws_FnTimesMade.C.tidy 8190 s (fun s' => runC laws_FnTimesMade.C (laws_FnTimesMade.O N) N laws_FnTimesMade.c8191 8191 s' laws_FnTimesMade.K0)) laws_FnTimesMade.K0)
noncomputable def laws_FnTimesMade.o4 (N : Nat) (v0 : List Int) (v1 : Bool) (v2 : Bool) (v3 : Int) (v4 : List S38) (v5 : Int) (v6 : List S38) (c5 : (List Int) → Bool → Option laws_FnTimesMade.R) (c6 : (List Int) → Option laws_FnTimesMade.R) : Option laws_FnTimesMade.R :=
 bif v2 then
  some (false)
 else
 bif v1 then
  (impl_Solutions.g N v3 v4).bind fun r1 =>
  (impl_Solutions.g N v5 v6).bind fun r2 =>
  (impl_NeedlessClues.g N v5 v6).bind fun r3 =>
  bif (!r1.2) then
   c5 v0 true
  else
  bif (!r2.2) then
   c5 v0 true
  else
  (laws_kSame.g N r1.1 r2.1).bind fun r4 =>
  bif (!r4) then
   c5 v0 true
  else
  bif (decide ((v6.length : Int) > (v4.length : Int))) then
   c5 v0 true
  else
  bif (!r3.2) then
   c5 v0 true
  else
  c5 v0 ((r3.1.length : Int) != 0)
 else
 c6 v0
theorem laws_FnTimesMade.o4.run (N : Nat) (H16383 : Code) (H1048495 : Code) (v0 : List Int) (v1 : Bool) (v2 : Bool) (v3 : Int) (v4 : List S38) (v5 : Int) (v6 : List S38) : runC laws_FnTimesMade.C (laws_FnTimesMade.O N) N laws_FnTimesMade.c16381 16381 (mkSt [(1, .one (.sl false 5 v0)), (15, .one (.ptr 15 0)), (16, .one (.ptr 16 0)), (17, .one (.bool v1)), (151, .one (.bool v2))] [(15, some (24, [.int .i64 v3, .sl true 38 v4])), (16, some (24, [.int .i64 v5, .sl false 38 v6]))] : St D0) (onN (fun s => laws_FnTimesMade.C.tidy 8190 s (fun s' => runC laws_FnTimesMade.C (laws_FnTimesMade.O N) N (.seq (.seq laws_FnTimesMade.c32764 (.cond (.tmp 152) (.seq laws_FnTimesMade.c131060 (.seq laws_FnTimesMade.c262122 (.seq laws_FnTimesMade.c524246 (.seq laws_FnTimesMade.c1048494 H1048495)))) laws_FnTimesMade.c65531)) H16383) 8191 s' laws_FnTimesMade.K0)) laws_FnTimesMade.K0) = laws_FnTimesMade.o4 N v0 v1 v2 v3 v4 v5 v6 ((fun w0 w1 => runC laws_FnTimesMade.C (laws_FnTimesMade.O N) N H1048495 1048495 (mkSt [(1, .one (.sl false 5 w0)), (197, .one (.bool w1))] [] : St D0) (onN (fun s => laws_FnTimesMade.C.tidy 16382 s (fun s' => runC laws_FnTimesMade.C (laws_FnTimesMade.O N) N H16383 16383 s' laws_FnTimesMade.K0)) laws_FnTimesMade.K0))) ((fun w0 => runC laws_FnTimesMade.C (laws_FnTimesMade.O N) N H16383 16383 (mkSt [(1, .one (.sl false 5 w0))] [] : St D0) laws_FnTimesMade.K0)) := by kernel_rfl
noncomputable def laws_FnTimesMade.B524247 (N : Nat) : St D0 → Option laws_FnTimesMade.R := fun s' => runC laws_FnTimesMade.C (laws_FnTimesMade.O N) N laws_FnTimesMade.c1048495 1048495 s' (laws_FnTimesMade.K1048495 N)
noncomputable def laws_FnTimesMade.d4 (N : Nat) (v0 : List Int) (v1 : Bool) (v2 : Bool) (v3 : Int) (v4 : List S38) (v5 : Int) (v6 : List S38) : Option laws_FnTimesMade.R := laws_FnTimesMade.o4 N v0 v1 v2 v3 v4 v5 v6 ((fun w0 w1 => laws_FnTimesMade.d5 N w0 w1)) ((fun w0 => laws_FnTimesMade.d6 N w0))
theorem laws_FnTimesMade.d4.run (N : Nat) (v0 : List Int) (v1 : Bool) (v2 : Bool) (v3 : Int) (v4 : List S38) (v5 : Int) (v6 : List S38) : runC laws_FnTimesMade.C (laws_FnTimesMade.O N) N laws_FnTimesMade.c16381 16381 (mkSt [(1, .one (.sl false 5 v0)), (15, .one (.ptr 15 0)), (16, .one (.ptr 16 0)), (17, .one (.bool v1)), (151, .one (.bool v2))] [(15, some (24, [.int .i64 v3, .sl true 38 v4])), (16, some (24, [.int .i64 v5, .sl false 38 v6]))] : St D0) (laws_FnTimesMade.K16381 N) = laws_FnTimesMade.d4 N v0 v1 v2 v3 v4 v5 v6 := by
  unfold laws_FnTimesMade.d4; exact (laws_FnTimesMade.o4.run N laws_FnTimesMade.c16383 laws_FnTimesMade.c1048495 v0 v1 v2 v3 v4 v5 v6).trans (congr (congr rfl (funext fun w0 => funext fun w1 => laws_FnTimesMade.d5.run N w0 w1)) (funext fun w0 => laws_FnTimesMade.d6.run N w0))
noncomputable def laws_FnTimesMade.K255 (N : Nat) : Ex → St D0 → Option laws_FnTimesMade.R := laws_FnTimesMade.K0
noncomputable def laws_FnTimesMade.o3 (N : Nat) (v0 : List Int) (c4 : (List Int) → Bool → Bool → Int → (List S38) → Int → (List S38) → Option laws_FnTimesMade.R) : Option laws_FnTimesMade.R :=
 (spec_DrawHarderPuzzle.g N v0).bind fun r1 =>
 (impl_HarderPuzzle.g N r1.1 r1.2).bind fun r2 =>
 (spec_HarderPuzzle.g N r1.1 r1.2).bind fun r3 =>
 (impl_IsSolved.g N r1.1 r1.2).bind fun r4 =>
 bif (!(r2.2.2 == r3.2.2)) then
  c4 v0 r2.2.2 true r1.1 r1.2 r2.1 r2.2.1
 else
 (laws_kPuzzle.g N r2.1 r2.2.1 r3.1 r3.2.1).bind fun r5 =>
 bif (!r5) then
  c4 v0 r2.2.2 true r1.1 r1.2 r2.1 r2.2.1
 else
 bif r4.2 then
  c4 v0 r2.2.2 (!(r2.2.2 == r4.1)) r1.1 r1.2 r2.1 r2.2.1
 else
 c4 v0 r2.2.2 (!(r2.2.2 == false)) r1.1 r1.2 r2.1 r2.2.1
theorem laws_FnTimesMade.o3.run (N : Nat) (H16381 : Code) (v0 : List Int) : runC laws_FnTimesMade.C (laws_FnTimesMade.O N) N (.seq laws_FnTimesMade.c510 (.seq laws_FnTimesMade.c1022 (.seq laws_FnTimesMade.c2046 (.seq laws_FnTimesMade.c4094 (.seq (.seq laws_FnTimesMade.c16380 H16381) laws_FnTimesMade.c8191))))) 255 (mkSt [(1, .one (.sl false 5 v0))] [] : St D0) laws_FnTimesMade.K0 = laws_FnTimesMade.o3 N v0 ((fun w0 w1 w2 w3 w4 w5 w6 => runC laws_FnTimesMade.C (laws_FnTimesMade.O N) N H16381 16381 (mkSt [(1, .one (.sl false 5 w0)), (15, .one (.ptr 15 0)), (16, .one (.ptr 16 0)), (17, .one (.bool w1)), (151, .one (.bool w2))] [(15, some (24, [.int .i64 w3, .sl true 38 w4])), (16, some (24, [.int .i64 w5, .sl false 38 w6]))] : St D0) (onN (fun s => laws_FnTimesMade.C.tidy 8190 s (fun s' => runC laws_FnTimesMade.C (laws_FnTimesMade.O N) N laws_FnTimesMade.c8191 8191 s' laws_FnTimesMade.K0)) laws_FnTimesMade.K0))) := by kernel_rfl
noncomputable def laws_FnTimesMade.B8190 (N : Nat) : St D0 → Option laws_FnTimesMade.R := fun s' => runC laws_FnTimesMade.C (laws_FnTimesMade.O N) N laws_FnTimesMade.c16381 16381 s' (laws_FnTimesMade.K16381 N)
noncomputable def laws_FnTimesMade.d3 (N : Nat) (v0 : List Int) : Option laws_FnTimesMade.R := laws_FnTimesMade.o3 N v0 ((fun w0 w1 w2 w3 w4 w5 w6 => laws_FnTimesMade.d4 N w0 w1 w2 w3 w4 w5 w6))
theorem laws_FnTimesMade.c255_3 : laws_FnTimesMade.c255 = (.seq laws_FnTimesMade.c510 (.seq laws_FnTimesMade.c1022 (.seq laws_FnTimesMade.c2046 (.seq laws_FnTimesMade.c4094 (.seq (.seq laws_FnTimesMade.c16380 laws_FnTimesMade.c16381) laws_FnTimesMade.c8191))))) := by kernel_rfl
theorem laws_FnTimesMade.d3.run (N : Nat) (v0 : List Int) : runC laws_FnTimesMade.C (laws_FnTimesMade.O N) N laws_FnTimesMade.c255 255 (mkSt [(1, .one (.sl false 5 v0))] [] : St D0) (laws_FnTimesMade.K255 N) = laws_FnTimesMade.d3 N v0 := by
  rw [laws_FnTimesMade.c255_3]; unfold laws_FnTimesMade.d3; exact (laws_FnTimesMade.o3.run N laws_FnTimesMade.c16381 v0).trans (congr rfl (funext fun w0 => funext fun w1 => funext fun w2 => funext fun w3 => funext fun w4 => funext fun w5 => funext fun w6 => laws_FnTimesMade.d4.run N w0 w1 w2 w3 w4 w5 w6))
noncomputable def laws_FnTimesMade.B127 (N : Nat) : St D0 → Option laws_FnTimesMade.R := fun s' => runC laws_FnTimesMade.C (laws_FnTimesMade.O N) N laws_FnTimesMade.c255 255 s' (laws_FnTimesMade.K255 N)
noncomputable def laws_FnTimesMade.K4075 (N : Nat) : Ex → St D0 → Option laws_FnTimesMade.R := (onN (fun s => laws_FnTimesMade.C.tidy 254 s (laws_FnTimesMade.B127 N)) laws_FnTimesMade.K0)
noncomputable def laws_FnTimesMade.o2 (N : Nat) (v0 : List Int) (v1 : Bool) (c3 : (List Int) → Option laws_FnTimesMade.R) : Option laws_FnTimesMade.R :=
 bif v1 then
  some (false)
 else
 c3 v0
theorem laws_FnTimesMade.o2.run (N : Nat) (Kb127 : St D0 → Option laws_FnTimesMade.R) (v0 : List Int) (v1 : Bool) : runC laws_FnTimesMade.C (laws_FnTimesMade.O N) N laws_FnTimesMade.c4075 4075 (mkSt [(1, .one (.sl false 5 v0)), (117, .one (.bool v1))] [] : St D0) (onN (fun s => laws_FnTimesMade.C.tidy 254 s Kb127) laws_FnTimesMade.K0) = laws_FnTimesMade.o2 N v0 v1 ((fun w0 => Kb127 (mkSt [(1, .one (.sl false 5 w0))] [] : St D0))) := by kernel_rfl
noncomputable def laws_FnTimesMade.d2 (N : Nat) (v0 : List Int) (v1 : Bool) : Option laws_FnTimesMade.R := laws_FnTimesMade.o2 N v0 v1 ((fun w0 => laws_FnTimesMade.d3 N w0))
theorem laws_FnTimesMade.d2.run (N : Nat) (v0 : List Int) (v1 : Bool) : runC laws_FnTimesMade.C (laws_FnTimesMade.O N) N laws_FnTimesMade.c4075 4075 (mkSt [(1, .one (.sl false 5 v0)), (117, .one (.bool v1))] [] : St D0) (laws_FnTimesMade.K4075 N) = laws_FnTimesMade.d2 N v0 v1 := by
  unfold laws_FnTimesMade.d2; exact (laws_FnTimesMade.o2.run N (laws_FnTimesMade.B127 N) v0 v1).trans (congr rfl (funext fun w0 => laws_FnTimesMade.d3.run N w0))
noncomputable def laws_FnTimesMade.K253 (N : Nat) : Ex → St D0 → Option laws_FnTimesMade.R := (onN (fun s => laws_FnTimesMade.C.tidy 126 s (fun s' => runC laws_FnTimesMade.C (laws_FnTimesMade.O N) N laws_FnTimesMade.c127 127 s' laws_FnTimesMade.K0)) laws_FnTimesMade.K0)
noncomputable def laws_FnTimesMade.o1 (N : Nat) (v0 : List Int) (v1 : Int) (v2 : Int) (v3 : Int) (v4 : Bool) (v5 : Bool) (v6 : Int) (v7 : List S38) (c2 : (List Int) → Bool → Option laws_FnTimesMade.R) (c3 : (List Int) → Option laws_FnTimesMade.R) : Option laws_FnTimesMade.R :=
 bif v5 then
  some (false)
 else
 bif v4 then
  (impl_Solutions.g N v6 v7).bind fun r1 =>
  (impl_IsPuzzle.g N v6 v7).bind fun r2 =>
  bif (!r2) then
   c2 v0 true
  else
  bif (!r1.2) then
   c2 v0 true
  else
  (laws_kHas.g N r1.1 v2).bind fun r3 =>
  bif (!r3) then
   c2 v0 true
  else
  bif ((v7.length : Int) != v3) then
   c2 v0 true
  else
  c2 v0 (v6 != v1)
 else
 c3 v0
theorem laws_FnTimesMade.o1.run (N : Nat) (H255 : Code) (H4075 : Code) (v0 : List Int) (v1 : Int) (v2 : Int) (v3 : Int) (v4 : Bool) (v5 : Bool) (v6 : Int) (v7 : List S38) : runC laws_FnTimesMade.C (laws_FnTimesMade.O N) N laws_FnTimesMade.c253 253 (mkSt [(1, .one (.sl false 5 v0)), (5, .one (.int .i64 v1)), (6, .one (.int .i64 v2)), (7, .one (.int .i64 v3)), (9, .one (.ptr 9 0)), (10, .one (.bool v4)), (85, .one (.bool v5))] [(9, some (24, [.int .i64 v6, .sl true 38 v7]))] : St D0) (onN (fun s => laws_FnTimesMade.C.tidy 126 s (fun s' => runC laws_FnTimesMade.C (laws_FnTimesMade.O N) N (.seq (.seq laws_FnTimesMade.c508 (.cond (.tmp 86) (.seq laws_FnTimesMade.c2036 (.seq laws_FnTimesMade.c4074 H4075)) laws_FnTimesMade.c1019)) H255) 127 s' laws_FnTimesMade.K0)) laws_FnTimesMade.K0) = laws_FnTimesMade.o1 N v0 v1 v2 v3 v4 v5 v6 v7 ((fun w0 w1 => runC laws_FnTimesMade.C (laws_FnTimesMade.O N) N H4075 4075 (mkSt [(1, .one (.sl false 5 w0)), (117, .one (.bool w1))] [] : St D0) (onN (fun s => laws_FnTimesMade.C.tidy 254 s (fun s' => runC laws_FnTimesMade.C (laws_FnTimesMade.O N) N H255 255 s' laws_FnTimesMade.K0)) laws_FnTimesMade.K0))) ((fun w0 => runC laws_FnTimesMade.C (laws_FnTimesMade.O N) N H255 255 (mkSt [(1, .one (.sl false 5 w0))] [] : St D0) laws_FnTimesMade.K0)) := by kernel_rfl
noncomputable def laws_FnTimesMade.B2037 (N : Nat) : St D0 → Option laws_FnTimesMade.R := fun s' => runC laws_FnTimesMade.C (laws_FnTimesMade.O N) N laws_FnTimesMade.c4075 4075 s' (laws_FnTimesMade.K4075 N)
noncomputable def laws_FnTimesMade.d1 (N : Nat) (v0 : List Int) (v1 : Int) (v2 : Int) (v3 : Int) (v4 : Bool) (v5 : Bool) (v6 : Int) (v7 : List S38) : Option laws_FnTimesMade.R := laws_FnTimesMade.o1 N v0 v1 v2 v3 v4 v5 v6 v7 ((fun w0 w1 => laws_FnTimesMade.d2 N w0 w1)) ((fun w0 => laws_FnTimesMade.d3 N w0))
theorem laws_FnTimesMade.d1.run (N : Nat) (v0 : List Int) (v1 : Int) (v2 : Int) (v3 : Int) (v4 : Bool) (v5 : Bool) (v6 : Int) (v7 : List S38) : runC laws_FnTimesMade.C (laws_FnTimesMade.O N) N laws_FnTimesMade.c253 253 (mkSt [(1, .one (.sl false 5 v0)), (5, .one (.int .i64 v1)), (6, .one (.int .i64 v2)), (7, .one (.int .i64 v3)), (9, .one (.ptr 9 0)), (10, .one (.bool v4)), (85, .one (.bool v5))] [(9, some (24, [.int .i64 v6, .sl true 38 v7]))] : St D0) (laws_FnTimesMade.K253 N) = laws_FnTimesMade.d1 N v0 v1 v2 v3 v4 v5 v6 v7 := by
  unfold laws_FnTimesMade.d1; exact (laws_FnTimesMade.o1.run N laws_FnTimesMade.c255 laws_FnTimesMade.c4075 v0 v1 v2 v3 v4 v5 v6 v7).trans (congr (congr rfl (funext fun w0 => funext fun w1 => laws_FnTimesMade.d2.run N w0 w1)) (funext fun w0 => laws_FnTimesMade.d3.run N w0))
noncomputable def laws_FnTimesMade.o0 (N : Nat) (a0 : List Int) (a1 : List Int) (c1 : (List Int) → Int → Int → Int → Bool → Bool → Int → (List S38) → Option laws_FnTimesMade.R) : Option laws_FnTimesMade.R :=
 (laws_big.g N a0 a1).bind fun r1 =>
 bif r1 then
  some (true)
 else
 (spec_DrawMakePuzzle.g N a0).bind fun r2 =>
 (impl_MakePuzzle.g N r2.1 r2.2.1 r2.2.2.1 r2.2.2.2).bind fun r3 =>
 (spec_MakePuzzle.g N r2.1 r2.2.1 r2.2.2.1 r2.2.2.2).bind fun r4 =>
 bif (!(r3.2.2 == r4.2.2)) then
  c1 a1 r2.1 r2.2.1 r2.2.2.1 r3.2.2 true r3.1 r3.2.1
 else
 (laws_kPuzzle.g N r3.1 r3.2.1 r4.1 r4.2.1).bind fun r5 =>
 c1 a1 r2.1 r2.2.1 r2.2.2.1 r3.2.2 (!r5) r3.1 r3.2.1
theorem laws_FnTimesMade.o0.run (N : Nat) (H253 : Code) (a0 : List Int) (a1 : List Int) : runC laws_FnTimesMade.C (laws_FnTimesMade.O N) N (.seq laws_FnTimesMade.c2 (.seq laws_FnTimesMade.c6 (.seq laws_FnTimesMade.c14 (.seq laws_FnTimesMade.c30 (.seq laws_FnTimesMade.c62 (.seq (.seq laws_FnTimesMade.c252 H253) laws_FnTimesMade.c127)))))) 1 (st0 [.one (.sl false 5 a0), .one (.sl false 5 a1)] [] : St D0) laws_FnTimesMade.K0 = laws_FnTimesMade.o0 N a0 a1 ((fun w0 w1 w2 w3 w4 w5 w6 w7 => runC laws_FnTimesMade.C (laws_FnTimesMade.O N) N H253 253 (mkSt [(1, .one (.sl false 5 w0)), (5, .one (.int .i64 w1)), (6, .one (.int .i64 w2)), (7, .one (.int .i64 w3)), (9, .one (.ptr 9 0)), (10, .one (.bool w4)), (85, .one (.bool w5))] [(9, some (24, [.int .i64 w6, .sl true 38 w7]))] : St D0) (onN (fun s => laws_FnTimesMade.C.tidy 126 s (fun s' => runC laws_FnTimesMade.C (laws_FnTimesMade.O N) N laws_FnTimesMade.c127 127 s' laws_FnTimesMade.K0)) laws_FnTimesMade.K0))) := by kernel_rfl
noncomputable def laws_FnTimesMade.B126 (N : Nat) : St D0 → Option laws_FnTimesMade.R := fun s' => runC laws_FnTimesMade.C (laws_FnTimesMade.O N) N laws_FnTimesMade.c253 253 s' (laws_FnTimesMade.K253 N)
noncomputable def laws_FnTimesMade.g (N : Nat) (a0 : List Int) (a1 : List Int) : Option laws_FnTimesMade.R := laws_FnTimesMade.o0 N a0 a1 ((fun w0 w1 w2 w3 w4 w5 w6 w7 => laws_FnTimesMade.d1 N w0 w1 w2 w3 w4 w5 w6 w7))
theorem laws_FnTimesMade.c1_0 : laws_FnTimesMade.c1 = (.seq laws_FnTimesMade.c2 (.seq laws_FnTimesMade.c6 (.seq laws_FnTimesMade.c14 (.seq laws_FnTimesMade.c30 (.seq laws_FnTimesMade.c62 (.seq (.seq laws_FnTimesMade.c252 laws_FnTimesMade.c253) laws_FnTimesMade.c127)))))) := by kernel_rfl
theorem laws_FnTimesMade.g.run (N : Nat) (a0 : List Int) (a1 : List Int) : runC laws_FnTimesMade.C (laws_FnTimesMade.O N) N laws_FnTimesMade.c1 1 (st0 [.one (.sl false 5 a0), .one (.sl false 5 a1)] [] : St D0) laws_FnTimesMade.K0 = laws_FnTimesMade.g N a0 a1 := by
  rw [laws_FnTimesMade.c1_0]; unfold laws_FnTimesMade.g; exact (laws_FnTimesMade.o0.run N laws_FnTimesMade.c253 a0 a1).trans (congr rfl (funext fun w0 => funext fun w1 => funext fun w2 => funext fun w3 => funext fun w4 => funext fun w5 => funext fun w6 => funext fun w7 => laws_FnTimesMade.d1.run N w0 w1 w2 w3 w4 w5 w6 w7))
theorem laws_FnTimesMade.good (N : Nat) (a0 : List Int) (a1 : List Int) (r : laws_FnTimesMade.R) (h : laws_FnTimesMade.g N a0 a1 = some r) : Go.PM.Good Go.Proofs.Try.prog T0 6 [.one (.sl false 5 a0), .one (.sl false 5 a1)] [] (laws_FnTimesMade.sig.ret r) (laws_FnTimesMade.sig.bs r) :=
  good_fn tabOk0 mixed0 laws_FnTimesMade.sig (laws_FnTimesMade.E N) Go.Proofs.Try.func6 (by kernel_rfl) (by kernel_rfl) 140257452729766193614888434443320138585886257864859982458649373413655902178955755481231220485654577139 0 0 [(252, [1, 5, 6, 7, 9, 10, 85], [9]), (254, [1], []), (4074, [1, 117], []), (16380, [1, 15, 16, 17, 151], [15, 16]), (16382, [1], []), (1048494, [1, 197], []), (33554428, [28, 29, 30, 31, 34, 35, 36, 37, 299], [28, 29, 30, 34, 36]), (33554430, [34, 35, 36, 37], [34, 36]), (134217724, [34, 35, 36, 336], [34, 36]), (536870890, [34, 35, 36, 37, 327], [34, 36])] [(false, [.any])] (by kernel_rfl) rfl ((laws_FnTimesMade.g.run N a0 a1).trans h)
noncomputable def laws_FnTimesMade.ent (N : Nat) : Ent Go.Proofs.Try.prog T0 := mkEnt 6 [(false, [.ro 5]), (false, [.ro 5])] laws_FnTimesMade.sig (fun t => laws_FnTimesMade.g N t.1 t.2) (fun t r h => laws_FnTimesMade.good N t.1 t.2 r h)
end Go.Proofs.Ytpeleommbipeaaa.M

namespace Go.Proofs.Ytpeleommbipeaaa.M
open Go Go.PM Go.Proofs.Ytpeleommbipeaaa.P
set_option linter.unusedVariables false
set_option maxRecDepth 100000
def FnTimesMade.Pure : Prop := ∀ (y0 : List Int) (y1 : List Int), (y0.length ≤ maxLen ∧ y0.length * 1 ≤ 140737488351232 ∧ ∀ x ∈ y0, (Lit.int .u8 x).wf = true) → (y1.length ≤ maxLen ∧ y1.length * 1 ≤ 140737488351232 ∧ ∀ x ∈ y1, (Lit.int .u8 x).wf = true) → ∃ N, laws_FnTimesMade.g N y0 y1 = some true
end Go.Proofs.Ytpeleommbipeaaa.M
