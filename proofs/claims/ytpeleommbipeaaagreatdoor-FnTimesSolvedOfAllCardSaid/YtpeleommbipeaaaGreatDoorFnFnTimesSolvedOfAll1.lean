/- What the program's functions compute, walked by the machine (part 1). No conditions but those stated. -/
import Derived.Test.YtpeleommbipeaaaGreatDoorPm3
import Derived.Test.YtpeleommbipeaaaGreatDoorProg
import Derived.Lib.ItoaNum
import Derived.Lib.LaidTab
namespace Go.Proofs.YtpeleommbipeaaaGreatDoor.M
open Go Go.PM
set_option linter.unusedVariables false
set_option maxRecDepth 100000
end Go.Proofs.YtpeleommbipeaaaGreatDoor.M
namespace Go.Proofs.YtpeleommbipeaaaGreatDoor.P
structure S41 where
  f0 : Int
  f1 : Int
  f2 : Int
def z41 : S41 := ⟨0, 0, 0⟩
def rd_T41 (xs : List S41) (i : Int) : S41 := xs.getD i.toNat z41
structure S46 where
  f0 : Int
  f1 : Int
def z46 : S46 := ⟨0, 0⟩
def rd_T46 (xs : List S46) (i : Int) : S46 := xs.getD i.toNat z46
end Go.Proofs.YtpeleommbipeaaaGreatDoor.P
namespace Go.Proofs.YtpeleommbipeaaaGreatDoor.M
open Go Go.PM Go.Proofs.YtpeleommbipeaaaGreatDoor.P
abbrev D0 : TypeId → Type
  | 3 => Int
  | 5 => Int
  | 9 => ByteArray
  | 41 => S41
  | 46 => S46
  | _ => Unit
def glE : Obj → Prop := fun o => ∃ tp p t fr, o = .cells #[.iface tp p] t fr
def glT : Obj → Prop := fun o => ∃ t fr, o = .cells ((Lib.pow10Tab.map fun z => Value.int .u64 z).toArray) t fr
def T0 : Tab D0 where
  size := fun e => match e with
    | 3 => 1
    | 5 => 1
    | 9 => 1
    | 41 => 3
    | 46 => 2
    | _ => 0
  out := fun e x => match e, x with
    | 3, x => [.int .i64 x]
    | 5, x => [.int .u8 x]
    | 9, x => [.str x]
    | 41, x => [.int .i64 x.f0, .int .i64 x.f1, .int .i64 x.f2]
    | 46, x => [.int .i64 x.f0, .int .i64 x.f1]
    | _, _ => []
  inn := fun e ls => match e, ls with
    | 3, [.int .i64 x0] => some x0
    | 5, [.int .u8 x0] => some x0
    | 9, [.str x0] => some x0
    | 41, [.int .i64 x0, .int .i64 x1, .int .i64 x2] => some ⟨x0, x1, x2⟩
    | 46, [.int .i64 x0, .int .i64 x1] => some ⟨x0, x1⟩
    | _, _ => none
  kd := fun e => match e with
    | 3 => [13]
    | 5 => [14]
    | 9 => [2]
    | 41 => [13, 13, 13]
    | 46 => [13, 13]
    | _ => []
  gl := [(1, glE), (2, glE), (3, glT)]
theorem tabOk0 : TabOk T0 where
  out_len := by
    intro e x
    simp only [T0]
    split <;> first | rfl | (split <;> first | rfl | (rename_i h _ _ _ _; exact absurd HEq.rfl (fun h' => h _ rfl h')) | simp_all)
  kd_ok := by
    intro e x
    simp only [T0]
    split <;> first | rfl | (split <;> first | rfl | (rename_i h _ _ _ _; exact absurd HEq.rfl (fun h' => h _ rfl h')) | simp_all)
  inn_ok := by
    intro e ls x h C blk vs hF
    simp only [T0] at h
    split at h <;> first | (cases h; done) | (simp only [Option.some.injEq] at h; subst h; exact tab_inn hF rfl) | (split at h <;> first | (cases h; done) | (rename_i he; simp only [Option.some.injEq] at h; subst h; subst he; exact tab_inn_sl rfl hF))
theorem mixed0 : Go.Proofs.Tryz.prog.follows .mixedOrders = true := by kernel_rfl
/-! ### variables that never change -/
def GlW (w : World) : Prop := ∀ x ∈ T0.gl, ∃ o, w.heap[x.1]? = some o ∧ x.2 o
theorem GlW.below {w W : World} (h : GlW w) (hb : Go.RowKit.Below w.heap.size w W) : GlW W := fun x hx => by
  obtain ⟨o, h1, h2⟩ := h x hx
  exact ⟨o, (hb.block _ (Array.getElem?_eq_some_iff.1 h1).1).trans h1, h2⟩
theorem GlW.errS {w : World} (h : GlW w) : ∃ tp p, w.cell? ⟨1, 0, none⟩ = some (.iface tp p) := by
  obtain ⟨o, h1, tp, p, t, fr, rfl⟩ := h (1, glE) (List.mem_cons_self ..)
  exact ⟨tp, p, by simpa using World.var?_cell (show Go.Proofs.Tryz.prog.globalNamed "strconv.ErrSyntax" = some 1 by kernel_rfl) (var_blk (by kernel_rfl) h1) 0⟩
theorem GlW.errR {w : World} (h : GlW w) : ∃ tp p, w.cell? ⟨2, 0, none⟩ = some (.iface tp p) := by
  obtain ⟨o, h1, tp, p, t, fr, rfl⟩ := h (2, glE) (List.mem_cons_of_mem _ (List.mem_cons_self ..))
  exact ⟨tp, p, by simpa using World.var?_cell (show Go.Proofs.Tryz.prog.globalNamed "strconv.ErrRange" = some 2 by kernel_rfl) (var_blk (by kernel_rfl) h1) 0⟩
theorem GlW.tab {w : World} (h : GlW w) : Lib.TabIs Go.Proofs.Tryz.prog w "internal/strconv.uint64pow10" .u64 Lib.pow10Tab := by
  obtain ⟨o, h1, t, fr, rfl⟩ := h (3, glT) (List.mem_cons_of_mem _ (List.mem_cons_of_mem _ (List.mem_cons_self ..)))
  exact var_blk (by kernel_rfl) h1
theorem GlW.of {w : World} {tp p tp' p'} (h1 : w.var? Go.Proofs.Tryz.prog "strconv.ErrSyntax" = some #[.iface tp p]) (h2 : w.var? Go.Proofs.Tryz.prog "strconv.ErrRange" = some #[.iface tp' p'])
    (h3 : Lib.TabIs Go.Proofs.Tryz.prog w "internal/strconv.uint64pow10" .u64 Lib.pow10Tab) : GlW w := by
  intro x hx
  obtain ⟨t1, f1, e1⟩ := blk_var (g := 1) (by kernel_rfl) h1
  obtain ⟨t2, f2, e2⟩ := blk_var (g := 2) (by kernel_rfl) h2
  obtain ⟨t3, f3, e3⟩ := blk_var (g := 3) (by kernel_rfl) h3
  have hx : x ∈ [(1, glE), (2, glE), (3, glT)] := hx
  simp only [List.mem_cons, List.not_mem_nil, or_false] at hx
  rcases hx with rfl | rfl | rfl
  · exact ⟨_, e1, tp, p, t1, f1, rfl⟩
  · exact ⟨_, e2, tp', p', t2, f2, rfl⟩
  · exact ⟨_, e3, t3, f3, rfl⟩

end Go.Proofs.YtpeleommbipeaaaGreatDoor.M

namespace Go.Proofs.YtpeleommbipeaaaGreatDoor.M
open Go Go.PM Go.Proofs.YtpeleommbipeaaaGreatDoor.P
set_option linter.unusedVariables false
set_option maxRecDepth 100000
/-! ### zq31 -/
abbrev zq31.R : Type := Bool
abbrev zq31.sig : Sig := ⟨[(false, 1), (false, 1), (false, 1)], [], [.int .i64, .int .i64, .int .i64], [(false, 1)], [], [.bool]⟩
noncomputable def zq31.C : Cfg D0 := ⟨Go.Proofs.Tryz.prog, T0, 71, 0, 15, 0, [], 6528, false, []⟩
noncomputable def zq31.E (N : Nat) : List (Ent Go.Proofs.Tryz.prog T0) := []
noncomputable def zq31.O (N : Nat) : Orc D0 zq31.R := orcOf (zq31.E N)
noncomputable def zq31.K0 : Ex → St D0 → Option zq31.R := exitK zq31.C Go.Proofs.Tryz.f57.results.toList [(false, [.any])] (decOut zq31.sig)
noncomputable def zq31.c1 : Code := codeAt (Go.Proofs.Tryz.f57.body.getD .skip) []
noncomputable def zq31.o0 (N : Nat) (a0 : Int) (a1 : Int) (a2 : Int) : Option zq31.R :=
 bif (decide (a0 ≥ a1)) then
  some ((decide (a0 ≤ a2)))
 else
 some (false)
theorem zq31.o0.run (N : Nat) (a0 : Int) (a1 : Int) (a2 : Int) : runC zq31.C (zq31.O N) N zq31.c1 1 (st0 [.one (.int .i64 a0), .one (.int .i64 a1), .one (.int .i64 a2)] [] : St D0) zq31.K0 = zq31.o0 N a0 a1 a2 := by kernel_rfl
noncomputable def zq31.g (N : Nat) (a0 : Int) (a1 : Int) (a2 : Int) : Option zq31.R := zq31.o0 N a0 a1 a2
theorem zq31.g.run (N : Nat) (a0 : Int) (a1 : Int) (a2 : Int) : runC zq31.C (zq31.O N) N zq31.c1 1 (st0 [.one (.int .i64 a0), .one (.int .i64 a1), .one (.int .i64 a2)] [] : St D0) zq31.K0 = zq31.g N a0 a1 a2 := by
  exact (zq31.o0.run N a0 a1 a2).trans rfl
theorem zq31.good (N : Nat) (a0 : Int) (a1 : Int) (a2 : Int) (r : zq31.R) (h : zq31.g N a0 a1 a2 = some r) : Go.PM.Good Go.Proofs.Tryz.prog T0 57 [.one (.int .i64 a0), .one (.int .i64 a1), .one (.int .i64 a2)] [] (zq31.sig.ret r) (zq31.sig.bs r) :=
  good_fn tabOk0 mixed0 zq31.sig (zq31.E N) Go.Proofs.Tryz.func57 (by kernel_rfl) (by kernel_rfl) 71 0 0 [] 6528 false [] [(false, [.any])] (by kernel_rfl) rfl rfl ((zq31.g.run N a0 a1 a2).trans h)
noncomputable def zq31.ent (N : Nat) : Ent Go.Proofs.Tryz.prog T0 := mkEnt 57 [(false, [.any]), (false, [.any]), (false, [.any])] zq31.sig (fun t => zq31.g N t.1 t.2.1 t.2.2) (fun t r h => zq31.good N t.1 t.2.1 t.2.2 r h)
end Go.Proofs.YtpeleommbipeaaaGreatDoor.M

namespace Go.Proofs.YtpeleommbipeaaaGreatDoor.M
open Go Go.PM Go.Proofs.YtpeleommbipeaaaGreatDoor.P
set_option linter.unusedVariables false
set_option maxRecDepth 100000
/-! ### zq21 -/
abbrev zq21.R : Type := Bool
abbrev zq21.sig : Sig := ⟨[(false, 1)], [], [.int .i64], [(false, 1)], [], [.bool]⟩
noncomputable def zq21.C : Cfg D0 := ⟨Go.Proofs.Tryz.prog, T0, 5, 0, 5, 0, [], 8, false, []⟩
noncomputable def zq21.E (N : Nat) : List (Ent Go.Proofs.Tryz.prog T0) := [zq31.ent N]
noncomputable def zq21.O (N : Nat) : Orc D0 zq21.R := orcOf (zq21.E N)
noncomputable def zq21.K0 : Ex → St D0 → Option zq21.R := exitK zq21.C Go.Proofs.Tryz.f49.results.toList [(false, [.any])] (decOut zq21.sig)
noncomputable def zq21.c1 : Code := codeAt (Go.Proofs.Tryz.f49.body.getD .skip) []
noncomputable def zq21.o0 (N : Nat) (a0 : Int) : Option zq21.R :=
 (zq31.g N a0 2 24).bind fun r1 =>
 some (r1)
theorem zq21.o0.run (N : Nat) (a0 : Int) : runC zq21.C (zq21.O N) N zq21.c1 1 (st0 [.one (.int .i64 a0)] [] : St D0) zq21.K0 = zq21.o0 N a0 := by kernel_rfl
noncomputable def zq21.g (N : Nat) (a0 : Int) : Option zq21.R := zq21.o0 N a0
theorem zq21.g.run (N : Nat) (a0 : Int) : runC zq21.C (zq21.O N) N zq21.c1 1 (st0 [.one (.int .i64 a0)] [] : St D0) zq21.K0 = zq21.g N a0 := by
  exact (zq21.o0.run N a0).trans rfl
theorem zq21.good (N : Nat) (a0 : Int) (r : zq21.R) (h : zq21.g N a0 = some r) : Go.PM.Good Go.Proofs.Tryz.prog T0 49 [.one (.int .i64 a0)] [] (zq21.sig.ret r) (zq21.sig.bs r) :=
  good_fn tabOk0 mixed0 zq21.sig (zq21.E N) Go.Proofs.Tryz.func49 (by kernel_rfl) (by kernel_rfl) 5 0 0 [] 8 false [] [(false, [.any])] (by kernel_rfl) rfl rfl ((zq21.g.run N a0).trans h)
noncomputable def zq21.ent (N : Nat) : Ent Go.Proofs.Tryz.prog T0 := mkEnt 49 [(false, [.any])] zq21.sig (fun t => zq21.g N t) (fun t r h => zq21.good N t r h)
end Go.Proofs.YtpeleommbipeaaaGreatDoor.M

namespace Go.Proofs.YtpeleommbipeaaaGreatDoor.M
open Go Go.PM Go.Proofs.YtpeleommbipeaaaGreatDoor.P
set_option linter.unusedVariables false
set_option maxRecDepth 100000
/-! ### zq66 -/
abbrev zq66.R : Type := Bool
abbrev zq66.sig : Sig := ⟨[(false, 1), (false, 1), (false, 1)], [], [.int .i64, .int .i64, .int .i64], [(false, 1)], [], [.bool]⟩
noncomputable def zq66.C : Cfg D0 := ⟨Go.Proofs.Tryz.prog, T0, 71, 0, 15, 0, [], 6528, false, []⟩
noncomputable def zq66.E (N : Nat) : List (Ent Go.Proofs.Tryz.prog T0) := []
noncomputable def zq66.O (N : Nat) : Orc D0 zq66.R := orcOf (zq66.E N)
noncomputable def zq66.K0 : Ex → St D0 → Option zq66.R := exitK zq66.C Go.Proofs.Tryz.f89.results.toList [(false, [.any])] (decOut zq66.sig)
noncomputable def zq66.c1 : Code := codeAt (Go.Proofs.Tryz.f89.body.getD .skip) []
noncomputable def zq66.o0 (N : Nat) (a0 : Int) (a1 : Int) (a2 : Int) : Option zq66.R :=
 bif (decide (a0 ≥ a1)) then
  some ((decide (a0 ≤ a2)))
 else
 some (false)
theorem zq66.o0.run (N : Nat) (a0 : Int) (a1 : Int) (a2 : Int) : runC zq66.C (zq66.O N) N zq66.c1 1 (st0 [.one (.int .i64 a0), .one (.int .i64 a1), .one (.int .i64 a2)] [] : St D0) zq66.K0 = zq66.o0 N a0 a1 a2 := by kernel_rfl
noncomputable def zq66.g (N : Nat) (a0 : Int) (a1 : Int) (a2 : Int) : Option zq66.R := zq66.o0 N a0 a1 a2
theorem zq66.g.run (N : Nat) (a0 : Int) (a1 : Int) (a2 : Int) : runC zq66.C (zq66.O N) N zq66.c1 1 (st0 [.one (.int .i64 a0), .one (.int .i64 a1), .one (.int .i64 a2)] [] : St D0) zq66.K0 = zq66.g N a0 a1 a2 := by
  exact (zq66.o0.run N a0 a1 a2).trans rfl
theorem zq66.good (N : Nat) (a0 : Int) (a1 : Int) (a2 : Int) (r : zq66.R) (h : zq66.g N a0 a1 a2 = some r) : Go.PM.Good Go.Proofs.Tryz.prog T0 89 [.one (.int .i64 a0), .one (.int .i64 a1), .one (.int .i64 a2)] [] (zq66.sig.ret r) (zq66.sig.bs r) :=
  good_fn tabOk0 mixed0 zq66.sig (zq66.E N) Go.Proofs.Tryz.func89 (by kernel_rfl) (by kernel_rfl) 71 0 0 [] 6528 false [] [(false, [.any])] (by kernel_rfl) rfl rfl ((zq66.g.run N a0 a1 a2).trans h)
noncomputable def zq66.ent (N : Nat) : Ent Go.Proofs.Tryz.prog T0 := mkEnt 89 [(false, [.any]), (false, [.any]), (false, [.any])] zq66.sig (fun t => zq66.g N t.1 t.2.1 t.2.2) (fun t r h => zq66.good N t.1 t.2.1 t.2.2 r h)
end Go.Proofs.YtpeleommbipeaaaGreatDoor.M

namespace Go.Proofs.YtpeleommbipeaaaGreatDoor.M
open Go Go.PM Go.Proofs.YtpeleommbipeaaaGreatDoor.P
set_option linter.unusedVariables false
set_option maxRecDepth 100000
/-! ### zq55 -/
abbrev zq55.R : Type := Bool
abbrev zq55.sig : Sig := ⟨[(false, 1)], [], [.int .i64], [(false, 1)], [], [.bool]⟩
noncomputable def zq55.C : Cfg D0 := ⟨Go.Proofs.Tryz.prog, T0, 5, 0, 5, 0, [], 8, false, []⟩
noncomputable def zq55.E (N : Nat) : List (Ent Go.Proofs.Tryz.prog T0) := [zq66.ent N]
noncomputable def zq55.O (N : Nat) : Orc D0 zq55.R := orcOf (zq55.E N)
noncomputable def zq55.K0 : Ex → St D0 → Option zq55.R := exitK zq55.C Go.Proofs.Tryz.f67.results.toList [(false, [.any])] (decOut zq55.sig)
noncomputable def zq55.c1 : Code := codeAt (Go.Proofs.Tryz.f67.body.getD .skip) []
noncomputable def zq55.o0 (N : Nat) (a0 : Int) : Option zq55.R :=
 (zq66.g N a0 2 24).bind fun r1 =>
 some (r1)
theorem zq55.o0.run (N : Nat) (a0 : Int) : runC zq55.C (zq55.O N) N zq55.c1 1 (st0 [.one (.int .i64 a0)] [] : St D0) zq55.K0 = zq55.o0 N a0 := by kernel_rfl
noncomputable def zq55.g (N : Nat) (a0 : Int) : Option zq55.R := zq55.o0 N a0
theorem zq55.g.run (N : Nat) (a0 : Int) : runC zq55.C (zq55.O N) N zq55.c1 1 (st0 [.one (.int .i64 a0)] [] : St D0) zq55.K0 = zq55.g N a0 := by
  exact (zq55.o0.run N a0).trans rfl
theorem zq55.good (N : Nat) (a0 : Int) (r : zq55.R) (h : zq55.g N a0 = some r) : Go.PM.Good Go.Proofs.Tryz.prog T0 67 [.one (.int .i64 a0)] [] (zq55.sig.ret r) (zq55.sig.bs r) :=
  good_fn tabOk0 mixed0 zq55.sig (zq55.E N) Go.Proofs.Tryz.func67 (by kernel_rfl) (by kernel_rfl) 5 0 0 [] 8 false [] [(false, [.any])] (by kernel_rfl) rfl rfl ((zq55.g.run N a0).trans h)
noncomputable def zq55.ent (N : Nat) : Ent Go.Proofs.Tryz.prog T0 := mkEnt 67 [(false, [.any])] zq55.sig (fun t => zq55.g N t) (fun t r h => zq55.good N t r h)
end Go.Proofs.YtpeleommbipeaaaGreatDoor.M

namespace Go.Proofs.YtpeleommbipeaaaGreatDoor.M
open Go Go.PM Go.Proofs.YtpeleommbipeaaaGreatDoor.P
set_option linter.unusedVariables false
set_option maxRecDepth 100000
/-! ### zq36 -/
abbrev zq36.R : Type := Bool
abbrev zq36.sig : Sig := ⟨[(false, 1), (false, 1)], [], [.sl false 3, .sl false 3], [(false, 1)], [], [.bool]⟩
noncomputable def zq36.C : Cfg D0 := ⟨Go.Proofs.Tryz.prog, T0, 16806963, 0, 26, 0, [(58, [0, 1, 12, 13], [])], 3344704, false, []⟩
noncomputable def zq36.E (N : Nat) : List (Ent Go.Proofs.Tryz.prog T0) := []
noncomputable def zq36.O (N : Nat) : Orc D0 zq36.R := orcOf (zq36.E N)
noncomputable def zq36.K0 : Ex → St D0 → Option zq36.R := exitK zq36.C Go.Proofs.Tryz.f23.results.toList [(false, [.any])] (decOut zq36.sig)
noncomputable def zq36.c1 : Code := codeAt (Go.Proofs.Tryz.f23.body.getD .skip) []
noncomputable def zq36.c2 : Code := codeAt (Go.Proofs.Tryz.f23.body.getD .skip) [false]
noncomputable def zq36.c6 : Code := codeAt (Go.Proofs.Tryz.f23.body.getD .skip) [true, false]
noncomputable def zq36.c15 : Code := codeAt (Go.Proofs.Tryz.f23.body.getD .skip) [true, true, true]
noncomputable def zq36.c28 : Code := codeAt (Go.Proofs.Tryz.f23.body.getD .skip) [true, true, false, false]
noncomputable def zq36.c116 : Code := codeAt (Go.Proofs.Tryz.f23.body.getD .skip) [true, true, false, true, false, false]
noncomputable def zq36.K116 (N : Nat) (Kn58 : St D0 → Option zq36.R) : Ex → St D0 → Option zq36.R := ((fun up => (onN (fun s => zq36.C.tidy 58 s ((onN Kn58 up) .normal)) (onN Kn58 up))) (blockK 0 (onN (fun s => zq36.C.tidy 14 s (fun s' => runC zq36.C (zq36.O N) N zq36.c15 15 s' zq36.K0)) zq36.K0)))
noncomputable def zq36.o1 (N : Nat) (v0 : List Int) (v1 : List Int) (v2 : Int) (v3 : Int) (c1 : (List Int) → (List Int) → Int → Int → Option zq36.R) : Option zq36.R :=
 bif (decide (v3 < v2)) then
  bif (decide (0 ≤ v3)) then
   bif (decide (v3 < (v0.length : Int))) then
    (v0[(v3 : Int).toNat]?).bind fun x1 =>
    bif (decide (0 ≤ v3)) then
     bif (decide (v3 < (v1.length : Int))) then
      (v1[(v3 : Int).toNat]?).bind fun x2 =>
      bif (x1 != x2) then
       some (false)
      else
      c1 v0 v1 v2 (w64 (v3 + 1))
     else
     none
    else
    none
   else
   none
  else
  none
 else
 some (true)
theorem zq36.o1.run (N : Nat) (Kn58 : St D0 → Option zq36.R) (v0 : List Int) (v1 : List Int) (v2 : Int) (v3 : Int) : runC zq36.C (zq36.O N) N zq36.c116 116 (mkSt [(0, .one (.sl false 3 v0)), (1, .one (.sl false 3 v1)), (12, .one (.int .i64 v2)), (13, .one (.int .i64 v3))] [] : St D0) ((fun up => (onN (fun s => zq36.C.tidy 58 s ((onN Kn58 up) .normal)) (onN Kn58 up))) (blockK 0 (onN (fun s => zq36.C.tidy 14 s (fun s' => runC zq36.C (zq36.O N) N zq36.c15 15 s' zq36.K0)) zq36.K0))) = zq36.o1 N v0 v1 v2 v3 ((fun w0 w1 w2 w3 => Kn58 (mkSt [(0, .one (.sl false 3 w0)), (1, .one (.sl false 3 w1)), (12, .one (.int .i64 w2)), (13, .one (.int .i64 w3))] [] : St D0))) := by kernel_rfl
noncomputable def zq36.d1 (N : Nat) (v0 : List Int) (v1 : List Int) (v2 : Int) (v3 : Int) (c1 : (List Int) → (List Int) → Int → Int → Option zq36.R) : Option zq36.R := zq36.o1 N v0 v1 v2 v3 c1
theorem zq36.d1.run (N : Nat) (Kn58 : St D0 → Option zq36.R) (v0 : List Int) (v1 : List Int) (v2 : Int) (v3 : Int) : runC zq36.C (zq36.O N) N zq36.c116 116 (mkSt [(0, .one (.sl false 3 v0)), (1, .one (.sl false 3 v1)), (12, .one (.int .i64 v2)), (13, .one (.int .i64 v3))] [] : St D0) (zq36.K116 N Kn58) = zq36.d1 N v0 v1 v2 v3 ((fun w0 w1 w2 w3 => Kn58 (mkSt [(0, .one (.sl false 3 w0)), (1, .one (.sl false 3 w1)), (12, .one (.int .i64 w2)), (13, .one (.int .i64 w3))] [] : St D0))) := by
  exact (zq36.o1.run N Kn58 v0 v1 v2 v3).trans rfl
noncomputable def zq36.K58 (N : Nat) : Ex → St D0 → Option zq36.R := (blockK 0 (onN (fun s => zq36.C.tidy 14 s (fun s' => runC zq36.C (zq36.O N) N zq36.c15 15 s' zq36.K0)) zq36.K0))
noncomputable def zq36.l1 (N : Nat) : Nat → (List Int) → (List Int) → Int → Int → Option zq36.R
  | 0, _, _, _, _ => none
  | n + 1, v0, v1, v2, v3 => zq36.d1 N v0 v1 v2 v3 ((fun w0 w1 w2 w3 => zq36.l1 N n w0 w1 w2 w3))
theorem zq36.loop58 (N : Nat) : ∀ n, (∀ (v0 : List Int) (v1 : List Int) (v2 : Int) (v3 : Int), iter (loopF zq36.C (zq36.O N) N zq36.c116 58) n (mkSt [(0, .one (.sl false 3 v0)), (1, .one (.sl false 3 v1)), (12, .one (.int .i64 v2)), (13, .one (.int .i64 v3))] [] : St D0) (zq36.K58 N) = zq36.l1 N n v0 v1 v2 v3)
  | 0 => (fun v0 v1 v2 v3 => rfl)
  | n + 1 => (fun v0 v1 v2 v3 => (zq36.d1.run N (fun s => iter (loopF zq36.C (zq36.O N) N zq36.c116 58) n s (zq36.K58 N)) v0 v1 v2 v3).trans (show _ = zq36.d1 N v0 v1 v2 v3 ((fun w0 w1 w2 w3 => zq36.l1 N n w0 w1 w2 w3)) from (congr rfl (funext fun w0 => funext fun w1 => funext fun w2 => funext fun w3 => (zq36.loop58 N n) w0 w1 w2 w3))))
noncomputable def zq36.o0 (N : Nat) (a0 : List Int) (a1 : List Int) (c1 : (List Int) → (List Int) → Int → Int → Option zq36.R) : Option zq36.R :=
 bif ((a0.length : Int) != (a1.length : Int)) then
  some (false)
 else
 c1 a0 a1 (a0.length : Int) 0
theorem zq36.o0.run (N : Nat) (H116 : Code) (a0 : List Int) (a1 : List Int) : runC zq36.C (zq36.O N) N (.seq zq36.c2 (.seq zq36.c6 (.seq (.seq zq36.c28 (.block 0 (.loop H116))) zq36.c15))) 1 (st0 [.one (.sl false 3 a0), .one (.sl false 3 a1)] [] : St D0) zq36.K0 = zq36.o0 N a0 a1 ((fun w0 w1 w2 w3 => iter (loopF zq36.C (zq36.O N) N H116 58) N (mkSt [(0, .one (.sl false 3 w0)), (1, .one (.sl false 3 w1)), (12, .one (.int .i64 w2)), (13, .one (.int .i64 w3))] [] : St D0) (blockK 0 (onN (fun s => zq36.C.tidy 14 s (fun s' => runC zq36.C (zq36.O N) N zq36.c15 15 s' zq36.K0)) zq36.K0)))) := by kernel_rfl
noncomputable def zq36.g (N : Nat) (a0 : List Int) (a1 : List Int) : Option zq36.R := zq36.o0 N a0 a1 ((fun w0 w1 w2 w3 => zq36.l1 N N w0 w1 w2 w3))
theorem zq36.c1_0 : zq36.c1 = (.seq zq36.c2 (.seq zq36.c6 (.seq (.seq zq36.c28 (.block 0 (.loop zq36.c116))) zq36.c15))) := by kernel_rfl
theorem zq36.g.run (N : Nat) (a0 : List Int) (a1 : List Int) : runC zq36.C (zq36.O N) N zq36.c1 1 (st0 [.one (.sl false 3 a0), .one (.sl false 3 a1)] [] : St D0) zq36.K0 = zq36.g N a0 a1 := by
  rw [zq36.c1_0]; unfold zq36.g; exact (zq36.o0.run N zq36.c116 a0 a1).trans (congr rfl (funext fun w0 => funext fun w1 => funext fun w2 => funext fun w3 => (zq36.loop58 N N) w0 w1 w2 w3))
theorem zq36.good (N : Nat) (a0 : List Int) (a1 : List Int) (r : zq36.R) (h : zq36.g N a0 a1 = some r) : Go.PM.Good Go.Proofs.Tryz.prog T0 23 [.one (.sl false 3 a0), .one (.sl false 3 a1)] [] (zq36.sig.ret r) (zq36.sig.bs r) :=
  good_fn tabOk0 mixed0 zq36.sig (zq36.E N) Go.Proofs.Tryz.func23 (by kernel_rfl) (by kernel_rfl) 16806963 0 0 [(58, [0, 1, 12, 13], [])] 3344704 false [] [(false, [.any])] (by kernel_rfl) rfl rfl ((zq36.g.run N a0 a1).trans h)
noncomputable def zq36.ent (N : Nat) : Ent Go.Proofs.Tryz.prog T0 := mkEnt 23 [(false, [.ro 3]), (false, [.ro 3])] zq36.sig (fun t => zq36.g N t.1 t.2) (fun t r h => zq36.good N t.1 t.2 r h)
end Go.Proofs.YtpeleommbipeaaaGreatDoor.M

namespace Go.Proofs.YtpeleommbipeaaaGreatDoor.M
open Go Go.PM Go.Proofs.YtpeleommbipeaaaGreatDoor.P
set_option linter.unusedVariables false
set_option maxRecDepth 100000
/-! ### zq72 -/
abbrev zq72.R : Type := Int
abbrev zq72.sig : Sig := ⟨[(false, 1), (false, 1)], [], [.int .i64, .int .i64], [(false, 1)], [], [.int .i64]⟩
noncomputable def zq72.C : Cfg D0 := ⟨Go.Proofs.Tryz.prog, T0, 19, 0, 18, 0, [], 37536, false, []⟩
noncomputable def zq72.E (N : Nat) : List (Ent Go.Proofs.Tryz.prog T0) := []
noncomputable def zq72.O (N : Nat) : Orc D0 zq72.R := orcOf (zq72.E N)
noncomputable def zq72.K0 : Ex → St D0 → Option zq72.R := exitK zq72.C Go.Proofs.Tryz.f90.results.toList [(false, [.any])] (decOut zq72.sig)
noncomputable def zq72.c1 : Code := codeAt (Go.Proofs.Tryz.f90.body.getD .skip) []
noncomputable def zq72.o0 (N : Nat) (a0 : Int) (a1 : Int) : Option zq72.R :=
 bif ((w64 (60 * a0)) == 0) then
  none
 else
 bif ((w64 (60 * a0)) == 0) then
  none
 else
 some ((Int.tmod (w64 ((Int.tmod (w64 ((w64 (a0 - 1)) * a1)) (w64 (60 * a0))) + (w64 (60 * a0)))) (w64 (60 * a0))))
theorem zq72.o0.run (N : Nat) (a0 : Int) (a1 : Int) : runC zq72.C (zq72.O N) N zq72.c1 1 (st0 [.one (.int .i64 a0), .one (.int .i64 a1)] [] : St D0) zq72.K0 = zq72.o0 N a0 a1 := by kernel_rfl
noncomputable def zq72.g (N : Nat) (a0 : Int) (a1 : Int) : Option zq72.R := zq72.o0 N a0 a1
theorem zq72.g.run (N : Nat) (a0 : Int) (a1 : Int) : runC zq72.C (zq72.O N) N zq72.c1 1 (st0 [.one (.int .i64 a0), .one (.int .i64 a1)] [] : St D0) zq72.K0 = zq72.g N a0 a1 := by
  exact (zq72.o0.run N a0 a1).trans rfl
theorem zq72.good (N : Nat) (a0 : Int) (a1 : Int) (r : zq72.R) (h : zq72.g N a0 a1 = some r) : Go.PM.Good Go.Proofs.Tryz.prog T0 90 [.one (.int .i64 a0), .one (.int .i64 a1)] [] (zq72.sig.ret r) (zq72.sig.bs r) :=
  good_fn tabOk0 mixed0 zq72.sig (zq72.E N) Go.Proofs.Tryz.func90 (by kernel_rfl) (by kernel_rfl) 19 0 0 [] 37536 false [] [(false, [.any])] (by kernel_rfl) rfl rfl ((zq72.g.run N a0 a1).trans h)
noncomputable def zq72.ent (N : Nat) : Ent Go.Proofs.Tryz.prog T0 := mkEnt 90 [(false, [.any]), (false, [.any])] zq72.sig (fun t => zq72.g N t.1 t.2) (fun t r h => zq72.good N t.1 t.2 r h)
end Go.Proofs.YtpeleommbipeaaaGreatDoor.M

namespace Go.Proofs.YtpeleommbipeaaaGreatDoor.M
open Go Go.PM Go.Proofs.YtpeleommbipeaaaGreatDoor.P
set_option linter.unusedVariables false
set_option maxRecDepth 100000
/-! ### zq83 -/
abbrev zq83.R : Type := Int
abbrev zq83.sig : Sig := ⟨[(false, 1), (false, 1)], [], [.int .i64, .int .i64], [(false, 1)], [], [.int .i64]⟩
noncomputable def zq83.C : Cfg D0 := ⟨Go.Proofs.Tryz.prog, T0, 563, 0, 15, 0, [], 9280, false, []⟩
noncomputable def zq83.E (N : Nat) : List (Ent Go.Proofs.Tryz.prog T0) := []
noncomputable def zq83.O (N : Nat) : Orc D0 zq83.R := orcOf (zq83.E N)
noncomputable def zq83.K0 : Ex → St D0 → Option zq83.R := exitK zq83.C Go.Proofs.Tryz.f107.results.toList [(false, [.any])] (decOut zq83.sig)
noncomputable def zq83.c1 : Code := codeAt (Go.Proofs.Tryz.f107.body.getD .skip) []
noncomputable def zq83.o0 (N : Nat) (a0 : Int) (a1 : Int) : Option zq83.R :=
 bif ((Int.tmod a1 2) == 1) then
  some (1)
 else
 bif (a1 == 0) then
  some (a0)
 else
 some ((w64 (Int.tdiv a1 2)))
theorem zq83.o0.run (N : Nat) (a0 : Int) (a1 : Int) : runC zq83.C (zq83.O N) N zq83.c1 1 (st0 [.one (.int .i64 a0), .one (.int .i64 a1)] [] : St D0) zq83.K0 = zq83.o0 N a0 a1 := by kernel_rfl
noncomputable def zq83.g (N : Nat) (a0 : Int) (a1 : Int) : Option zq83.R := zq83.o0 N a0 a1
theorem zq83.g.run (N : Nat) (a0 : Int) (a1 : Int) : runC zq83.C (zq83.O N) N zq83.c1 1 (st0 [.one (.int .i64 a0), .one (.int .i64 a1)] [] : St D0) zq83.K0 = zq83.g N a0 a1 := by
  exact (zq83.o0.run N a0 a1).trans rfl
theorem zq83.good (N : Nat) (a0 : Int) (a1 : Int) (r : zq83.R) (h : zq83.g N a0 a1 = some r) : Go.PM.Good Go.Proofs.Tryz.prog T0 107 [.one (.int .i64 a0), .one (.int .i64 a1)] [] (zq83.sig.ret r) (zq83.sig.bs r) :=
  good_fn tabOk0 mixed0 zq83.sig (zq83.E N) Go.Proofs.Tryz.func107 (by kernel_rfl) (by kernel_rfl) 563 0 0 [] 9280 false [] [(false, [.any])] (by kernel_rfl) rfl rfl ((zq83.g.run N a0 a1).trans h)
noncomputable def zq83.ent (N : Nat) : Ent Go.Proofs.Tryz.prog T0 := mkEnt 107 [(false, [.any]), (false, [.any])] zq83.sig (fun t => zq83.g N t.1 t.2) (fun t r h => zq83.good N t.1 t.2 r h)
end Go.Proofs.YtpeleommbipeaaaGreatDoor.M

namespace Go.Proofs.YtpeleommbipeaaaGreatDoor.M
open Go Go.PM Go.Proofs.YtpeleommbipeaaaGreatDoor.P
set_option linter.unusedVariables false
set_option maxRecDepth 100000
/-! ### zq77 -/
abbrev zq77.R : Type := Int
abbrev zq77.sig : Sig := ⟨[(false, 1), (false, 1)], [], [.int .i64, .int .i64], [(false, 1)], [], [.int .i64]⟩
noncomputable def zq77.C : Cfg D0 := ⟨Go.Proofs.Tryz.prog, T0, 19, 0, 13, 0, [], 608, false, []⟩
noncomputable def zq77.E (N : Nat) : List (Ent Go.Proofs.Tryz.prog T0) := [zq83.ent N]
noncomputable def zq77.O (N : Nat) : Orc D0 zq77.R := orcOf (zq77.E N)
noncomputable def zq77.K0 : Ex → St D0 → Option zq77.R := exitK zq77.C Go.Proofs.Tryz.f91.results.toList [(false, [.any])] (decOut zq77.sig)
noncomputable def zq77.c1 : Code := codeAt (Go.Proofs.Tryz.f91.body.getD .skip) []
noncomputable def zq77.o0 (N : Nat) (a0 : Int) (a1 : Int) : Option zq77.R :=
 bif (a0 == 0) then
  none
 else
 (zq83.g N a0 (w64 (2 * (Int.tmod (w64 ((w64 (Int.tdiv a1 60)) + 1)) a0)))).bind fun r1 =>
 some (r1)
theorem zq77.o0.run (N : Nat) (a0 : Int) (a1 : Int) : runC zq77.C (zq77.O N) N zq77.c1 1 (st0 [.one (.int .i64 a0), .one (.int .i64 a1)] [] : St D0) zq77.K0 = zq77.o0 N a0 a1 := by kernel_rfl
noncomputable def zq77.g (N : Nat) (a0 : Int) (a1 : Int) : Option zq77.R := zq77.o0 N a0 a1
theorem zq77.g.run (N : Nat) (a0 : Int) (a1 : Int) : runC zq77.C (zq77.O N) N zq77.c1 1 (st0 [.one (.int .i64 a0), .one (.int .i64 a1)] [] : St D0) zq77.K0 = zq77.g N a0 a1 := by
  exact (zq77.o0.run N a0 a1).trans rfl
theorem zq77.good (N : Nat) (a0 : Int) (a1 : Int) (r : zq77.R) (h : zq77.g N a0 a1 = some r) : Go.PM.Good Go.Proofs.Tryz.prog T0 91 [.one (.int .i64 a0), .one (.int .i64 a1)] [] (zq77.sig.ret r) (zq77.sig.bs r) :=
  good_fn tabOk0 mixed0 zq77.sig (zq77.E N) Go.Proofs.Tryz.func91 (by kernel_rfl) (by kernel_rfl) 19 0 0 [] 608 false [] [(false, [.any])] (by kernel_rfl) rfl rfl ((zq77.g.run N a0 a1).trans h)
noncomputable def zq77.ent (N : Nat) : Ent Go.Proofs.Tryz.prog T0 := mkEnt 91 [(false, [.any]), (false, [.any])] zq77.sig (fun t => zq77.g N t.1 t.2) (fun t r h => zq77.good N t.1 t.2 r h)
end Go.Proofs.YtpeleommbipeaaaGreatDoor.M

namespace Go.Proofs.YtpeleommbipeaaaGreatDoor.M
open Go Go.PM Go.Proofs.YtpeleommbipeaaaGreatDoor.P
set_option linter.unusedVariables false
set_option maxRecDepth 100000
/-! ### zq67 -/
abbrev zq67.R : Type := Int
abbrev zq67.sig : Sig := ⟨[(false, 1), (false, 1)], [], [.int .i64, .int .i64], [(false, 1)], [], [.int .i64]⟩
noncomputable def zq67.C : Cfg D0 := ⟨Go.Proofs.Tryz.prog, T0, 147, 0, 10, 0, [], 96, false, []⟩
noncomputable def zq67.E (N : Nat) : List (Ent Go.Proofs.Tryz.prog T0) := []
noncomputable def zq67.O (N : Nat) : Orc D0 zq67.R := orcOf (zq67.E N)
noncomputable def zq67.K0 : Ex → St D0 → Option zq67.R := exitK zq67.C Go.Proofs.Tryz.f108.results.toList [(false, [.any])] (decOut zq67.sig)
noncomputable def zq67.c1 : Code := codeAt (Go.Proofs.Tryz.f108.body.getD .skip) []
noncomputable def zq67.o0 (N : Nat) (a0 : Int) (a1 : Int) : Option zq67.R :=
 bif (decide (a0 > a1)) then
  some (a0)
 else
 some (a1)
theorem zq67.o0.run (N : Nat) (a0 : Int) (a1 : Int) : runC zq67.C (zq67.O N) N zq67.c1 1 (st0 [.one (.int .i64 a0), .one (.int .i64 a1)] [] : St D0) zq67.K0 = zq67.o0 N a0 a1 := by kernel_rfl
noncomputable def zq67.g (N : Nat) (a0 : Int) (a1 : Int) : Option zq67.R := zq67.o0 N a0 a1
theorem zq67.g.run (N : Nat) (a0 : Int) (a1 : Int) : runC zq67.C (zq67.O N) N zq67.c1 1 (st0 [.one (.int .i64 a0), .one (.int .i64 a1)] [] : St D0) zq67.K0 = zq67.g N a0 a1 := by
  exact (zq67.o0.run N a0 a1).trans rfl
theorem zq67.good (N : Nat) (a0 : Int) (a1 : Int) (r : zq67.R) (h : zq67.g N a0 a1 = some r) : Go.PM.Good Go.Proofs.Tryz.prog T0 108 [.one (.int .i64 a0), .one (.int .i64 a1)] [] (zq67.sig.ret r) (zq67.sig.bs r) :=
  good_fn tabOk0 mixed0 zq67.sig (zq67.E N) Go.Proofs.Tryz.func108 (by kernel_rfl) (by kernel_rfl) 147 0 0 [] 96 false [] [(false, [.any])] (by kernel_rfl) rfl rfl ((zq67.g.run N a0 a1).trans h)
noncomputable def zq67.ent (N : Nat) : Ent Go.Proofs.Tryz.prog T0 := mkEnt 108 [(false, [.any]), (false, [.any])] zq67.sig (fun t => zq67.g N t.1 t.2) (fun t r h => zq67.good N t.1 t.2 r h)
end Go.Proofs.YtpeleommbipeaaaGreatDoor.M

namespace Go.Proofs.YtpeleommbipeaaaGreatDoor.M
open Go Go.PM Go.Proofs.YtpeleommbipeaaaGreatDoor.P
set_option linter.unusedVariables false
set_option maxRecDepth 100000
/-! ### zq58 -/
abbrev zq58.R : Type := Int
abbrev zq58.sig : Sig := ⟨[(false, 1)], [], [.int .i64], [(false, 1)], [], [.int .i64]⟩
noncomputable def zq58.C : Cfg D0 := ⟨Go.Proofs.Tryz.prog, T0, 5, 0, 7, 0, [], 24, false, []⟩
noncomputable def zq58.E (N : Nat) : List (Ent Go.Proofs.Tryz.prog T0) := [zq67.ent N]
noncomputable def zq58.O (N : Nat) : Orc D0 zq58.R := orcOf (zq58.E N)
noncomputable def zq58.K0 : Ex → St D0 → Option zq58.R := exitK zq58.C Go.Proofs.Tryz.f92.results.toList [(false, [.any])] (decOut zq58.sig)
noncomputable def zq58.c1 : Code := codeAt (Go.Proofs.Tryz.f92.body.getD .skip) []
noncomputable def zq58.o0 (N : Nat) (a0 : Int) : Option zq58.R :=
 (zq67.g N a0 (w64 (0 - a0))).bind fun r1 =>
 some (r1)
theorem zq58.o0.run (N : Nat) (a0 : Int) : runC zq58.C (zq58.O N) N zq58.c1 1 (st0 [.one (.int .i64 a0)] [] : St D0) zq58.K0 = zq58.o0 N a0 := by kernel_rfl
noncomputable def zq58.g (N : Nat) (a0 : Int) : Option zq58.R := zq58.o0 N a0
theorem zq58.g.run (N : Nat) (a0 : Int) : runC zq58.C (zq58.O N) N zq58.c1 1 (st0 [.one (.int .i64 a0)] [] : St D0) zq58.K0 = zq58.g N a0 := by
  exact (zq58.o0.run N a0).trans rfl
theorem zq58.good (N : Nat) (a0 : Int) (r : zq58.R) (h : zq58.g N a0 = some r) : Go.PM.Good Go.Proofs.Tryz.prog T0 92 [.one (.int .i64 a0)] [] (zq58.sig.ret r) (zq58.sig.bs r) :=
  good_fn tabOk0 mixed0 zq58.sig (zq58.E N) Go.Proofs.Tryz.func92 (by kernel_rfl) (by kernel_rfl) 5 0 0 [] 24 false [] [(false, [.any])] (by kernel_rfl) rfl rfl ((zq58.g.run N a0).trans h)
noncomputable def zq58.ent (N : Nat) : Ent Go.Proofs.Tryz.prog T0 := mkEnt 92 [(false, [.any])] zq58.sig (fun t => zq58.g N t) (fun t r h => zq58.good N t r h)
end Go.Proofs.YtpeleommbipeaaaGreatDoor.M

namespace Go.Proofs.YtpeleommbipeaaaGreatDoor.M
open Go Go.PM Go.Proofs.YtpeleommbipeaaaGreatDoor.P
set_option linter.unusedVariables false
set_option maxRecDepth 100000
/-! ### zq75 -/
abbrev zq75.R : Type := Bool
abbrev zq75.sig : Sig := ⟨[(false, 1), (true, 3), (false, 1)], [], [.int .i64, .int .i64, .int .i64, .int .i64, .int .i64], [(false, 1)], [], [.bool]⟩
noncomputable def zq75.C : Cfg D0 := ⟨Go.Proofs.Tryz.prog, T0, 288300745971778007, 0, 73, 0, [], 224822790881512917504, false, []⟩
noncomputable def zq75.E (N : Nat) : List (Ent Go.Proofs.Tryz.prog T0) := [zq72.ent N, zq77.ent N, zq58.ent N]
noncomputable def zq75.O (N : Nat) : Orc D0 zq75.R := orcOf (zq75.E N)
noncomputable def zq75.K0 : Ex → St D0 → Option zq75.R := exitK zq75.C Go.Proofs.Tryz.f69.results.toList [(false, [.any])] (decOut zq75.sig)
noncomputable def zq75.c1 : Code := codeAt (Go.Proofs.Tryz.f69.body.getD .skip) []
noncomputable def zq75.o0 (N : Nat) (a0 : Int) (a1_0 : Int) (a1_1 : Int) (a1_2 : Int) (a2 : Int) : Option zq75.R :=
 bif (a1_0 == 0) then
  some (((w64 (Int.tdiv a2 60)) == a1_1))
 else
 bif (a1_0 == 1) then
  bif (a1_1 == 0) then
   none
  else
  some (((Int.tmod (Int.tmod a2 60) a1_1) == a1_2))
 else
 bif (a1_0 == 2) then
  some (((w64 ((w64 ((w64 ((w64 (Int.tdiv (w64 (Int.tdiv a2 60)) 10)) + (Int.tmod (w64 (Int.tdiv a2 60)) 10))) + (w64 (Int.tdiv (Int.tmod a2 60) 10)))) + (Int.tmod (Int.tmod a2 60) 10))) == a1_1))
 else
 bif (a1_0 == 3) then
  (zq72.g N a0 a2).bind fun r1 =>
  some (((decide (r1 < (w64 (30 * a0)))) == (a1_1 == 1)))
 else
 bif (a1_0 == 4) then
  (zq77.g N a0 a2).bind fun r2 =>
  some ((r2 == a1_1))
 else
 (zq58.g N (w64 ((w64 (Int.tdiv a2 60)) - (Int.tmod a2 60)))).bind fun r3 =>
 some ((r3 == a1_1))
theorem zq75.o0.run (N : Nat) (a0 : Int) (a1_0 : Int) (a1_1 : Int) (a1_2 : Int) (a2 : Int) : runC zq75.C (zq75.O N) N zq75.c1 1 (st0 [.one (.int .i64 a0), .agg [.int .i64 a1_0, .int .i64 a1_1, .int .i64 a1_2], .one (.int .i64 a2)] [] : St D0) zq75.K0 = zq75.o0 N a0 a1_0 a1_1 a1_2 a2 := by kernel_rfl
noncomputable def zq75.g (N : Nat) (a0 : Int) (a1_0 : Int) (a1_1 : Int) (a1_2 : Int) (a2 : Int) : Option zq75.R := zq75.o0 N a0 a1_0 a1_1 a1_2 a2
theorem zq75.g.run (N : Nat) (a0 : Int) (a1_0 : Int) (a1_1 : Int) (a1_2 : Int) (a2 : Int) : runC zq75.C (zq75.O N) N zq75.c1 1 (st0 [.one (.int .i64 a0), .agg [.int .i64 a1_0, .int .i64 a1_1, .int .i64 a1_2], .one (.int .i64 a2)] [] : St D0) zq75.K0 = zq75.g N a0 a1_0 a1_1 a1_2 a2 := by
  exact (zq75.o0.run N a0 a1_0 a1_1 a1_2 a2).trans rfl
theorem zq75.good (N : Nat) (a0 : Int) (a1_0 : Int) (a1_1 : Int) (a1_2 : Int) (a2 : Int) (r : zq75.R) (h : zq75.g N a0 a1_0 a1_1 a1_2 a2 = some r) : Go.PM.Good Go.Proofs.Tryz.prog T0 69 [.one (.int .i64 a0), .agg [.int .i64 a1_0, .int .i64 a1_1, .int .i64 a1_2], .one (.int .i64 a2)] [] (zq75.sig.ret r) (zq75.sig.bs r) :=
  good_fn tabOk0 mixed0 zq75.sig (zq75.E N) Go.Proofs.Tryz.func69 (by kernel_rfl) (by kernel_rfl) 288300745971778007 0 0 [] 224822790881512917504 false [] [(false, [.any])] (by kernel_rfl) rfl rfl ((zq75.g.run N a0 a1_0 a1_1 a1_2 a2).trans h)
noncomputable def zq75.ent (N : Nat) : Ent Go.Proofs.Tryz.prog T0 := mkEnt 69 [(false, [.any]), (true, [.any, .any, .any]), (false, [.any])] zq75.sig (fun t => zq75.g N t.1 t.2.1 t.2.2.1 t.2.2.2.1 t.2.2.2.2) (fun t r h => zq75.good N t.1 t.2.1 t.2.2.1 t.2.2.2.1 t.2.2.2.2 r h)
end Go.Proofs.YtpeleommbipeaaaGreatDoor.M

namespace Go.Proofs.YtpeleommbipeaaaGreatDoor.M
open Go Go.PM Go.Proofs.YtpeleommbipeaaaGreatDoor.P
set_option linter.unusedVariables false
set_option maxRecDepth 100000
/-! ### zq74 -/
abbrev zq74.R : Type := Bool
abbrev zq74.sig : Sig := ⟨[(false, 1), (true, 3)], [], [.int .i64, .int .i64, .int .i64, .int .i64], [(false, 1)], [], [.bool]⟩
noncomputable def zq74.C : Cfg D0 := ⟨Go.Proofs.Tryz.prog, T0, 2288118061387803, 0, 56, 0, [(12, [0, 3, 12], [3])], 562949953945600, false, []⟩
noncomputable def zq74.E (N : Nat) : List (Ent Go.Proofs.Tryz.prog T0) := [zq66.ent N]
noncomputable def zq74.O (N : Nat) : Orc D0 zq74.R := orcOf (zq74.E N)
noncomputable def zq74.K0 : Ex → St D0 → Option zq74.R := exitK zq74.C Go.Proofs.Tryz.f68.results.toList [(false, [.any])] (decOut zq74.sig)
noncomputable def zq74.c1 : Code := codeAt (Go.Proofs.Tryz.f68.body.getD .skip) []
noncomputable def zq74.c2 : Code := codeAt (Go.Proofs.Tryz.f68.body.getD .skip) [false]
noncomputable def zq74.c7 : Code := codeAt (Go.Proofs.Tryz.f68.body.getD .skip) [true, true]
noncomputable def zq74.c12 : Code := codeAt (Go.Proofs.Tryz.f68.body.getD .skip) [true, false, false]
noncomputable def zq74.c13 : Code := codeAt (Go.Proofs.Tryz.f68.body.getD .skip) [true, false, true]
noncomputable def zq74.K13 (N : Nat) : Ex → St D0 → Option zq74.R := (onN (fun s => zq74.C.tidy 6 s (fun s' => runC zq74.C (zq74.O N) N zq74.c7 7 s' zq74.K0)) zq74.K0)
noncomputable def zq74.o1 (N : Nat) (v0 : Int) (v1 : Bool) (v2 : Int) (v3 : Int) (v4 : Int) : Option zq74.R :=
 bif v1 then
  some (false)
 else
 bif (v2 == 0) then
  (zq66.g N v3 0 (w64 (v0 - 1))).bind fun r1 =>
  some (r1)
 else
 bif (v2 == 1) then
  (zq66.g N v3 2 60).bind fun r2 =>
  bif r2 then
   (zq66.g N v4 0 (w64 (v3 - 1))).bind fun r3 =>
   some (r3)
  else
  some (false)
 else
 bif (v2 == 2) then
  (zq66.g N v3 0 30).bind fun r4 =>
  some (r4)
 else
 bif (v2 == 3) then
  (zq66.g N v3 0 1).bind fun r5 =>
  some (r5)
 else
 bif (v2 == 4) then
  (zq66.g N v3 1 v0).bind fun r6 =>
  some (r6)
 else
 bif (v2 == 5) then
  (zq66.g N v3 0 59).bind fun r7 =>
  some (r7)
 else
 some (false)
theorem zq74.o1.run (N : Nat) (v0 : Int) (v1 : Bool) (v2 : Int) (v3 : Int) (v4 : Int) : runC zq74.C (zq74.O N) N zq74.c13 13 (mkSt [(0, .one (.int .i64 v0)), (3, .one (.ptr 3 0)), (12, .one (.bool v1))] [(3, some (41, [.int .i64 v2, .int .i64 v3, .int .i64 v4]))] : St D0) (onN (fun s => zq74.C.tidy 6 s (fun s' => runC zq74.C (zq74.O N) N zq74.c7 7 s' zq74.K0)) zq74.K0) = zq74.o1 N v0 v1 v2 v3 v4 := by kernel_rfl
noncomputable def zq74.d1 (N : Nat) (v0 : Int) (v1 : Bool) (v2 : Int) (v3 : Int) (v4 : Int) : Option zq74.R := zq74.o1 N v0 v1 v2 v3 v4
theorem zq74.d1.run (N : Nat) (v0 : Int) (v1 : Bool) (v2 : Int) (v3 : Int) (v4 : Int) : runC zq74.C (zq74.O N) N zq74.c13 13 (mkSt [(0, .one (.int .i64 v0)), (3, .one (.ptr 3 0)), (12, .one (.bool v1))] [(3, some (41, [.int .i64 v2, .int .i64 v3, .int .i64 v4]))] : St D0) (zq74.K13 N) = zq74.d1 N v0 v1 v2 v3 v4 := by
  exact (zq74.o1.run N v0 v1 v2 v3 v4).trans rfl
noncomputable def zq74.o0 (N : Nat) (a0 : Int) (a1_0 : Int) (a1_1 : Int) (a1_2 : Int) (c1 : Int → Bool → Int → Int → Int → Option zq74.R) : Option zq74.R :=
 bif (a1_0 != 1) then
  c1 a0 (a1_2 != 0) a1_0 a1_1 a1_2
 else
 c1 a0 false a1_0 a1_1 a1_2
theorem zq74.o0.run (N : Nat) (H13 : Code) (a0 : Int) (a1_0 : Int) (a1_1 : Int) (a1_2 : Int) : runC zq74.C (zq74.O N) N (.seq zq74.c2 (.seq (.seq zq74.c12 H13) zq74.c7)) 1 (st0 [.one (.int .i64 a0), .agg [.int .i64 a1_0, .int .i64 a1_1, .int .i64 a1_2]] [] : St D0) zq74.K0 = zq74.o0 N a0 a1_0 a1_1 a1_2 ((fun w0 w1 w2 w3 w4 => runC zq74.C (zq74.O N) N H13 13 (mkSt [(0, .one (.int .i64 w0)), (3, .one (.ptr 3 0)), (12, .one (.bool w1))] [(3, some (41, [.int .i64 w2, .int .i64 w3, .int .i64 w4]))] : St D0) (onN (fun s => zq74.C.tidy 6 s (fun s' => runC zq74.C (zq74.O N) N zq74.c7 7 s' zq74.K0)) zq74.K0))) := by kernel_rfl
noncomputable def zq74.B6 (N : Nat) : St D0 → Option zq74.R := fun s' => runC zq74.C (zq74.O N) N zq74.c13 13 s' (zq74.K13 N)
noncomputable def zq74.g (N : Nat) (a0 : Int) (a1_0 : Int) (a1_1 : Int) (a1_2 : Int) : Option zq74.R := zq74.o0 N a0 a1_0 a1_1 a1_2 ((fun w0 w1 w2 w3 w4 => zq74.d1 N w0 w1 w2 w3 w4))
theorem zq74.c1_0 : zq74.c1 = (.seq zq74.c2 (.seq (.seq zq74.c12 zq74.c13) zq74.c7)) := by kernel_rfl
theorem zq74.g.run (N : Nat) (a0 : Int) (a1_0 : Int) (a1_1 : Int) (a1_2 : Int) : runC zq74.C (zq74.O N) N zq74.c1 1 (st0 [.one (.int .i64 a0), .agg [.int .i64 a1_0, .int .i64 a1_1, .int .i64 a1_2]] [] : St D0) zq74.K0 = zq74.g N a0 a1_0 a1_1 a1_2 := by
  rw [zq74.c1_0]; unfold zq74.g; exact (zq74.o0.run N zq74.c13 a0 a1_0 a1_1 a1_2).trans (congr rfl (funext fun w0 => funext fun w1 => funext fun w2 => funext fun w3 => funext fun w4 => zq74.d1.run N w0 w1 w2 w3 w4))
theorem zq74.good (N : Nat) (a0 : Int) (a1_0 : Int) (a1_1 : Int) (a1_2 : Int) (r : zq74.R) (h : zq74.g N a0 a1_0 a1_1 a1_2 = some r) : Go.PM.Good Go.Proofs.Tryz.prog T0 68 [.one (.int .i64 a0), .agg [.int .i64 a1_0, .int .i64 a1_1, .int .i64 a1_2]] [] (zq74.sig.ret r) (zq74.sig.bs r) :=
  good_fn tabOk0 mixed0 zq74.sig (zq74.E N) Go.Proofs.Tryz.func68 (by kernel_rfl) (by kernel_rfl) 2288118061387803 0 0 [(12, [0, 3, 12], [3])] 562949953945600 false [] [(false, [.any])] (by kernel_rfl) rfl rfl ((zq74.g.run N a0 a1_0 a1_1 a1_2).trans h)
noncomputable def zq74.ent (N : Nat) : Ent Go.Proofs.Tryz.prog T0 := mkEnt 68 [(false, [.any]), (true, [.any, .any, .any])] zq74.sig (fun t => zq74.g N t.1 t.2.1 t.2.2.1 t.2.2.2) (fun t r h => zq74.good N t.1 t.2.1 t.2.2.1 t.2.2.2 r h)
end Go.Proofs.YtpeleommbipeaaaGreatDoor.M

namespace Go.Proofs.YtpeleommbipeaaaGreatDoor.M
open Go Go.PM Go.Proofs.YtpeleommbipeaaaGreatDoor.P
set_option linter.unusedVariables false
set_option maxRecDepth 100000
/-! ### zq76 -/
abbrev zq76.R : Type := Bool
abbrev zq76.sig : Sig := ⟨[(true, 2)], [], [.int .i64, .sl false 41], [(false, 1)], [], [.bool]⟩
noncomputable def zq76.C : Cfg D0 := ⟨Go.Proofs.Tryz.prog, T0, 68108311, 0, 28, 0, [(12, [1, 14], [1]), (58, [1, 16, 17, 18], [1])], 0, false, []⟩
noncomputable def zq76.E (N : Nat) : List (Ent Go.Proofs.Tryz.prog T0) := [zq55.ent N, zq74.ent N]
noncomputable def zq76.O (N : Nat) : Orc D0 zq76.R := orcOf (zq76.E N)
noncomputable def zq76.K0 : Ex → St D0 → Option zq76.R := exitK zq76.C Go.Proofs.Tryz.f39.results.toList [(false, [.any])] (decOut zq76.sig)
noncomputable def zq76.c1 : Code := codeAt (Go.Proofs.Tryz.f39.body.getD .skip) []
noncomputable def zq76.c2 : Code := codeAt (Go.Proofs.Tryz.f39.body.getD .skip) [false]
noncomputable def zq76.c7 : Code := codeAt (Go.Proofs.Tryz.f39.body.getD .skip) [true, true]
noncomputable def zq76.c12 : Code := codeAt (Go.Proofs.Tryz.f39.body.getD .skip) [true, false, false]
noncomputable def zq76.c13 : Code := codeAt (Go.Proofs.Tryz.f39.body.getD .skip) [true, false, true]
noncomputable def zq76.c15 : Code := codeAt (Go.Proofs.Tryz.f39.body.getD .skip) [true, true, true]
noncomputable def zq76.c28 : Code := codeAt (Go.Proofs.Tryz.f39.body.getD .skip) [true, true, false, false]
noncomputable def zq76.c116 : Code := codeAt (Go.Proofs.Tryz.f39.body.getD .skip) [true, true, false, true, false, false]
noncomputable def zq76.K116 (N : Nat) (Kn58 : St D0 → Option zq76.R) : Ex → St D0 → Option zq76.R := ((fun up => (onN (fun s => zq76.C.tidy 58 s ((onN Kn58 up) .normal)) (onN Kn58 up))) (blockK 0 (onN (fun s => zq76.C.tidy 14 s (fun s' => runC zq76.C (zq76.O N) N zq76.c15 15 s' zq76.K0)) zq76.K0)))
noncomputable def zq76.o2 (N : Nat) (v0 : List S41) (v1 : Int) (v2 : Int) (v3 : Int) (v4 : List S41) (c2 : (List S41) → Int → Int → Int → (List S41) → Option zq76.R) : Option zq76.R :=
 bif (decide (v2 < v1)) then
  bif (decide (0 ≤ v2)) then
   bif (decide (v2 < (v0.length : Int))) then
    (v0[(v2 : Int).toNat]?).bind fun x1 =>
    (zq74.g N v3 x1.f0 x1.f1 x1.f2).bind fun r2 =>
    bif (!r2) then
     some (false)
    else
    c2 v0 v1 (w64 (v2 + 1)) v3 v4
   else
   none
  else
  none
 else
 some (true)
theorem zq76.o2.run (N : Nat) (Kn58 : St D0 → Option zq76.R) (v0 : List S41) (v1 : Int) (v2 : Int) (v3 : Int) (v4 : List S41) : runC zq76.C (zq76.O N) N zq76.c116 116 (mkSt [(1, .one (.ptr 1 0)), (16, .one (.sl false 41 v0)), (17, .one (.int .i64 v1)), (18, .one (.int .i64 v2))] [(1, some (24, [.int .i64 v3, .sl false 41 v4]))] : St D0) ((fun up => (onN (fun s => zq76.C.tidy 58 s ((onN Kn58 up) .normal)) (onN Kn58 up))) (blockK 0 (onN (fun s => zq76.C.tidy 14 s (fun s' => runC zq76.C (zq76.O N) N zq76.c15 15 s' zq76.K0)) zq76.K0))) = zq76.o2 N v0 v1 v2 v3 v4 ((fun w0 w1 w2 w3 w4 => Kn58 (mkSt [(1, .one (.ptr 1 0)), (16, .one (.sl false 41 w0)), (17, .one (.int .i64 w1)), (18, .one (.int .i64 w2))] [(1, some (24, [.int .i64 w3, .sl false 41 w4]))] : St D0))) := by kernel_rfl
noncomputable def zq76.d2 (N : Nat) (v0 : List S41) (v1 : Int) (v2 : Int) (v3 : Int) (v4 : List S41) (c2 : (List S41) → Int → Int → Int → (List S41) → Option zq76.R) : Option zq76.R := zq76.o2 N v0 v1 v2 v3 v4 c2
theorem zq76.d2.run (N : Nat) (Kn58 : St D0 → Option zq76.R) (v0 : List S41) (v1 : Int) (v2 : Int) (v3 : Int) (v4 : List S41) : runC zq76.C (zq76.O N) N zq76.c116 116 (mkSt [(1, .one (.ptr 1 0)), (16, .one (.sl false 41 v0)), (17, .one (.int .i64 v1)), (18, .one (.int .i64 v2))] [(1, some (24, [.int .i64 v3, .sl false 41 v4]))] : St D0) (zq76.K116 N Kn58) = zq76.d2 N v0 v1 v2 v3 v4 ((fun w0 w1 w2 w3 w4 => Kn58 (mkSt [(1, .one (.ptr 1 0)), (16, .one (.sl false 41 w0)), (17, .one (.int .i64 w1)), (18, .one (.int .i64 w2))] [(1, some (24, [.int .i64 w3, .sl false 41 w4]))] : St D0))) := by
  exact (zq76.o2.run N Kn58 v0 v1 v2 v3 v4).trans rfl
noncomputable def zq76.K58 (N : Nat) : Ex → St D0 → Option zq76.R := (blockK 0 (onN (fun s => zq76.C.tidy 14 s (fun s' => runC zq76.C (zq76.O N) N zq76.c15 15 s' zq76.K0)) zq76.K0))
noncomputable def zq76.l2 (N : Nat) : Nat → (List S41) → Int → Int → Int → (List S41) → Option zq76.R
  | 0, _, _, _, _, _ => none
  | n + 1, v0, v1, v2, v3, v4 => zq76.d2 N v0 v1 v2 v3 v4 ((fun w0 w1 w2 w3 w4 => zq76.l2 N n w0 w1 w2 w3 w4))
theorem zq76.loop58 (N : Nat) : ∀ n, (∀ (v0 : List S41) (v1 : Int) (v2 : Int) (v3 : Int) (v4 : List S41), iter (loopF zq76.C (zq76.O N) N zq76.c116 58) n (mkSt [(1, .one (.ptr 1 0)), (16, .one (.sl false 41 v0)), (17, .one (.int .i64 v1)), (18, .one (.int .i64 v2))] [(1, some (24, [.int .i64 v3, .sl false 41 v4]))] : St D0) (zq76.K58 N) = zq76.l2 N n v0 v1 v2 v3 v4)
  | 0 => (fun v0 v1 v2 v3 v4 => rfl)
  | n + 1 => (fun v0 v1 v2 v3 v4 => (zq76.d2.run N (fun s => iter (loopF zq76.C (zq76.O N) N zq76.c116 58) n s (zq76.K58 N)) v0 v1 v2 v3 v4).trans (show _ = zq76.d2 N v0 v1 v2 v3 v4 ((fun w0 w1 w2 w3 w4 => zq76.l2 N n w0 w1 w2 w3 w4)) from (congr rfl (funext fun w0 => funext fun w1 => funext fun w2 => funext fun w3 => funext fun w4 => (zq76.loop58 N n) w0 w1 w2 w3 w4))))
noncomputable def zq76.K13 (N : Nat) : Ex → St D0 → Option zq76.R := (onN (fun s => zq76.C.tidy 6 s (fun s' => runC zq76.C (zq76.O N) N zq76.c7 7 s' zq76.K0)) zq76.K0)
noncomputable def zq76.o1 (N : Nat) (v0 : Bool) (v1 : Int) (v2 : List S41) (c2 : (List S41) → Int → Int → Int → (List S41) → Option zq76.R) : Option zq76.R :=
 bif v0 then
  some (false)
 else
 c2 v2 (v2.length : Int) 0 v1 v2
theorem zq76.o1.run (N : Nat) (H116 : Code) (v0 : Bool) (v1 : Int) (v2 : List S41) : runC zq76.C (zq76.O N) N zq76.c13 13 (mkSt [(1, .one (.ptr 1 0)), (14, .one (.bool v0))] [(1, some (24, [.int .i64 v1, .sl false 41 v2]))] : St D0) (onN (fun s => zq76.C.tidy 6 s (fun s' => runC zq76.C (zq76.O N) N (.seq (.seq zq76.c28 (.block 0 (.loop H116))) zq76.c15) 7 s' zq76.K0)) zq76.K0) = zq76.o1 N v0 v1 v2 ((fun w0 w1 w2 w3 w4 => iter (loopF zq76.C (zq76.O N) N H116 58) N (mkSt [(1, .one (.ptr 1 0)), (16, .one (.sl false 41 w0)), (17, .one (.int .i64 w1)), (18, .one (.int .i64 w2))] [(1, some (24, [.int .i64 w3, .sl false 41 w4]))] : St D0) (blockK 0 (onN (fun s => zq76.C.tidy 14 s (fun s' => runC zq76.C (zq76.O N) N zq76.c15 15 s' zq76.K0)) zq76.K0)))) := by kernel_rfl
noncomputable def zq76.d1 (N : Nat) (v0 : Bool) (v1 : Int) (v2 : List S41) : Option zq76.R := zq76.o1 N v0 v1 v2 ((fun w0 w1 w2 w3 w4 => zq76.l2 N N w0 w1 w2 w3 w4))
theorem zq76.d1.run (N : Nat) (v0 : Bool) (v1 : Int) (v2 : List S41) : runC zq76.C (zq76.O N) N zq76.c13 13 (mkSt [(1, .one (.ptr 1 0)), (14, .one (.bool v0))] [(1, some (24, [.int .i64 v1, .sl false 41 v2]))] : St D0) (zq76.K13 N) = zq76.d1 N v0 v1 v2 := by
  unfold zq76.d1; exact (zq76.o1.run N zq76.c116 v0 v1 v2).trans (congr rfl (funext fun w0 => funext fun w1 => funext fun w2 => funext fun w3 => funext fun w4 => (zq76.loop58 N N) w0 w1 w2 w3 w4))
noncomputable def zq76.o0 (N : Nat) (a0_0 : Int) (a0_1 : List S41) (c1 : Bool → Int → (List S41) → Option zq76.R) : Option zq76.R :=
 (zq55.g N a0_0).bind fun r1 =>
 bif (!r1) then
  c1 true a0_0 a0_1
 else
 c1 (decide ((a0_1.length : Int) > 6)) a0_0 a0_1
theorem zq76.o0.run (N : Nat) (H13 : Code) (a0_0 : Int) (a0_1 : List S41) : runC zq76.C (zq76.O N) N (.seq zq76.c2 (.seq (.seq zq76.c12 H13) zq76.c7)) 1 (st0 [.agg [.int .i64 a0_0, .sl false 41 a0_1]] [] : St D0) zq76.K0 = zq76.o0 N a0_0 a0_1 ((fun w0 w1 w2 => runC zq76.C (zq76.O N) N H13 13 (mkSt [(1, .one (.ptr 1 0)), (14, .one (.bool w0))] [(1, some (24, [.int .i64 w1, .sl false 41 w2]))] : St D0) (onN (fun s => zq76.C.tidy 6 s (fun s' => runC zq76.C (zq76.O N) N zq76.c7 7 s' zq76.K0)) zq76.K0))) := by kernel_rfl
noncomputable def zq76.B6 (N : Nat) : St D0 → Option zq76.R := fun s' => runC zq76.C (zq76.O N) N zq76.c13 13 s' (zq76.K13 N)
noncomputable def zq76.g (N : Nat) (a0_0 : Int) (a0_1 : List S41) : Option zq76.R := zq76.o0 N a0_0 a0_1 ((fun w0 w1 w2 => zq76.d1 N w0 w1 w2))
theorem zq76.c1_0 : zq76.c1 = (.seq zq76.c2 (.seq (.seq zq76.c12 zq76.c13) zq76.c7)) := by kernel_rfl
theorem zq76.g.run (N : Nat) (a0_0 : Int) (a0_1 : List S41) : runC zq76.C (zq76.O N) N zq76.c1 1 (st0 [.agg [.int .i64 a0_0, .sl false 41 a0_1]] [] : St D0) zq76.K0 = zq76.g N a0_0 a0_1 := by
  rw [zq76.c1_0]; unfold zq76.g; exact (zq76.o0.run N zq76.c13 a0_0 a0_1).trans (congr rfl (funext fun w0 => funext fun w1 => funext fun w2 => zq76.d1.run N w0 w1 w2))
theorem zq76.good (N : Nat) (a0_0 : Int) (a0_1 : List S41) (r : zq76.R) (h : zq76.g N a0_0 a0_1 = some r) : Go.PM.Good Go.Proofs.Tryz.prog T0 39 [.agg [.int .i64 a0_0, .sl false 41 a0_1]] [] (zq76.sig.ret r) (zq76.sig.bs r) :=
  good_fn tabOk0 mixed0 zq76.sig (zq76.E N) Go.Proofs.Tryz.func39 (by kernel_rfl) (by kernel_rfl) 68108311 0 0 [(12, [1, 14], [1]), (58, [1, 16, 17, 18], [1])] 0 false [] [(false, [.any])] (by kernel_rfl) rfl rfl ((zq76.g.run N a0_0 a0_1).trans h)
noncomputable def zq76.ent (N : Nat) : Ent Go.Proofs.Tryz.prog T0 := mkEnt 39 [(true, [.any, .ro 41])] zq76.sig (fun t => zq76.g N t.1 t.2) (fun t r h => zq76.good N t.1 t.2 r h)
end Go.Proofs.YtpeleommbipeaaaGreatDoor.M

namespace Go.Proofs.YtpeleommbipeaaaGreatDoor.M
open Go Go.PM Go.Proofs.YtpeleommbipeaaaGreatDoor.P
set_option linter.unusedVariables false
set_option maxRecDepth 100000
/-! ### zq30 -/
abbrev zq30.R : Type := Int × Int × Int
abbrev zq30.sig : Sig := ⟨[(false, 1), (false, 1), (false, 1), (false, 1)], [], [.int .i64, .int .i64, .int .i64, .int .i64], [(true, 3)], [], [.int .i64, .int .i64, .int .i64]⟩
noncomputable def zq30.C : Cfg D0 := ⟨Go.Proofs.Tryz.prog, T0, 19167355200617582351, 0, 75, 0, [(30, [8, 11], [8, 11])], 1994592908296195166208, false, []⟩
noncomputable def zq30.E (N : Nat) : List (Ent Go.Proofs.Tryz.prog T0) := []
noncomputable def zq30.O (N : Nat) : Orc D0 zq30.R := orcOf (zq30.E N)
noncomputable def zq30.K0 : Ex → St D0 → Option zq30.R := exitK zq30.C Go.Proofs.Tryz.f79.results.toList [(true, [.any, .any, .any])] (decOut zq30.sig)
noncomputable def zq30.c1 : Code := codeAt (Go.Proofs.Tryz.f79.body.getD .skip) []
noncomputable def zq30.c2 : Code := codeAt (Go.Proofs.Tryz.f79.body.getD .skip) [false]
noncomputable def zq30.c6 : Code := codeAt (Go.Proofs.Tryz.f79.body.getD .skip) [true, false]
noncomputable def zq30.c14 : Code := codeAt (Go.Proofs.Tryz.f79.body.getD .skip) [true, true, false]
noncomputable def zq30.c30 : Code := codeAt (Go.Proofs.Tryz.f79.body.getD .skip) [true, true, true, false]
noncomputable def zq30.c31 : Code := codeAt (Go.Proofs.Tryz.f79.body.getD .skip) [true, true, true, true]
noncomputable def zq30.K31 (N : Nat) : Ex → St D0 → Option zq30.R := zq30.K0
noncomputable def zq30.o1 (N : Nat) (v0 : Int) (v1 : Int) (v2 : Int) (v3 : Int) (v4 : Int) (v5 : Int) : Option zq30.R :=
 some (v3, v4, v5)
theorem zq30.o1.run (N : Nat) (v0 : Int) (v1 : Int) (v2 : Int) (v3 : Int) (v4 : Int) (v5 : Int) : runC zq30.C (zq30.O N) N zq30.c31 31 (mkSt [(8, .one (.ptr 8 0)), (11, .one (.ptr 11 0))] [(8, some (41, [.int .i64 v0, .int .i64 v1, .int .i64 v2])), (11, some (41, [.int .i64 v3, .int .i64 v4, .int .i64 v5]))] : St D0) zq30.K0 = zq30.o1 N v0 v1 v2 v3 v4 v5 := by kernel_rfl
noncomputable def zq30.d1 (N : Nat) (v0 : Int) (v1 : Int) (v2 : Int) (v3 : Int) (v4 : Int) (v5 : Int) : Option zq30.R := zq30.o1 N v0 v1 v2 v3 v4 v5
theorem zq30.d1.run (N : Nat) (v0 : Int) (v1 : Int) (v2 : Int) (v3 : Int) (v4 : Int) (v5 : Int) : runC zq30.C (zq30.O N) N zq30.c31 31 (mkSt [(8, .one (.ptr 8 0)), (11, .one (.ptr 11 0))] [(8, some (41, [.int .i64 v0, .int .i64 v1, .int .i64 v2])), (11, some (41, [.int .i64 v3, .int .i64 v4, .int .i64 v5]))] : St D0) (zq30.K31 N) = zq30.d1 N v0 v1 v2 v3 v4 v5 := by
  exact (zq30.o1.run N v0 v1 v2 v3 v4 v5).trans rfl
noncomputable def zq30.o0 (N : Nat) (a0 : Int) (a1 : Int) (a2 : Int) (a3 : Int) (c1 : Int → Int → Int → Int → Int → Int → Option zq30.R) : Option zq30.R :=
 bif (a2 == 0) then
  c1 0 0 0 a2 (w64 (Int.tdiv a1 60)) 0
 else
 bif (a2 == 1) then
  bif (a3 == 0) then
   none
  else
  c1 0 0 0 a2 a3 (Int.tmod (Int.tmod a1 60) a3)
 else
 bif (a2 == 2) then
  c1 0 0 0 a2 (w64 ((w64 ((w64 ((w64 (Int.tdiv (w64 (Int.tdiv a1 60)) 10)) + (Int.tmod (w64 (Int.tdiv a1 60)) 10))) + (w64 (Int.tdiv (Int.tmod a1 60) 10)))) + (Int.tmod (Int.tmod a1 60) 10))) 0
 else
 bif (a2 == 3) then
  bif ((w64 (60 * a0)) == 0) then
   none
  else
  bif (decide ((w64 (2 * (Int.tmod (w64 (a1 * (w64 (a0 - 1)))) (w64 (60 * a0))))) < (w64 (60 * a0)))) then
   c1 0 0 0 a2 1 0
  else
  c1 0 0 0 a2 0 0
 else
 bif (a2 == 4) then
  c1 0 0 0 a2 (w64 ((w64 (Int.tdiv a1 60)) + 1)) 0
 else
 bif (a2 == 5) then
  c1 0 0 0 a2 (if (w64 ((Int.tmod a1 60) - (w64 (Int.tdiv a1 60)))) > (w64 ((w64 (Int.tdiv a1 60)) - (Int.tmod a1 60))) then (w64 ((Int.tmod a1 60) - (w64 (Int.tdiv a1 60)))) else (w64 ((w64 (Int.tdiv a1 60)) - (Int.tmod a1 60)))) 0
 else
 c1 0 0 0 a2 0 0
theorem zq30.o0.run (N : Nat) (H31 : Code) (a0 : Int) (a1 : Int) (a2 : Int) (a3 : Int) : runC zq30.C (zq30.O N) N (.seq zq30.c2 (.seq zq30.c6 (.seq zq30.c14 (.seq zq30.c30 H31)))) 1 (st0 [.one (.int .i64 a0), .one (.int .i64 a1), .one (.int .i64 a2), .one (.int .i64 a3)] [] : St D0) zq30.K0 = zq30.o0 N a0 a1 a2 a3 ((fun w0 w1 w2 w3 w4 w5 => runC zq30.C (zq30.O N) N H31 31 (mkSt [(8, .one (.ptr 8 0)), (11, .one (.ptr 11 0))] [(8, some (41, [.int .i64 w0, .int .i64 w1, .int .i64 w2])), (11, some (41, [.int .i64 w3, .int .i64 w4, .int .i64 w5]))] : St D0) zq30.K0)) := by kernel_rfl
noncomputable def zq30.B15 (N : Nat) : St D0 → Option zq30.R := fun s' => runC zq30.C (zq30.O N) N zq30.c31 31 s' (zq30.K31 N)
noncomputable def zq30.g (N : Nat) (a0 : Int) (a1 : Int) (a2 : Int) (a3 : Int) : Option zq30.R := zq30.o0 N a0 a1 a2 a3 ((fun w0 w1 w2 w3 w4 w5 => zq30.d1 N w0 w1 w2 w3 w4 w5))
theorem zq30.c1_0 : zq30.c1 = (.seq zq30.c2 (.seq zq30.c6 (.seq zq30.c14 (.seq zq30.c30 zq30.c31)))) := by kernel_rfl
theorem zq30.g.run (N : Nat) (a0 : Int) (a1 : Int) (a2 : Int) (a3 : Int) : runC zq30.C (zq30.O N) N zq30.c1 1 (st0 [.one (.int .i64 a0), .one (.int .i64 a1), .one (.int .i64 a2), .one (.int .i64 a3)] [] : St D0) zq30.K0 = zq30.g N a0 a1 a2 a3 := by
  rw [zq30.c1_0]; unfold zq30.g; exact (zq30.o0.run N zq30.c31 a0 a1 a2 a3).trans (congr rfl (funext fun w0 => funext fun w1 => funext fun w2 => funext fun w3 => funext fun w4 => funext fun w5 => zq30.d1.run N w0 w1 w2 w3 w4 w5))
theorem zq30.good (N : Nat) (a0 : Int) (a1 : Int) (a2 : Int) (a3 : Int) (r : zq30.R) (h : zq30.g N a0 a1 a2 a3 = some r) : Go.PM.Good Go.Proofs.Tryz.prog T0 79 [.one (.int .i64 a0), .one (.int .i64 a1), .one (.int .i64 a2), .one (.int .i64 a3)] [] (zq30.sig.ret r) (zq30.sig.bs r) :=
  good_fn tabOk0 mixed0 zq30.sig (zq30.E N) Go.Proofs.Tryz.func79 (by kernel_rfl) (by kernel_rfl) 19167355200617582351 0 0 [(30, [8, 11], [8, 11])] 1994592908296195166208 false [] [(true, [.any, .any, .any])] (by kernel_rfl) rfl rfl ((zq30.g.run N a0 a1 a2 a3).trans h)
noncomputable def zq30.ent (N : Nat) : Ent Go.Proofs.Tryz.prog T0 := mkEnt 79 [(false, [.any]), (false, [.any]), (false, [.any]), (false, [.any])] zq30.sig (fun t => zq30.g N t.1 t.2.1 t.2.2.1 t.2.2.2) (fun t r h => zq30.good N t.1 t.2.1 t.2.2.1 t.2.2.2 r h)
end Go.Proofs.YtpeleommbipeaaaGreatDoor.M

namespace Go.Proofs.YtpeleommbipeaaaGreatDoor.M
open Go Go.PM Go.Proofs.YtpeleommbipeaaaGreatDoor.P
set_option linter.unusedVariables false
set_option maxRecDepth 100000
/-! ### zq18 -/
abbrev zq18.R : Type := Bool
abbrev zq18.sig : Sig := ⟨[(false, 1), (false, 1), (true, 3)], [], [.int .i64, .int .i64, .int .i64, .int .i64, .int .i64], [(false, 1)], [], [.bool]⟩
noncomputable def zq18.C : Cfg D0 := ⟨Go.Proofs.Tryz.prog, T0, 103, 0, 16, 0, [], 384, false, []⟩
noncomputable def zq18.E (N : Nat) : List (Ent Go.Proofs.Tryz.prog T0) := [zq30.ent N]
noncomputable def zq18.O (N : Nat) : Orc D0 zq18.R := orcOf (zq18.E N)
noncomputable def zq18.K0 : Ex → St D0 → Option zq18.R := exitK zq18.C Go.Proofs.Tryz.f54.results.toList [(false, [.any])] (decOut zq18.sig)
noncomputable def zq18.c1 : Code := codeAt (Go.Proofs.Tryz.f54.body.getD .skip) []
noncomputable def zq18.o0 (N : Nat) (a0 : Int) (a1 : Int) (a2_0 : Int) (a2_1 : Int) (a2_2 : Int) : Option zq18.R :=
 (zq30.g N a0 a1 a2_0 a2_1).bind fun r1 =>
 some (((r1.1 == a2_0) && ((r1.2.1 == a2_1) && ((r1.2.2 == a2_2) && true))))
theorem zq18.o0.run (N : Nat) (a0 : Int) (a1 : Int) (a2_0 : Int) (a2_1 : Int) (a2_2 : Int) : runC zq18.C (zq18.O N) N zq18.c1 1 (st0 [.one (.int .i64 a0), .one (.int .i64 a1), .agg [.int .i64 a2_0, .int .i64 a2_1, .int .i64 a2_2]] [] : St D0) zq18.K0 = zq18.o0 N a0 a1 a2_0 a2_1 a2_2 := by kernel_rfl
noncomputable def zq18.g (N : Nat) (a0 : Int) (a1 : Int) (a2_0 : Int) (a2_1 : Int) (a2_2 : Int) : Option zq18.R := zq18.o0 N a0 a1 a2_0 a2_1 a2_2
theorem zq18.g.run (N : Nat) (a0 : Int) (a1 : Int) (a2_0 : Int) (a2_1 : Int) (a2_2 : Int) : runC zq18.C (zq18.O N) N zq18.c1 1 (st0 [.one (.int .i64 a0), .one (.int .i64 a1), .agg [.int .i64 a2_0, .int .i64 a2_1, .int .i64 a2_2]] [] : St D0) zq18.K0 = zq18.g N a0 a1 a2_0 a2_1 a2_2 := by
  exact (zq18.o0.run N a0 a1 a2_0 a2_1 a2_2).trans rfl
theorem zq18.good (N : Nat) (a0 : Int) (a1 : Int) (a2_0 : Int) (a2_1 : Int) (a2_2 : Int) (r : zq18.R) (h : zq18.g N a0 a1 a2_0 a2_1 a2_2 = some r) : Go.PM.Good Go.Proofs.Tryz.prog T0 54 [.one (.int .i64 a0), .one (.int .i64 a1), .agg [.int .i64 a2_0, .int .i64 a2_1, .int .i64 a2_2]] [] (zq18.sig.ret r) (zq18.sig.bs r) :=
  good_fn tabOk0 mixed0 zq18.sig (zq18.E N) Go.Proofs.Tryz.func54 (by kernel_rfl) (by kernel_rfl) 103 0 0 [] 384 false [] [(false, [.any])] (by kernel_rfl) rfl rfl ((zq18.g.run N a0 a1 a2_0 a2_1 a2_2).trans h)
noncomputable def zq18.ent (N : Nat) : Ent Go.Proofs.Tryz.prog T0 := mkEnt 54 [(false, [.any]), (false, [.any]), (true, [.any, .any, .any])] zq18.sig (fun t => zq18.g N t.1 t.2.1 t.2.2.1 t.2.2.2.1 t.2.2.2.2) (fun t r h => zq18.good N t.1 t.2.1 t.2.2.1 t.2.2.2.1 t.2.2.2.2 r h)
end Go.Proofs.YtpeleommbipeaaaGreatDoor.M

namespace Go.Proofs.YtpeleommbipeaaaGreatDoor.M
open Go Go.PM Go.Proofs.YtpeleommbipeaaaGreatDoor.P
set_option linter.unusedVariables false
set_option maxRecDepth 100000
/-! ### zq22 -/
abbrev zq22.R : Type := Bool
abbrev zq22.sig : Sig := ⟨[(false, 1), (false, 1)], [], [.int .i64, .int .i64], [(false, 1)], [], [.bool]⟩
noncomputable def zq22.C : Cfg D0 := ⟨Go.Proofs.Tryz.prog, T0, 19, 0, 14, 0, [], 800, false, []⟩
noncomputable def zq22.E (N : Nat) : List (Ent Go.Proofs.Tryz.prog T0) := [zq21.ent N, zq31.ent N]
noncomputable def zq22.O (N : Nat) : Orc D0 zq22.R := orcOf (zq22.E N)
noncomputable def zq22.K0 : Ex → St D0 → Option zq22.R := exitK zq22.C Go.Proofs.Tryz.f53.results.toList [(false, [.any])] (decOut zq22.sig)
noncomputable def zq22.c1 : Code := codeAt (Go.Proofs.Tryz.f53.body.getD .skip) []
noncomputable def zq22.o0 (N : Nat) (a0 : Int) (a1 : Int) : Option zq22.R :=
 (zq21.g N a0).bind fun r1 =>
 bif r1 then
  (zq31.g N a1 0 (w64 ((w64 (60 * a0)) - 1))).bind fun r2 =>
  some (r2)
 else
 some (false)
theorem zq22.o0.run (N : Nat) (a0 : Int) (a1 : Int) : runC zq22.C (zq22.O N) N zq22.c1 1 (st0 [.one (.int .i64 a0), .one (.int .i64 a1)] [] : St D0) zq22.K0 = zq22.o0 N a0 a1 := by kernel_rfl
noncomputable def zq22.g (N : Nat) (a0 : Int) (a1 : Int) : Option zq22.R := zq22.o0 N a0 a1
theorem zq22.g.run (N : Nat) (a0 : Int) (a1 : Int) : runC zq22.C (zq22.O N) N zq22.c1 1 (st0 [.one (.int .i64 a0), .one (.int .i64 a1)] [] : St D0) zq22.K0 = zq22.g N a0 a1 := by
  exact (zq22.o0.run N a0 a1).trans rfl
theorem zq22.good (N : Nat) (a0 : Int) (a1 : Int) (r : zq22.R) (h : zq22.g N a0 a1 = some r) : Go.PM.Good Go.Proofs.Tryz.prog T0 53 [.one (.int .i64 a0), .one (.int .i64 a1)] [] (zq22.sig.ret r) (zq22.sig.bs r) :=
  good_fn tabOk0 mixed0 zq22.sig (zq22.E N) Go.Proofs.Tryz.func53 (by kernel_rfl) (by kernel_rfl) 19 0 0 [] 800 false [] [(false, [.any])] (by kernel_rfl) rfl rfl ((zq22.g.run N a0 a1).trans h)
noncomputable def zq22.ent (N : Nat) : Ent Go.Proofs.Tryz.prog T0 := mkEnt 53 [(false, [.any]), (false, [.any])] zq22.sig (fun t => zq22.g N t.1 t.2) (fun t r h => zq22.good N t.1 t.2 r h)
end Go.Proofs.YtpeleommbipeaaaGreatDoor.M

namespace Go.Proofs.YtpeleommbipeaaaGreatDoor.M
open Go Go.PM Go.Proofs.YtpeleommbipeaaaGreatDoor.P
set_option linter.unusedVariables false
set_option maxRecDepth 100000
/-! ### zq6 -/
abbrev zq6.R : Type := Bool
abbrev zq6.sig : Sig := ⟨[(false, 1), (true, 3)], [], [.int .i64, .int .i64, .int .i64, .int .i64], [(false, 1)], [], [.bool]⟩
noncomputable def zq6.C : Cfg D0 := ⟨Go.Proofs.Tryz.prog, T0, 73219777964408859, 0, 61, 0, [(12, [0, 3, 17], [3])], 18014398526259232, false, []⟩
noncomputable def zq6.E (N : Nat) : List (Ent Go.Proofs.Tryz.prog T0) := [zq21.ent N, zq31.ent N]
noncomputable def zq6.O (N : Nat) : Orc D0 zq6.R := orcOf (zq6.E N)
noncomputable def zq6.K0 : Ex → St D0 → Option zq6.R := exitK zq6.C Go.Proofs.Tryz.f52.results.toList [(false, [.any])] (decOut zq6.sig)
noncomputable def zq6.c1 : Code := codeAt (Go.Proofs.Tryz.f52.body.getD .skip) []
noncomputable def zq6.c2 : Code := codeAt (Go.Proofs.Tryz.f52.body.getD .skip) [false]
noncomputable def zq6.c7 : Code := codeAt (Go.Proofs.Tryz.f52.body.getD .skip) [true, true]
noncomputable def zq6.c12 : Code := codeAt (Go.Proofs.Tryz.f52.body.getD .skip) [true, false, false]
noncomputable def zq6.c13 : Code := codeAt (Go.Proofs.Tryz.f52.body.getD .skip) [true, false, true]
noncomputable def zq6.K13 (N : Nat) : Ex → St D0 → Option zq6.R := (onN (fun s => zq6.C.tidy 6 s (fun s' => runC zq6.C (zq6.O N) N zq6.c7 7 s' zq6.K0)) zq6.K0)
noncomputable def zq6.o1 (N : Nat) (v0 : Int) (v1 : Bool) (v2 : Int) (v3 : Int) (v4 : Int) : Option zq6.R :=
 bif v1 then
  some (false)
 else
 bif (v2 == 0) then
  (zq31.g N v3 0 (w64 (v0 - 1))).bind fun r1 =>
  some (r1)
 else
 bif (v2 == 1) then
  (zq31.g N v3 2 60).bind fun r2 =>
  bif r2 then
   (zq31.g N v4 0 (w64 (v3 - 1))).bind fun r3 =>
   some (r3)
  else
  some (false)
 else
 bif (v2 == 2) then
  (zq31.g N v3 0 30).bind fun r4 =>
  some (r4)
 else
 bif (v2 == 3) then
  (zq31.g N v3 0 1).bind fun r5 =>
  some (r5)
 else
 bif (v2 == 4) then
  (zq31.g N v3 1 v0).bind fun r6 =>
  some (r6)
 else
 bif (v2 == 5) then
  (zq31.g N v3 0 59).bind fun r7 =>
  some (r7)
 else
 some (false)
theorem zq6.o1.run (N : Nat) (v0 : Int) (v1 : Bool) (v2 : Int) (v3 : Int) (v4 : Int) : runC zq6.C (zq6.O N) N zq6.c13 13 (mkSt [(0, .one (.int .i64 v0)), (3, .one (.ptr 3 0)), (17, .one (.bool v1))] [(3, some (41, [.int .i64 v2, .int .i64 v3, .int .i64 v4]))] : St D0) (onN (fun s => zq6.C.tidy 6 s (fun s' => runC zq6.C (zq6.O N) N zq6.c7 7 s' zq6.K0)) zq6.K0) = zq6.o1 N v0 v1 v2 v3 v4 := by kernel_rfl
noncomputable def zq6.d1 (N : Nat) (v0 : Int) (v1 : Bool) (v2 : Int) (v3 : Int) (v4 : Int) : Option zq6.R := zq6.o1 N v0 v1 v2 v3 v4
theorem zq6.d1.run (N : Nat) (v0 : Int) (v1 : Bool) (v2 : Int) (v3 : Int) (v4 : Int) : runC zq6.C (zq6.O N) N zq6.c13 13 (mkSt [(0, .one (.int .i64 v0)), (3, .one (.ptr 3 0)), (17, .one (.bool v1))] [(3, some (41, [.int .i64 v2, .int .i64 v3, .int .i64 v4]))] : St D0) (zq6.K13 N) = zq6.d1 N v0 v1 v2 v3 v4 := by
  exact (zq6.o1.run N v0 v1 v2 v3 v4).trans rfl
noncomputable def zq6.o0 (N : Nat) (a0 : Int) (a1_0 : Int) (a1_1 : Int) (a1_2 : Int) (c1 : Int → Bool → Int → Int → Int → Option zq6.R) : Option zq6.R :=
 (zq21.g N a0).bind fun r1 =>
 bif (!r1) then
  c1 a0 true a1_0 a1_1 a1_2
 else
 bif (a1_0 != 1) then
  c1 a0 (a1_2 != 0) a1_0 a1_1 a1_2
 else
 c1 a0 false a1_0 a1_1 a1_2
theorem zq6.o0.run (N : Nat) (H13 : Code) (a0 : Int) (a1_0 : Int) (a1_1 : Int) (a1_2 : Int) : runC zq6.C (zq6.O N) N (.seq zq6.c2 (.seq (.seq zq6.c12 H13) zq6.c7)) 1 (st0 [.one (.int .i64 a0), .agg [.int .i64 a1_0, .int .i64 a1_1, .int .i64 a1_2]] [] : St D0) zq6.K0 = zq6.o0 N a0 a1_0 a1_1 a1_2 ((fun w0 w1 w2 w3 w4 => runC zq6.C (zq6.O N) N H13 13 (mkSt [(0, .one (.int .i64 w0)), (3, .one (.ptr 3 0)), (17, .one (.bool w1))] [(3, some (41, [.int .i64 w2, .int .i64 w3, .int .i64 w4]))] : St D0) (onN (fun s => zq6.C.tidy 6 s (fun s' => runC zq6.C (zq6.O N) N zq6.c7 7 s' zq6.K0)) zq6.K0))) := by kernel_rfl
noncomputable def zq6.B6 (N : Nat) : St D0 → Option zq6.R := fun s' => runC zq6.C (zq6.O N) N zq6.c13 13 s' (zq6.K13 N)
noncomputable def zq6.g (N : Nat) (a0 : Int) (a1_0 : Int) (a1_1 : Int) (a1_2 : Int) : Option zq6.R := zq6.o0 N a0 a1_0 a1_1 a1_2 ((fun w0 w1 w2 w3 w4 => zq6.d1 N w0 w1 w2 w3 w4))
theorem zq6.c1_0 : zq6.c1 = (.seq zq6.c2 (.seq (.seq zq6.c12 zq6.c13) zq6.c7)) := by kernel_rfl
theorem zq6.g.run (N : Nat) (a0 : Int) (a1_0 : Int) (a1_1 : Int) (a1_2 : Int) : runC zq6.C (zq6.O N) N zq6.c1 1 (st0 [.one (.int .i64 a0), .agg [.int .i64 a1_0, .int .i64 a1_1, .int .i64 a1_2]] [] : St D0) zq6.K0 = zq6.g N a0 a1_0 a1_1 a1_2 := by
  rw [zq6.c1_0]; unfold zq6.g; exact (zq6.o0.run N zq6.c13 a0 a1_0 a1_1 a1_2).trans (congr rfl (funext fun w0 => funext fun w1 => funext fun w2 => funext fun w3 => funext fun w4 => zq6.d1.run N w0 w1 w2 w3 w4))
theorem zq6.good (N : Nat) (a0 : Int) (a1_0 : Int) (a1_1 : Int) (a1_2 : Int) (r : zq6.R) (h : zq6.g N a0 a1_0 a1_1 a1_2 = some r) : Go.PM.Good Go.Proofs.Tryz.prog T0 52 [.one (.int .i64 a0), .agg [.int .i64 a1_0, .int .i64 a1_1, .int .i64 a1_2]] [] (zq6.sig.ret r) (zq6.sig.bs r) :=
  good_fn tabOk0 mixed0 zq6.sig (zq6.E N) Go.Proofs.Tryz.func52 (by kernel_rfl) (by kernel_rfl) 73219777964408859 0 0 [(12, [0, 3, 17], [3])] 18014398526259232 false [] [(false, [.any])] (by kernel_rfl) rfl rfl ((zq6.g.run N a0 a1_0 a1_1 a1_2).trans h)
noncomputable def zq6.ent (N : Nat) : Ent Go.Proofs.Tryz.prog T0 := mkEnt 52 [(false, [.any]), (true, [.any, .any, .any])] zq6.sig (fun t => zq6.g N t.1 t.2.1 t.2.2.1 t.2.2.2) (fun t r h => zq6.good N t.1 t.2.1 t.2.2.1 t.2.2.2 r h)
end Go.Proofs.YtpeleommbipeaaaGreatDoor.M

namespace Go.Proofs.YtpeleommbipeaaaGreatDoor.M
open Go Go.PM Go.Proofs.YtpeleommbipeaaaGreatDoor.P
set_option linter.unusedVariables false
set_option maxRecDepth 100000
/-! ### zq2 -/
abbrev zq2.R : Type := Bool × Bool
abbrev zq2.sig : Sig := ⟨[(false, 1), (true, 3), (false, 1)], [], [.int .i64, .int .i64, .int .i64, .int .i64, .int .i64], [(false, 1), (false, 1)], [], [.bool, .bool]⟩
noncomputable def zq2.C : Cfg D0 := ⟨Go.Proofs.Tryz.prog, T0, 131287, 0, 22, 0, [(12, [0, 2, 4, 17], [4])], 811264, false, []⟩
noncomputable def zq2.E (N : Nat) : List (Ent Go.Proofs.Tryz.prog T0) := [zq6.ent N, zq22.ent N, zq18.ent N]
noncomputable def zq2.O (N : Nat) : Orc D0 zq2.R := orcOf (zq2.E N)
noncomputable def zq2.K0 : Ex → St D0 → Option zq2.R := exitK zq2.C Go.Proofs.Tryz.f27.results.toList [(false, [.any]), (false, [.any])] (decOut zq2.sig)
noncomputable def zq2.c1 : Code := codeAt (Go.Proofs.Tryz.f27.body.getD .skip) []
noncomputable def zq2.c2 : Code := codeAt (Go.Proofs.Tryz.f27.body.getD .skip) [false]
noncomputable def zq2.c7 : Code := codeAt (Go.Proofs.Tryz.f27.body.getD .skip) [true, true]
noncomputable def zq2.c12 : Code := codeAt (Go.Proofs.Tryz.f27.body.getD .skip) [true, false, false]
noncomputable def zq2.c13 : Code := codeAt (Go.Proofs.Tryz.f27.body.getD .skip) [true, false, true]
noncomputable def zq2.K13 (N : Nat) : Ex → St D0 → Option zq2.R := (onN (fun s => zq2.C.tidy 6 s (fun s' => runC zq2.C (zq2.O N) N zq2.c7 7 s' zq2.K0)) zq2.K0)
noncomputable def zq2.o1 (N : Nat) (v0 : Int) (v1 : Int) (v2 : Bool) (v3 : Int) (v4 : Int) (v5 : Int) : Option zq2.R :=
 bif v2 then
  some (false, false)
 else
 (zq18.g N v0 v1 v3 v4 v5).bind fun r1 =>
 some (r1, true)
theorem zq2.o1.run (N : Nat) (v0 : Int) (v1 : Int) (v2 : Bool) (v3 : Int) (v4 : Int) (v5 : Int) : runC zq2.C (zq2.O N) N zq2.c13 13 (mkSt [(0, .one (.int .i64 v0)), (2, .one (.int .i64 v1)), (4, .one (.ptr 4 0)), (17, .one (.bool v2))] [(4, some (41, [.int .i64 v3, .int .i64 v4, .int .i64 v5]))] : St D0) (onN (fun s => zq2.C.tidy 6 s (fun s' => runC zq2.C (zq2.O N) N zq2.c7 7 s' zq2.K0)) zq2.K0) = zq2.o1 N v0 v1 v2 v3 v4 v5 := by kernel_rfl
noncomputable def zq2.d1 (N : Nat) (v0 : Int) (v1 : Int) (v2 : Bool) (v3 : Int) (v4 : Int) (v5 : Int) : Option zq2.R := zq2.o1 N v0 v1 v2 v3 v4 v5
theorem zq2.d1.run (N : Nat) (v0 : Int) (v1 : Int) (v2 : Bool) (v3 : Int) (v4 : Int) (v5 : Int) : runC zq2.C (zq2.O N) N zq2.c13 13 (mkSt [(0, .one (.int .i64 v0)), (2, .one (.int .i64 v1)), (4, .one (.ptr 4 0)), (17, .one (.bool v2))] [(4, some (41, [.int .i64 v3, .int .i64 v4, .int .i64 v5]))] : St D0) (zq2.K13 N) = zq2.d1 N v0 v1 v2 v3 v4 v5 := by
  exact (zq2.o1.run N v0 v1 v2 v3 v4 v5).trans rfl
noncomputable def zq2.o0 (N : Nat) (a0 : Int) (a1_0 : Int) (a1_1 : Int) (a1_2 : Int) (a2 : Int) (c1 : Int → Int → Bool → Int → Int → Int → Option zq2.R) : Option zq2.R :=
 (zq6.g N a0 a1_0 a1_1 a1_2).bind fun r1 =>
 bif (!r1) then
  c1 a0 a2 true a1_0 a1_1 a1_2
 else
 (zq22.g N a0 a2).bind fun r2 =>
 c1 a0 a2 (!r2) a1_0 a1_1 a1_2
theorem zq2.o0.run (N : Nat) (H13 : Code) (a0 : Int) (a1_0 : Int) (a1_1 : Int) (a1_2 : Int) (a2 : Int) : runC zq2.C (zq2.O N) N (.seq zq2.c2 (.seq (.seq zq2.c12 H13) zq2.c7)) 1 (st0 [.one (.int .i64 a0), .agg [.int .i64 a1_0, .int .i64 a1_1, .int .i64 a1_2], .one (.int .i64 a2)] [] : St D0) zq2.K0 = zq2.o0 N a0 a1_0 a1_1 a1_2 a2 ((fun w0 w1 w2 w3 w4 w5 => runC zq2.C (zq2.O N) N H13 13 (mkSt [(0, .one (.int .i64 w0)), (2, .one (.int .i64 w1)), (4, .one (.ptr 4 0)), (17, .one (.bool w2))] [(4, some (41, [.int .i64 w3, .int .i64 w4, .int .i64 w5]))] : St D0) (onN (fun s => zq2.C.tidy 6 s (fun s' => runC zq2.C (zq2.O N) N zq2.c7 7 s' zq2.K0)) zq2.K0))) := by kernel_rfl
noncomputable def zq2.B6 (N : Nat) : St D0 → Option zq2.R := fun s' => runC zq2.C (zq2.O N) N zq2.c13 13 s' (zq2.K13 N)
noncomputable def zq2.g (N : Nat) (a0 : Int) (a1_0 : Int) (a1_1 : Int) (a1_2 : Int) (a2 : Int) : Option zq2.R := zq2.o0 N a0 a1_0 a1_1 a1_2 a2 ((fun w0 w1 w2 w3 w4 w5 => zq2.d1 N w0 w1 w2 w3 w4 w5))
theorem zq2.c1_0 : zq2.c1 = (.seq zq2.c2 (.seq (.seq zq2.c12 zq2.c13) zq2.c7)) := by kernel_rfl
theorem zq2.g.run (N : Nat) (a0 : Int) (a1_0 : Int) (a1_1 : Int) (a1_2 : Int) (a2 : Int) : runC zq2.C (zq2.O N) N zq2.c1 1 (st0 [.one (.int .i64 a0), .agg [.int .i64 a1_0, .int .i64 a1_1, .int .i64 a1_2], .one (.int .i64 a2)] [] : St D0) zq2.K0 = zq2.g N a0 a1_0 a1_1 a1_2 a2 := by
  rw [zq2.c1_0]; unfold zq2.g; exact (zq2.o0.run N zq2.c13 a0 a1_0 a1_1 a1_2 a2).trans (congr rfl (funext fun w0 => funext fun w1 => funext fun w2 => funext fun w3 => funext fun w4 => funext fun w5 => zq2.d1.run N w0 w1 w2 w3 w4 w5))
theorem zq2.good (N : Nat) (a0 : Int) (a1_0 : Int) (a1_1 : Int) (a1_2 : Int) (a2 : Int) (r : zq2.R) (h : zq2.g N a0 a1_0 a1_1 a1_2 a2 = some r) : Go.PM.Good Go.Proofs.Tryz.prog T0 27 [.one (.int .i64 a0), .agg [.int .i64 a1_0, .int .i64 a1_1, .int .i64 a1_2], .one (.int .i64 a2)] [] (zq2.sig.ret r) (zq2.sig.bs r) :=
  good_fn tabOk0 mixed0 zq2.sig (zq2.E N) Go.Proofs.Tryz.func27 (by kernel_rfl) (by kernel_rfl) 131287 0 0 [(12, [0, 2, 4, 17], [4])] 811264 false [] [(false, [.any]), (false, [.any])] (by kernel_rfl) rfl rfl ((zq2.g.run N a0 a1_0 a1_1 a1_2 a2).trans h)
noncomputable def zq2.ent (N : Nat) : Ent Go.Proofs.Tryz.prog T0 := mkEnt 27 [(false, [.any]), (true, [.any, .any, .any]), (false, [.any])] zq2.sig (fun t => zq2.g N t.1 t.2.1 t.2.2.1 t.2.2.2.1 t.2.2.2.2) (fun t r h => zq2.good N t.1 t.2.1 t.2.2.1 t.2.2.2.1 t.2.2.2.2 r h)
end Go.Proofs.YtpeleommbipeaaaGreatDoor.M

namespace Go.Proofs.YtpeleommbipeaaaGreatDoor.M
open Go Go.PM Go.Proofs.YtpeleommbipeaaaGreatDoor.P
set_option linter.unusedVariables false
set_option maxRecDepth 100000
/-! ### zq8 -/
abbrev zq8.R : Type := Bool × Int × List S41
abbrev zq8.sig : Sig := ⟨[(true, 3), (false, 1)], [(24, 2)], [.int .i64, .int .i64, .int .i64, .ptr 0 0, .int .i64, .sl false 41], [(false, 1)], [(24, 2)], [.bool, .int .i64, .sl false 41]⟩
noncomputable def zq8.C : Cfg D0 := ⟨Go.Proofs.Tryz.prog, T0, 15, 0, 9, 1, [], 0, false, []⟩
noncomputable def zq8.E (N : Nat) : List (Ent Go.Proofs.Tryz.prog T0) := [zq6.ent N]
noncomputable def zq8.O (N : Nat) : Orc D0 zq8.R := orcOf (zq8.E N)
noncomputable def zq8.K0 : Ex → St D0 → Option zq8.R := exitK zq8.C Go.Proofs.Tryz.f51.results.toList [(false, [.any])] (decOut zq8.sig)
noncomputable def zq8.c1 : Code := codeAt (Go.Proofs.Tryz.f51.body.getD .skip) []
noncomputable def zq8.o0 (N : Nat) (a0_0 : Int) (a0_1 : Int) (a0_2 : Int) (b0_0 : Int) (b0_1 : List S41) : Option zq8.R :=
 (zq6.g N b0_0 a0_0 a0_1 a0_2).bind fun r1 =>
 some ((!r1), b0_0, b0_1)
theorem zq8.o0.run (N : Nat) (a0_0 : Int) (a0_1 : Int) (a0_2 : Int) (b0_0 : Int) (b0_1 : List S41) : runC zq8.C (zq8.O N) N zq8.c1 1 (st0 [.agg [.int .i64 a0_0, .int .i64 a0_1, .int .i64 a0_2], .one (.ptr 0 0)] [(24, [.int .i64 b0_0, .sl false 41 b0_1])] : St D0) zq8.K0 = zq8.o0 N a0_0 a0_1 a0_2 b0_0 b0_1 := by kernel_rfl
noncomputable def zq8.g (N : Nat) (a0_0 : Int) (a0_1 : Int) (a0_2 : Int) (b0_0 : Int) (b0_1 : List S41) : Option zq8.R := zq8.o0 N a0_0 a0_1 a0_2 b0_0 b0_1
theorem zq8.g.run (N : Nat) (a0_0 : Int) (a0_1 : Int) (a0_2 : Int) (b0_0 : Int) (b0_1 : List S41) : runC zq8.C (zq8.O N) N zq8.c1 1 (st0 [.agg [.int .i64 a0_0, .int .i64 a0_1, .int .i64 a0_2], .one (.ptr 0 0)] [(24, [.int .i64 b0_0, .sl false 41 b0_1])] : St D0) zq8.K0 = zq8.g N a0_0 a0_1 a0_2 b0_0 b0_1 := by
  exact (zq8.o0.run N a0_0 a0_1 a0_2 b0_0 b0_1).trans rfl
theorem zq8.good (N : Nat) (a0_0 : Int) (a0_1 : Int) (a0_2 : Int) (b0_0 : Int) (b0_1 : List S41) (r : zq8.R) (h : zq8.g N a0_0 a0_1 a0_2 b0_0 b0_1 = some r) : Go.PM.Good Go.Proofs.Tryz.prog T0 51 [.agg [.int .i64 a0_0, .int .i64 a0_1, .int .i64 a0_2], .one (.ptr 0 0)] [(24, [.int .i64 b0_0, .sl false 41 b0_1])] (zq8.sig.ret r) (zq8.sig.bs r) :=
  good_fn tabOk0 mixed0 zq8.sig (zq8.E N) Go.Proofs.Tryz.func51 (by kernel_rfl) (by kernel_rfl) 15 0 1 [] 0 false [] [(false, [.any])] (by kernel_rfl) rfl rfl ((zq8.g.run N a0_0 a0_1 a0_2 b0_0 b0_1).trans h)
noncomputable def zq8.ent (N : Nat) : Ent Go.Proofs.Tryz.prog T0 := mkEnt 51 [(true, [.any, .any, .any]), (false, [.any])] zq8.sig (fun t => zq8.g N t.1 t.2.1 t.2.2.1 t.2.2.2.2.1 t.2.2.2.2.2) (fun t r h => zq8.good N t.1 t.2.1 t.2.2.1 t.2.2.2.2.1 t.2.2.2.2.2 r h)
end Go.Proofs.YtpeleommbipeaaaGreatDoor.M

namespace Go.Proofs.YtpeleommbipeaaaGreatDoor.M
open Go Go.PM Go.Proofs.YtpeleommbipeaaaGreatDoor.P
set_option linter.unusedVariables false
set_option maxRecDepth 100000
/-! ### zq41 -/
abbrev zq41.R : Type := Int × Int × List S41
abbrev zq41.sig : Sig := ⟨[(false, 1), (false, 1)], [(24, 2)], [.sl false 41, .fn 51 [0], .int .i64, .sl false 41], [(false, 1)], [(24, 2)], [.int .i64, .int .i64, .sl false 41]⟩
noncomputable def zq41.C : Cfg D0 := ⟨Go.Proofs.Tryz.prog, T0, 66483, 0, 19, 1, [(26, [0, 1, 7, 8], [0])], 14400, false, []⟩
noncomputable def zq41.E (N : Nat) : List (Ent Go.Proofs.Tryz.prog T0) := [zq8.ent N]
noncomputable def zq41.O (N : Nat) : Orc D0 zq41.R := orcOf (zq41.E N)
noncomputable def zq41.K0 : Ex → St D0 → Option zq41.R := exitK zq41.C Go.Proofs.Tryz.f78.results.toList [(false, [.any])] (decOut zq41.sig)
noncomputable def zq41.c1 : Code := codeAt (Go.Proofs.Tryz.f78.body.getD .skip) []
noncomputable def zq41.c2 : Code := codeAt (Go.Proofs.Tryz.f78.body.getD .skip) [false]
noncomputable def zq41.c7 : Code := codeAt (Go.Proofs.Tryz.f78.body.getD .skip) [true, true]
noncomputable def zq41.c12 : Code := codeAt (Go.Proofs.Tryz.f78.body.getD .skip) [true, false, false]
noncomputable def zq41.c52 : Code := codeAt (Go.Proofs.Tryz.f78.body.getD .skip) [true, false, true, false, false]
noncomputable def zq41.K52 (N : Nat) (Kn26 : St D0 → Option zq41.R) : Ex → St D0 → Option zq41.R := ((fun up => (onN (fun s => zq41.C.tidy 26 s ((onN Kn26 up) .normal)) (onN Kn26 up))) (blockK 0 (onN (fun s => zq41.C.tidy 6 s (fun s' => runC zq41.C (zq41.O N) N zq41.c7 7 s' zq41.K0)) zq41.K0)))
noncomputable def zq41.o1 (N : Nat) (v0 : List S41) (v1 : Int) (v2 : Int) (v3 : Int) (v4 : List S41) (c1 : (List S41) → Int → Int → Int → (List S41) → Option zq41.R) : Option zq41.R :=
 bif (decide (v2 < v1)) then
  bif (decide (0 ≤ v2)) then
   bif (decide (v2 < (v0.length : Int))) then
    (v0[(v2 : Int).toNat]?).bind fun x1 =>
    (zq8.g N x1.f0 x1.f1 x1.f2 v3 v4).bind fun r2 =>
    bif r2.1 then
     some (v2, r2.2.1, r2.2.2)
    else
    c1 v0 v1 (w64 (v2 + 1)) r2.2.1 r2.2.2
   else
   none
  else
  none
 else
 some ((-1), v3, v4)
theorem zq41.o1.run (N : Nat) (Kn26 : St D0 → Option zq41.R) (v0 : List S41) (v1 : Int) (v2 : Int) (v3 : Int) (v4 : List S41) : runC zq41.C (zq41.O N) N zq41.c52 52 (mkSt [(0, .one (.sl false 41 v0)), (1, .one (.fn 51 [0])), (7, .one (.int .i64 v1)), (8, .one (.int .i64 v2))] [(0, some (24, [.int .i64 v3, .sl false 41 v4]))] : St D0) ((fun up => (onN (fun s => zq41.C.tidy 26 s ((onN Kn26 up) .normal)) (onN Kn26 up))) (blockK 0 (onN (fun s => zq41.C.tidy 6 s (fun s' => runC zq41.C (zq41.O N) N zq41.c7 7 s' zq41.K0)) zq41.K0))) = zq41.o1 N v0 v1 v2 v3 v4 ((fun w0 w1 w2 w3 w4 => Kn26 (mkSt [(0, .one (.sl false 41 w0)), (1, .one (.fn 51 [0])), (7, .one (.int .i64 w1)), (8, .one (.int .i64 w2))] [(0, some (24, [.int .i64 w3, .sl false 41 w4]))] : St D0))) := by kernel_rfl
noncomputable def zq41.d1 (N : Nat) (v0 : List S41) (v1 : Int) (v2 : Int) (v3 : Int) (v4 : List S41) (c1 : (List S41) → Int → Int → Int → (List S41) → Option zq41.R) : Option zq41.R := zq41.o1 N v0 v1 v2 v3 v4 c1
theorem zq41.d1.run (N : Nat) (Kn26 : St D0 → Option zq41.R) (v0 : List S41) (v1 : Int) (v2 : Int) (v3 : Int) (v4 : List S41) : runC zq41.C (zq41.O N) N zq41.c52 52 (mkSt [(0, .one (.sl false 41 v0)), (1, .one (.fn 51 [0])), (7, .one (.int .i64 v1)), (8, .one (.int .i64 v2))] [(0, some (24, [.int .i64 v3, .sl false 41 v4]))] : St D0) (zq41.K52 N Kn26) = zq41.d1 N v0 v1 v2 v3 v4 ((fun w0 w1 w2 w3 w4 => Kn26 (mkSt [(0, .one (.sl false 41 w0)), (1, .one (.fn 51 [0])), (7, .one (.int .i64 w1)), (8, .one (.int .i64 w2))] [(0, some (24, [.int .i64 w3, .sl false 41 w4]))] : St D0))) := by
  exact (zq41.o1.run N Kn26 v0 v1 v2 v3 v4).trans rfl
noncomputable def zq41.K26 (N : Nat) : Ex → St D0 → Option zq41.R := (blockK 0 (onN (fun s => zq41.C.tidy 6 s (fun s' => runC zq41.C (zq41.O N) N zq41.c7 7 s' zq41.K0)) zq41.K0))
noncomputable def zq41.l1 (N : Nat) : Nat → (List S41) → Int → Int → Int → (List S41) → Option zq41.R
  | 0, _, _, _, _, _ => none
  | n + 1, v0, v1, v2, v3, v4 => zq41.d1 N v0 v1 v2 v3 v4 ((fun w0 w1 w2 w3 w4 => zq41.l1 N n w0 w1 w2 w3 w4))
theorem zq41.loop26 (N : Nat) : ∀ n, (∀ (v0 : List S41) (v1 : Int) (v2 : Int) (v3 : Int) (v4 : List S41), iter (loopF zq41.C (zq41.O N) N zq41.c52 26) n (mkSt [(0, .one (.sl false 41 v0)), (1, .one (.fn 51 [0])), (7, .one (.int .i64 v1)), (8, .one (.int .i64 v2))] [(0, some (24, [.int .i64 v3, .sl false 41 v4]))] : St D0) (zq41.K26 N) = zq41.l1 N n v0 v1 v2 v3 v4)
  | 0 => (fun v0 v1 v2 v3 v4 => rfl)
  | n + 1 => (fun v0 v1 v2 v3 v4 => (zq41.d1.run N (fun s => iter (loopF zq41.C (zq41.O N) N zq41.c52 26) n s (zq41.K26 N)) v0 v1 v2 v3 v4).trans (show _ = zq41.d1 N v0 v1 v2 v3 v4 ((fun w0 w1 w2 w3 w4 => zq41.l1 N n w0 w1 w2 w3 w4)) from (congr rfl (funext fun w0 => funext fun w1 => funext fun w2 => funext fun w3 => funext fun w4 => (zq41.loop26 N n) w0 w1 w2 w3 w4))))
noncomputable def zq41.o0 (N : Nat) (a0 : List S41) (b0_0 : Int) (b0_1 : List S41) (c1 : (List S41) → Int → Int → Int → (List S41) → Option zq41.R) : Option zq41.R :=
 c1 a0 (a0.length : Int) 0 b0_0 b0_1
theorem zq41.o0.run (N : Nat) (H52 : Code) (a0 : List S41) (b0_0 : Int) (b0_1 : List S41) : runC zq41.C (zq41.O N) N (.seq zq41.c2 (.seq (.seq zq41.c12 (.block 0 (.loop H52))) zq41.c7)) 1 (st0 [.one (.sl false 41 a0), .one (.fn 51 [0])] [(24, [.int .i64 b0_0, .sl false 41 b0_1])] : St D0) zq41.K0 = zq41.o0 N a0 b0_0 b0_1 ((fun w0 w1 w2 w3 w4 => iter (loopF zq41.C (zq41.O N) N H52 26) N (mkSt [(0, .one (.sl false 41 w0)), (1, .one (.fn 51 [0])), (7, .one (.int .i64 w1)), (8, .one (.int .i64 w2))] [(0, some (24, [.int .i64 w3, .sl false 41 w4]))] : St D0) (blockK 0 (onN (fun s => zq41.C.tidy 6 s (fun s' => runC zq41.C (zq41.O N) N zq41.c7 7 s' zq41.K0)) zq41.K0)))) := by kernel_rfl
noncomputable def zq41.g (N : Nat) (a0 : List S41) (b0_0 : Int) (b0_1 : List S41) : Option zq41.R := zq41.o0 N a0 b0_0 b0_1 ((fun w0 w1 w2 w3 w4 => zq41.l1 N N w0 w1 w2 w3 w4))
theorem zq41.c1_0 : zq41.c1 = (.seq zq41.c2 (.seq (.seq zq41.c12 (.block 0 (.loop zq41.c52))) zq41.c7)) := by kernel_rfl
theorem zq41.g.run (N : Nat) (a0 : List S41) (b0_0 : Int) (b0_1 : List S41) : runC zq41.C (zq41.O N) N zq41.c1 1 (st0 [.one (.sl false 41 a0), .one (.fn 51 [0])] [(24, [.int .i64 b0_0, .sl false 41 b0_1])] : St D0) zq41.K0 = zq41.g N a0 b0_0 b0_1 := by
  rw [zq41.c1_0]; unfold zq41.g; exact (zq41.o0.run N zq41.c52 a0 b0_0 b0_1).trans (congr rfl (funext fun w0 => funext fun w1 => funext fun w2 => funext fun w3 => funext fun w4 => (zq41.loop26 N N) w0 w1 w2 w3 w4))
theorem zq41.good (N : Nat) (a0 : List S41) (b0_0 : Int) (b0_1 : List S41) (r : zq41.R) (h : zq41.g N a0 b0_0 b0_1 = some r) : Go.PM.Good Go.Proofs.Tryz.prog T0 78 [.one (.sl false 41 a0), .one (.fn 51 [0])] [(24, [.int .i64 b0_0, .sl false 41 b0_1])] (zq41.sig.ret r) (zq41.sig.bs r) :=
  good_fn tabOk0 mixed0 zq41.sig (zq41.E N) Go.Proofs.Tryz.func78 (by kernel_rfl) (by kernel_rfl) 66483 0 1 [(26, [0, 1, 7, 8], [0])] 14400 false [] [(false, [.any])] (by kernel_rfl) rfl rfl ((zq41.g.run N a0 b0_0 b0_1).trans h)
noncomputable def zq41.ent (N : Nat) : Ent Go.Proofs.Tryz.prog T0 := mkEnt 78 [(false, [.ro 41]), (false, [.any])] zq41.sig (fun t => zq41.g N t.1 t.2.2.1 t.2.2.2) (fun t r h => zq41.good N t.1 t.2.2.1 t.2.2.2 r h)
end Go.Proofs.YtpeleommbipeaaaGreatDoor.M

namespace Go.Proofs.YtpeleommbipeaaaGreatDoor.M
open Go Go.PM Go.Proofs.YtpeleommbipeaaaGreatDoor.P
set_option linter.unusedVariables false
set_option maxRecDepth 100000
/-! ### zq39 -/
abbrev zq39.R : Type := Bool × Int × List S41
abbrev zq39.sig : Sig := ⟨[(false, 1), (false, 1)], [(24, 2)], [.sl false 41, .fn 51 [0], .int .i64, .sl false 41], [(false, 1)], [(24, 2)], [.bool, .int .i64, .sl false 41]⟩
noncomputable def zq39.C : Cfg D0 := ⟨Go.Proofs.Tryz.prog, T0, 19, 0, 9, 1, [], 96, false, []⟩
noncomputable def zq39.E (N : Nat) : List (Ent Go.Proofs.Tryz.prog T0) := [zq41.ent N]
noncomputable def zq39.O (N : Nat) : Orc D0 zq39.R := orcOf (zq39.E N)
noncomputable def zq39.K0 : Ex → St D0 → Option zq39.R := exitK zq39.C Go.Proofs.Tryz.f50.results.toList [(false, [.any])] (decOut zq39.sig)
noncomputable def zq39.c1 : Code := codeAt (Go.Proofs.Tryz.f50.body.getD .skip) []
noncomputable def zq39.o0 (N : Nat) (a0 : List S41) (b0_0 : Int) (b0_1 : List S41) : Option zq39.R :=
 (zq41.g N a0 b0_0 b0_1).bind fun r1 =>
 some ((decide (r1.1 ≥ 0)), r1.2.1, r1.2.2)
theorem zq39.o0.run (N : Nat) (a0 : List S41) (b0_0 : Int) (b0_1 : List S41) : runC zq39.C (zq39.O N) N zq39.c1 1 (st0 [.one (.sl false 41 a0), .one (.fn 51 [0])] [(24, [.int .i64 b0_0, .sl false 41 b0_1])] : St D0) zq39.K0 = zq39.o0 N a0 b0_0 b0_1 := by kernel_rfl
noncomputable def zq39.g (N : Nat) (a0 : List S41) (b0_0 : Int) (b0_1 : List S41) : Option zq39.R := zq39.o0 N a0 b0_0 b0_1
theorem zq39.g.run (N : Nat) (a0 : List S41) (b0_0 : Int) (b0_1 : List S41) : runC zq39.C (zq39.O N) N zq39.c1 1 (st0 [.one (.sl false 41 a0), .one (.fn 51 [0])] [(24, [.int .i64 b0_0, .sl false 41 b0_1])] : St D0) zq39.K0 = zq39.g N a0 b0_0 b0_1 := by
  exact (zq39.o0.run N a0 b0_0 b0_1).trans rfl
theorem zq39.good (N : Nat) (a0 : List S41) (b0_0 : Int) (b0_1 : List S41) (r : zq39.R) (h : zq39.g N a0 b0_0 b0_1 = some r) : Go.PM.Good Go.Proofs.Tryz.prog T0 50 [.one (.sl false 41 a0), .one (.fn 51 [0])] [(24, [.int .i64 b0_0, .sl false 41 b0_1])] (zq39.sig.ret r) (zq39.sig.bs r) :=
  good_fn tabOk0 mixed0 zq39.sig (zq39.E N) Go.Proofs.Tryz.func50 (by kernel_rfl) (by kernel_rfl) 19 0 1 [] 96 false [] [(false, [.any])] (by kernel_rfl) rfl rfl ((zq39.g.run N a0 b0_0 b0_1).trans h)
noncomputable def zq39.ent (N : Nat) : Ent Go.Proofs.Tryz.prog T0 := mkEnt 50 [(false, [.ro 41]), (false, [.any])] zq39.sig (fun t => zq39.g N t.1 t.2.2.1 t.2.2.2) (fun t r h => zq39.good N t.1 t.2.2.1 t.2.2.2 r h)
end Go.Proofs.YtpeleommbipeaaaGreatDoor.M

namespace Go.Proofs.YtpeleommbipeaaaGreatDoor.M
open Go Go.PM Go.Proofs.YtpeleommbipeaaaGreatDoor.P
set_option linter.unusedVariables false
set_option maxRecDepth 100000
/-! ### zq7 -/
abbrev zq7.R : Type := Bool
abbrev zq7.sig : Sig := ⟨[(true, 2)], [], [.int .i64, .sl false 41], [(false, 1)], [], [.bool]⟩
noncomputable def zq7.C : Cfg D0 := ⟨Go.Proofs.Tryz.prog, T0, 7, 0, 19, 0, [], 0, false, []⟩
noncomputable def zq7.E (N : Nat) : List (Ent Go.Proofs.Tryz.prog T0) := [zq21.ent N, zq39.ent N]
noncomputable def zq7.O (N : Nat) : Orc D0 zq7.R := orcOf (zq7.E N)
noncomputable def zq7.K0 : Ex → St D0 → Option zq7.R := exitK zq7.C Go.Proofs.Tryz.f25.results.toList [(false, [.any])] (decOut zq7.sig)
noncomputable def zq7.c1 : Code := codeAt (Go.Proofs.Tryz.f25.body.getD .skip) []
noncomputable def zq7.o0 (N : Nat) (a0_0 : Int) (a0_1 : List S41) : Option zq7.R :=
 (zq21.g N a0_0).bind fun r1 =>
 bif r1 then
  bif (decide ((a0_1.length : Int) ≤ 6)) then
   (zq39.g N a0_1 a0_0 a0_1).bind fun r2 =>
   some ((!r2.1))
  else
  some (false)
 else
 some (false)
theorem zq7.o0.run (N : Nat) (a0_0 : Int) (a0_1 : List S41) : runC zq7.C (zq7.O N) N zq7.c1 1 (st0 [.agg [.int .i64 a0_0, .sl false 41 a0_1]] [] : St D0) zq7.K0 = zq7.o0 N a0_0 a0_1 := by kernel_rfl
noncomputable def zq7.g (N : Nat) (a0_0 : Int) (a0_1 : List S41) : Option zq7.R := zq7.o0 N a0_0 a0_1
theorem zq7.g.run (N : Nat) (a0_0 : Int) (a0_1 : List S41) : runC zq7.C (zq7.O N) N zq7.c1 1 (st0 [.agg [.int .i64 a0_0, .sl false 41 a0_1]] [] : St D0) zq7.K0 = zq7.g N a0_0 a0_1 := by
  exact (zq7.o0.run N a0_0 a0_1).trans rfl
theorem zq7.good (N : Nat) (a0_0 : Int) (a0_1 : List S41) (r : zq7.R) (h : zq7.g N a0_0 a0_1 = some r) : Go.PM.Good Go.Proofs.Tryz.prog T0 25 [.agg [.int .i64 a0_0, .sl false 41 a0_1]] [] (zq7.sig.ret r) (zq7.sig.bs r) :=
  good_fn tabOk0 mixed0 zq7.sig (zq7.E N) Go.Proofs.Tryz.func25 (by kernel_rfl) (by kernel_rfl) 7 0 0 [] 0 false [] [(false, [.any])] (by kernel_rfl) rfl rfl ((zq7.g.run N a0_0 a0_1).trans h)
noncomputable def zq7.ent (N : Nat) : Ent Go.Proofs.Tryz.prog T0 := mkEnt 25 [(true, [.any, .ro 41])] zq7.sig (fun t => zq7.g N t.1 t.2) (fun t r h => zq7.good N t.1 t.2 r h)
end Go.Proofs.YtpeleommbipeaaaGreatDoor.M

namespace Go.Proofs.YtpeleommbipeaaaGreatDoor.M
open Go Go.PM Go.Proofs.YtpeleommbipeaaaGreatDoor.P
set_option linter.unusedVariables false
set_option maxRecDepth 100000
/-! ### zq28 -/
abbrev zq28.R : Type := Bool × Int × Int
abbrev zq28.sig : Sig := ⟨[(true, 3), (false, 1), (false, 1)], [(3, 1), (3, 1)], [.int .i64, .int .i64, .int .i64, .ptr 0 0, .ptr 1 0, .int .i64, .int .i64], [(false, 1)], [(3, 1), (3, 1)], [.bool, .int .i64, .int .i64]⟩
noncomputable def zq28.C : Cfg D0 := ⟨Go.Proofs.Tryz.prog, T0, 31, 0, 10, 2, [], 0, false, []⟩
noncomputable def zq28.E (N : Nat) : List (Ent Go.Proofs.Tryz.prog T0) := [zq18.ent N]
noncomputable def zq28.O (N : Nat) : Orc D0 zq28.R := orcOf (zq28.E N)
noncomputable def zq28.K0 : Ex → St D0 → Option zq28.R := exitK zq28.C Go.Proofs.Tryz.f66.results.toList [(false, [.any])] (decOut zq28.sig)
noncomputable def zq28.c1 : Code := codeAt (Go.Proofs.Tryz.f66.body.getD .skip) []
noncomputable def zq28.o0 (N : Nat) (a0_0 : Int) (a0_1 : Int) (a0_2 : Int) (b0_0 : Int) (b1_0 : Int) : Option zq28.R :=
 (zq18.g N b0_0 b1_0 a0_0 a0_1 a0_2).bind fun r1 =>
 some ((!r1), b0_0, b1_0)
theorem zq28.o0.run (N : Nat) (a0_0 : Int) (a0_1 : Int) (a0_2 : Int) (b0_0 : Int) (b1_0 : Int) : runC zq28.C (zq28.O N) N zq28.c1 1 (st0 [.agg [.int .i64 a0_0, .int .i64 a0_1, .int .i64 a0_2], .one (.ptr 0 0), .one (.ptr 1 0)] [(3, [.int .i64 b0_0]), (3, [.int .i64 b1_0])] : St D0) zq28.K0 = zq28.o0 N a0_0 a0_1 a0_2 b0_0 b1_0 := by kernel_rfl
noncomputable def zq28.g (N : Nat) (a0_0 : Int) (a0_1 : Int) (a0_2 : Int) (b0_0 : Int) (b1_0 : Int) : Option zq28.R := zq28.o0 N a0_0 a0_1 a0_2 b0_0 b1_0
theorem zq28.g.run (N : Nat) (a0_0 : Int) (a0_1 : Int) (a0_2 : Int) (b0_0 : Int) (b1_0 : Int) : runC zq28.C (zq28.O N) N zq28.c1 1 (st0 [.agg [.int .i64 a0_0, .int .i64 a0_1, .int .i64 a0_2], .one (.ptr 0 0), .one (.ptr 1 0)] [(3, [.int .i64 b0_0]), (3, [.int .i64 b1_0])] : St D0) zq28.K0 = zq28.g N a0_0 a0_1 a0_2 b0_0 b1_0 := by
  exact (zq28.o0.run N a0_0 a0_1 a0_2 b0_0 b1_0).trans rfl
theorem zq28.good (N : Nat) (a0_0 : Int) (a0_1 : Int) (a0_2 : Int) (b0_0 : Int) (b1_0 : Int) (r : zq28.R) (h : zq28.g N a0_0 a0_1 a0_2 b0_0 b1_0 = some r) : Go.PM.Good Go.Proofs.Tryz.prog T0 66 [.agg [.int .i64 a0_0, .int .i64 a0_1, .int .i64 a0_2], .one (.ptr 0 0), .one (.ptr 1 0)] [(3, [.int .i64 b0_0]), (3, [.int .i64 b1_0])] (zq28.sig.ret r) (zq28.sig.bs r) :=
  good_fn tabOk0 mixed0 zq28.sig (zq28.E N) Go.Proofs.Tryz.func66 (by kernel_rfl) (by kernel_rfl) 31 0 2 [] 0 false [] [(false, [.any])] (by kernel_rfl) rfl rfl ((zq28.g.run N a0_0 a0_1 a0_2 b0_0 b1_0).trans h)
noncomputable def zq28.ent (N : Nat) : Ent Go.Proofs.Tryz.prog T0 := mkEnt 66 [(true, [.any, .any, .any]), (false, [.any]), (false, [.any])] zq28.sig (fun t => zq28.g N t.1 t.2.1 t.2.2.1 t.2.2.2.2.2.1 t.2.2.2.2.2.2) (fun t r h => zq28.good N t.1 t.2.1 t.2.2.1 t.2.2.2.2.2.1 t.2.2.2.2.2.2 r h)
end Go.Proofs.YtpeleommbipeaaaGreatDoor.M

namespace Go.Proofs.YtpeleommbipeaaaGreatDoor.M
open Go Go.PM Go.Proofs.YtpeleommbipeaaaGreatDoor.P
set_option linter.unusedVariables false
set_option maxRecDepth 100000
/-! ### zq42 -/
abbrev zq42.R : Type := Int × Int × Int
abbrev zq42.sig : Sig := ⟨[(false, 1), (false, 1)], [(3, 1), (3, 1)], [.sl false 41, .fn 66 [0, 1], .int .i64, .int .i64], [(false, 1)], [(3, 1), (3, 1)], [.int .i64, .int .i64, .int .i64]⟩
noncomputable def zq42.C : Cfg D0 := ⟨Go.Proofs.Tryz.prog, T0, 66483, 0, 19, 2, [(26, [0, 1, 7, 8], [0, 1])], 14400, false, []⟩
noncomputable def zq42.E (N : Nat) : List (Ent Go.Proofs.Tryz.prog T0) := [zq28.ent N]
noncomputable def zq42.O (N : Nat) : Orc D0 zq42.R := orcOf (zq42.E N)
noncomputable def zq42.K0 : Ex → St D0 → Option zq42.R := exitK zq42.C Go.Proofs.Tryz.f78.results.toList [(false, [.any])] (decOut zq42.sig)
noncomputable def zq42.c1 : Code := codeAt (Go.Proofs.Tryz.f78.body.getD .skip) []
noncomputable def zq42.c2 : Code := codeAt (Go.Proofs.Tryz.f78.body.getD .skip) [false]
noncomputable def zq42.c7 : Code := codeAt (Go.Proofs.Tryz.f78.body.getD .skip) [true, true]
noncomputable def zq42.c12 : Code := codeAt (Go.Proofs.Tryz.f78.body.getD .skip) [true, false, false]
noncomputable def zq42.c52 : Code := codeAt (Go.Proofs.Tryz.f78.body.getD .skip) [true, false, true, false, false]
noncomputable def zq42.K52 (N : Nat) (Kn26 : St D0 → Option zq42.R) : Ex → St D0 → Option zq42.R := ((fun up => (onN (fun s => zq42.C.tidy 26 s ((onN Kn26 up) .normal)) (onN Kn26 up))) (blockK 0 (onN (fun s => zq42.C.tidy 6 s (fun s' => runC zq42.C (zq42.O N) N zq42.c7 7 s' zq42.K0)) zq42.K0)))
noncomputable def zq42.o1 (N : Nat) (v0 : List S41) (v1 : Int) (v2 : Int) (v3 : Int) (v4 : Int) (c1 : (List S41) → Int → Int → Int → Int → Option zq42.R) : Option zq42.R :=
 bif (decide (v2 < v1)) then
  bif (decide (0 ≤ v2)) then
   bif (decide (v2 < (v0.length : Int))) then
    (v0[(v2 : Int).toNat]?).bind fun x1 =>
    (zq28.g N x1.f0 x1.f1 x1.f2 v3 v4).bind fun r2 =>
    bif r2.1 then
     some (v2, r2.2.1, r2.2.2)
    else
    c1 v0 v1 (w64 (v2 + 1)) r2.2.1 r2.2.2
   else
   none
  else
  none
 else
 some ((-1), v3, v4)
theorem zq42.o1.run (N : Nat) (Kn26 : St D0 → Option zq42.R) (v0 : List S41) (v1 : Int) (v2 : Int) (v3 : Int) (v4 : Int) : runC zq42.C (zq42.O N) N zq42.c52 52 (mkSt [(0, .one (.sl false 41 v0)), (1, .one (.fn 66 [0, 1])), (7, .one (.int .i64 v1)), (8, .one (.int .i64 v2))] [(0, some (3, [.int .i64 v3])), (1, some (3, [.int .i64 v4]))] : St D0) ((fun up => (onN (fun s => zq42.C.tidy 26 s ((onN Kn26 up) .normal)) (onN Kn26 up))) (blockK 0 (onN (fun s => zq42.C.tidy 6 s (fun s' => runC zq42.C (zq42.O N) N zq42.c7 7 s' zq42.K0)) zq42.K0))) = zq42.o1 N v0 v1 v2 v3 v4 ((fun w0 w1 w2 w3 w4 => Kn26 (mkSt [(0, .one (.sl false 41 w0)), (1, .one (.fn 66 [0, 1])), (7, .one (.int .i64 w1)), (8, .one (.int .i64 w2))] [(0, some (3, [.int .i64 w3])), (1, some (3, [.int .i64 w4]))] : St D0))) := by kernel_rfl
noncomputable def zq42.d1 (N : Nat) (v0 : List S41) (v1 : Int) (v2 : Int) (v3 : Int) (v4 : Int) (c1 : (List S41) → Int → Int → Int → Int → Option zq42.R) : Option zq42.R := zq42.o1 N v0 v1 v2 v3 v4 c1
theorem zq42.d1.run (N : Nat) (Kn26 : St D0 → Option zq42.R) (v0 : List S41) (v1 : Int) (v2 : Int) (v3 : Int) (v4 : Int) : runC zq42.C (zq42.O N) N zq42.c52 52 (mkSt [(0, .one (.sl false 41 v0)), (1, .one (.fn 66 [0, 1])), (7, .one (.int .i64 v1)), (8, .one (.int .i64 v2))] [(0, some (3, [.int .i64 v3])), (1, some (3, [.int .i64 v4]))] : St D0) (zq42.K52 N Kn26) = zq42.d1 N v0 v1 v2 v3 v4 ((fun w0 w1 w2 w3 w4 => Kn26 (mkSt [(0, .one (.sl false 41 w0)), (1, .one (.fn 66 [0, 1])), (7, .one (.int .i64 w1)), (8, .one (.int .i64 w2))] [(0, some (3, [.int .i64 w3])), (1, some (3, [.int .i64 w4]))] : St D0))) := by
  exact (zq42.o1.run N Kn26 v0 v1 v2 v3 v4).trans rfl
noncomputable def zq42.K26 (N : Nat) : Ex → St D0 → Option zq42.R := (blockK 0 (onN (fun s => zq42.C.tidy 6 s (fun s' => runC zq42.C (zq42.O N) N zq42.c7 7 s' zq42.K0)) zq42.K0))
noncomputable def zq42.l1 (N : Nat) : Nat → (List S41) → Int → Int → Int → Int → Option zq42.R
  | 0, _, _, _, _, _ => none
  | n + 1, v0, v1, v2, v3, v4 => zq42.d1 N v0 v1 v2 v3 v4 ((fun w0 w1 w2 w3 w4 => zq42.l1 N n w0 w1 w2 w3 w4))
theorem zq42.loop26 (N : Nat) : ∀ n, (∀ (v0 : List S41) (v1 : Int) (v2 : Int) (v3 : Int) (v4 : Int), iter (loopF zq42.C (zq42.O N) N zq42.c52 26) n (mkSt [(0, .one (.sl false 41 v0)), (1, .one (.fn 66 [0, 1])), (7, .one (.int .i64 v1)), (8, .one (.int .i64 v2))] [(0, some (3, [.int .i64 v3])), (1, some (3, [.int .i64 v4]))] : St D0) (zq42.K26 N) = zq42.l1 N n v0 v1 v2 v3 v4)
  | 0 => (fun v0 v1 v2 v3 v4 => rfl)
  | n + 1 => (fun v0 v1 v2 v3 v4 => (zq42.d1.run N (fun s => iter (loopF zq42.C (zq42.O N) N zq42.c52 26) n s (zq42.K26 N)) v0 v1 v2 v3 v4).trans (show _ = zq42.d1 N v0 v1 v2 v3 v4 ((fun w0 w1 w2 w3 w4 => zq42.l1 N n w0 w1 w2 w3 w4)) from (congr rfl (funext fun w0 => funext fun w1 => funext fun w2 => funext fun w3 => funext fun w4 => (zq42.loop26 N n) w0 w1 w2 w3 w4))))
noncomputable def zq42.o0 (N : Nat) (a0 : List S41) (b0_0 : Int) (b1_0 : Int) (c1 : (List S41) → Int → Int → Int → Int → Option zq42.R) : Option zq42.R :=
 c1 a0 (a0.length : Int) 0 b0_0 b1_0
theorem zq42.o0.run (N : Nat) (H52 : Code) (a0 : List S41) (b0_0 : Int) (b1_0 : Int) : runC zq42.C (zq42.O N) N (.seq zq42.c2 (.seq (.seq zq42.c12 (.block 0 (.loop H52))) zq42.c7)) 1 (st0 [.one (.sl false 41 a0), .one (.fn 66 [0, 1])] [(3, [.int .i64 b0_0]), (3, [.int .i64 b1_0])] : St D0) zq42.K0 = zq42.o0 N a0 b0_0 b1_0 ((fun w0 w1 w2 w3 w4 => iter (loopF zq42.C (zq42.O N) N H52 26) N (mkSt [(0, .one (.sl false 41 w0)), (1, .one (.fn 66 [0, 1])), (7, .one (.int .i64 w1)), (8, .one (.int .i64 w2))] [(0, some (3, [.int .i64 w3])), (1, some (3, [.int .i64 w4]))] : St D0) (blockK 0 (onN (fun s => zq42.C.tidy 6 s (fun s' => runC zq42.C (zq42.O N) N zq42.c7 7 s' zq42.K0)) zq42.K0)))) := by kernel_rfl
noncomputable def zq42.g (N : Nat) (a0 : List S41) (b0_0 : Int) (b1_0 : Int) : Option zq42.R := zq42.o0 N a0 b0_0 b1_0 ((fun w0 w1 w2 w3 w4 => zq42.l1 N N w0 w1 w2 w3 w4))
theorem zq42.c1_0 : zq42.c1 = (.seq zq42.c2 (.seq (.seq zq42.c12 (.block 0 (.loop zq42.c52))) zq42.c7)) := by kernel_rfl
theorem zq42.g.run (N : Nat) (a0 : List S41) (b0_0 : Int) (b1_0 : Int) : runC zq42.C (zq42.O N) N zq42.c1 1 (st0 [.one (.sl false 41 a0), .one (.fn 66 [0, 1])] [(3, [.int .i64 b0_0]), (3, [.int .i64 b1_0])] : St D0) zq42.K0 = zq42.g N a0 b0_0 b1_0 := by
  rw [zq42.c1_0]; unfold zq42.g; exact (zq42.o0.run N zq42.c52 a0 b0_0 b1_0).trans (congr rfl (funext fun w0 => funext fun w1 => funext fun w2 => funext fun w3 => funext fun w4 => (zq42.loop26 N N) w0 w1 w2 w3 w4))
theorem zq42.good (N : Nat) (a0 : List S41) (b0_0 : Int) (b1_0 : Int) (r : zq42.R) (h : zq42.g N a0 b0_0 b1_0 = some r) : Go.PM.Good Go.Proofs.Tryz.prog T0 78 [.one (.sl false 41 a0), .one (.fn 66 [0, 1])] [(3, [.int .i64 b0_0]), (3, [.int .i64 b1_0])] (zq42.sig.ret r) (zq42.sig.bs r) :=
  good_fn tabOk0 mixed0 zq42.sig (zq42.E N) Go.Proofs.Tryz.func78 (by kernel_rfl) (by kernel_rfl) 66483 0 2 [(26, [0, 1, 7, 8], [0, 1])] 14400 false [] [(false, [.any])] (by kernel_rfl) rfl rfl ((zq42.g.run N a0 b0_0 b1_0).trans h)
noncomputable def zq42.ent (N : Nat) : Ent Go.Proofs.Tryz.prog T0 := mkEnt 78 [(false, [.ro 41]), (false, [.any])] zq42.sig (fun t => zq42.g N t.1 t.2.2.1 t.2.2.2) (fun t r h => zq42.good N t.1 t.2.2.1 t.2.2.2 r h)
end Go.Proofs.YtpeleommbipeaaaGreatDoor.M

namespace Go.Proofs.YtpeleommbipeaaaGreatDoor.M
open Go Go.PM Go.Proofs.YtpeleommbipeaaaGreatDoor.P
set_option linter.unusedVariables false
set_option maxRecDepth 100000
/-! ### zq40 -/
abbrev zq40.R : Type := Bool × Int × Int
abbrev zq40.sig : Sig := ⟨[(false, 1), (false, 1)], [(3, 1), (3, 1)], [.sl false 41, .fn 66 [0, 1], .int .i64, .int .i64], [(false, 1)], [(3, 1), (3, 1)], [.bool, .int .i64, .int .i64]⟩
noncomputable def zq40.C : Cfg D0 := ⟨Go.Proofs.Tryz.prog, T0, 19, 0, 9, 2, [], 96, false, []⟩
noncomputable def zq40.E (N : Nat) : List (Ent Go.Proofs.Tryz.prog T0) := [zq42.ent N]
noncomputable def zq40.O (N : Nat) : Orc D0 zq40.R := orcOf (zq40.E N)
noncomputable def zq40.K0 : Ex → St D0 → Option zq40.R := exitK zq40.C Go.Proofs.Tryz.f50.results.toList [(false, [.any])] (decOut zq40.sig)
noncomputable def zq40.c1 : Code := codeAt (Go.Proofs.Tryz.f50.body.getD .skip) []
noncomputable def zq40.o0 (N : Nat) (a0 : List S41) (b0_0 : Int) (b1_0 : Int) : Option zq40.R :=
 (zq42.g N a0 b0_0 b1_0).bind fun r1 =>
 some ((decide (r1.1 ≥ 0)), r1.2.1, r1.2.2)
theorem zq40.o0.run (N : Nat) (a0 : List S41) (b0_0 : Int) (b1_0 : Int) : runC zq40.C (zq40.O N) N zq40.c1 1 (st0 [.one (.sl false 41 a0), .one (.fn 66 [0, 1])] [(3, [.int .i64 b0_0]), (3, [.int .i64 b1_0])] : St D0) zq40.K0 = zq40.o0 N a0 b0_0 b1_0 := by kernel_rfl
noncomputable def zq40.g (N : Nat) (a0 : List S41) (b0_0 : Int) (b1_0 : Int) : Option zq40.R := zq40.o0 N a0 b0_0 b1_0
theorem zq40.g.run (N : Nat) (a0 : List S41) (b0_0 : Int) (b1_0 : Int) : runC zq40.C (zq40.O N) N zq40.c1 1 (st0 [.one (.sl false 41 a0), .one (.fn 66 [0, 1])] [(3, [.int .i64 b0_0]), (3, [.int .i64 b1_0])] : St D0) zq40.K0 = zq40.g N a0 b0_0 b1_0 := by
  exact (zq40.o0.run N a0 b0_0 b1_0).trans rfl
theorem zq40.good (N : Nat) (a0 : List S41) (b0_0 : Int) (b1_0 : Int) (r : zq40.R) (h : zq40.g N a0 b0_0 b1_0 = some r) : Go.PM.Good Go.Proofs.Tryz.prog T0 50 [.one (.sl false 41 a0), .one (.fn 66 [0, 1])] [(3, [.int .i64 b0_0]), (3, [.int .i64 b1_0])] (zq40.sig.ret r) (zq40.sig.bs r) :=
  good_fn tabOk0 mixed0 zq40.sig (zq40.E N) Go.Proofs.Tryz.func50 (by kernel_rfl) (by kernel_rfl) 19 0 2 [] 96 false [] [(false, [.any])] (by kernel_rfl) rfl rfl ((zq40.g.run N a0 b0_0 b1_0).trans h)
noncomputable def zq40.ent (N : Nat) : Ent Go.Proofs.Tryz.prog T0 := mkEnt 50 [(false, [.ro 41]), (false, [.any])] zq40.sig (fun t => zq40.g N t.1 t.2.2.1 t.2.2.2) (fun t r h => zq40.good N t.1 t.2.2.1 t.2.2.2 r h)
end Go.Proofs.YtpeleommbipeaaaGreatDoor.M

namespace Go.Proofs.YtpeleommbipeaaaGreatDoor.M
open Go Go.PM Go.Proofs.YtpeleommbipeaaaGreatDoor.P
set_option linter.unusedVariables false
set_option maxRecDepth 100000
/-! ### zq27 -/
abbrev zq27.R : Type := List Int
abbrev zq27.sig : Sig := ⟨[(false, 1), (false, 1)], [], [.int .i64, .sl false 41], [(false, 1)], [], [.sl true 3]⟩
noncomputable def zq27.C : Cfg D0 := ⟨Go.Proofs.Tryz.prog, T0, 69239, 0, 23, 0, [(58, [1, 2, 5, 9, 10], [2])], 8192, false, []⟩
noncomputable def zq27.E (N : Nat) : List (Ent Go.Proofs.Tryz.prog T0) := [zq40.ent N]
noncomputable def zq27.O (N : Nat) : Orc D0 zq27.R := orcOf (zq27.E N)
noncomputable def zq27.K0 : Ex → St D0 → Option zq27.R := exitK zq27.C Go.Proofs.Tryz.f38.results.toList [(false, [.own 3])] (decOut zq27.sig)
noncomputable def zq27.c1 : Code := codeAt (Go.Proofs.Tryz.f38.body.getD .skip) []
noncomputable def zq27.c2 : Code := codeAt (Go.Proofs.Tryz.f38.body.getD .skip) [false]
noncomputable def zq27.c6 : Code := codeAt (Go.Proofs.Tryz.f38.body.getD .skip) [true, false]
noncomputable def zq27.c15 : Code := codeAt (Go.Proofs.Tryz.f38.body.getD .skip) [true, true, true]
noncomputable def zq27.c28 : Code := codeAt (Go.Proofs.Tryz.f38.body.getD .skip) [true, true, false, false]
noncomputable def zq27.c116 : Code := codeAt (Go.Proofs.Tryz.f38.body.getD .skip) [true, true, false, true, false, false]
noncomputable def zq27.K116 (N : Nat) (Kn58 : St D0 → Option zq27.R) : Ex → St D0 → Option zq27.R := ((fun up => (onN (fun s => zq27.C.tidy 58 s ((onN Kn58 up) .normal)) (onN Kn58 up))) (blockK 0 (onN (fun s => zq27.C.tidy 14 s (fun s' => runC zq27.C (zq27.O N) N zq27.c15 15 s' zq27.K0)) zq27.K0)))
noncomputable def zq27.o1 (N : Nat) (v0 : List S41) (v1 : List Int) (v2 : Int) (v3 : Int) (v4 : Int) (c1 : (List S41) → (List Int) → Int → Int → Int → Option zq27.R) : Option zq27.R :=
 bif (decide (v3 < v2)) then
  (zq40.g N v0 v4 v3).bind fun r1 =>
  bif (!r1.1) then
   bif (Nat.blt (v1.length + ([r1.2.2] : List Int).length) 17592186044416) then
    c1 v0 (v1 ++ ([r1.2.2] : List Int)) v2 (w64 (v3 + 1)) r1.2.1
   else
   none
  else
  c1 v0 v1 v2 (w64 (v3 + 1)) r1.2.1
 else
 some (v1)
theorem zq27.o1.run (N : Nat) (Kn58 : St D0 → Option zq27.R) (v0 : List S41) (v1 : List Int) (v2 : Int) (v3 : Int) (v4 : Int) : runC zq27.C (zq27.O N) N zq27.c116 116 (mkSt [(1, .one (.sl false 41 v0)), (2, .one (.ptr 2 0)), (5, .one (.sl true 3 v1)), (9, .one (.int .i64 v2)), (10, .one (.int .i64 v3))] [(2, some (3, [.int .i64 v4]))] : St D0) ((fun up => (onN (fun s => zq27.C.tidy 58 s ((onN Kn58 up) .normal)) (onN Kn58 up))) (blockK 0 (onN (fun s => zq27.C.tidy 14 s (fun s' => runC zq27.C (zq27.O N) N zq27.c15 15 s' zq27.K0)) zq27.K0))) = zq27.o1 N v0 v1 v2 v3 v4 ((fun w0 w1 w2 w3 w4 => Kn58 (mkSt [(1, .one (.sl false 41 w0)), (2, .one (.ptr 2 0)), (5, .one (.sl true 3 w1)), (9, .one (.int .i64 w2)), (10, .one (.int .i64 w3))] [(2, some (3, [.int .i64 w4]))] : St D0))) := by kernel_rfl
noncomputable def zq27.d1 (N : Nat) (v0 : List S41) (v1 : List Int) (v2 : Int) (v3 : Int) (v4 : Int) (c1 : (List S41) → (List Int) → Int → Int → Int → Option zq27.R) : Option zq27.R := zq27.o1 N v0 v1 v2 v3 v4 c1
theorem zq27.d1.run (N : Nat) (Kn58 : St D0 → Option zq27.R) (v0 : List S41) (v1 : List Int) (v2 : Int) (v3 : Int) (v4 : Int) : runC zq27.C (zq27.O N) N zq27.c116 116 (mkSt [(1, .one (.sl false 41 v0)), (2, .one (.ptr 2 0)), (5, .one (.sl true 3 v1)), (9, .one (.int .i64 v2)), (10, .one (.int .i64 v3))] [(2, some (3, [.int .i64 v4]))] : St D0) (zq27.K116 N Kn58) = zq27.d1 N v0 v1 v2 v3 v4 ((fun w0 w1 w2 w3 w4 => Kn58 (mkSt [(1, .one (.sl false 41 w0)), (2, .one (.ptr 2 0)), (5, .one (.sl true 3 w1)), (9, .one (.int .i64 w2)), (10, .one (.int .i64 w3))] [(2, some (3, [.int .i64 w4]))] : St D0))) := by
  exact (zq27.o1.run N Kn58 v0 v1 v2 v3 v4).trans rfl
noncomputable def zq27.K58 (N : Nat) : Ex → St D0 → Option zq27.R := (blockK 0 (onN (fun s => zq27.C.tidy 14 s (fun s' => runC zq27.C (zq27.O N) N zq27.c15 15 s' zq27.K0)) zq27.K0))
noncomputable def zq27.l1 (N : Nat) : Nat → (List S41) → (List Int) → Int → Int → Int → Option zq27.R
  | 0, _, _, _, _, _ => none
  | n + 1, v0, v1, v2, v3, v4 => zq27.d1 N v0 v1 v2 v3 v4 ((fun w0 w1 w2 w3 w4 => zq27.l1 N n w0 w1 w2 w3 w4))
theorem zq27.loop58 (N : Nat) : ∀ n, (∀ (v0 : List S41) (v1 : List Int) (v2 : Int) (v3 : Int) (v4 : Int), iter (loopF zq27.C (zq27.O N) N zq27.c116 58) n (mkSt [(1, .one (.sl false 41 v0)), (2, .one (.ptr 2 0)), (5, .one (.sl true 3 v1)), (9, .one (.int .i64 v2)), (10, .one (.int .i64 v3))] [(2, some (3, [.int .i64 v4]))] : St D0) (zq27.K58 N) = zq27.l1 N n v0 v1 v2 v3 v4)
  | 0 => (fun v0 v1 v2 v3 v4 => rfl)
  | n + 1 => (fun v0 v1 v2 v3 v4 => (zq27.d1.run N (fun s => iter (loopF zq27.C (zq27.O N) N zq27.c116 58) n s (zq27.K58 N)) v0 v1 v2 v3 v4).trans (show _ = zq27.d1 N v0 v1 v2 v3 v4 ((fun w0 w1 w2 w3 w4 => zq27.l1 N n w0 w1 w2 w3 w4)) from (congr rfl (funext fun w0 => funext fun w1 => funext fun w2 => funext fun w3 => funext fun w4 => (zq27.loop58 N n) w0 w1 w2 w3 w4))))
noncomputable def zq27.o0 (N : Nat) (a0 : Int) (a1 : List S41) (c1 : (List S41) → (List Int) → Int → Int → Int → Option zq27.R) : Option zq27.R :=
 c1 a1 ([] : List Int) (w64 (60 * a0)) 0 a0
theorem zq27.o0.run (N : Nat) (H116 : Code) (a0 : Int) (a1 : List S41) : runC zq27.C (zq27.O N) N (.seq zq27.c2 (.seq zq27.c6 (.seq (.seq zq27.c28 (.block 0 (.loop H116))) zq27.c15))) 1 (st0 [.one (.int .i64 a0), .one (.sl false 41 a1)] [] : St D0) zq27.K0 = zq27.o0 N a0 a1 ((fun w0 w1 w2 w3 w4 => iter (loopF zq27.C (zq27.O N) N H116 58) N (mkSt [(1, .one (.sl false 41 w0)), (2, .one (.ptr 2 0)), (5, .one (.sl true 3 w1)), (9, .one (.int .i64 w2)), (10, .one (.int .i64 w3))] [(2, some (3, [.int .i64 w4]))] : St D0) (blockK 0 (onN (fun s => zq27.C.tidy 14 s (fun s' => runC zq27.C (zq27.O N) N zq27.c15 15 s' zq27.K0)) zq27.K0)))) := by kernel_rfl
noncomputable def zq27.g (N : Nat) (a0 : Int) (a1 : List S41) : Option zq27.R := zq27.o0 N a0 a1 ((fun w0 w1 w2 w3 w4 => zq27.l1 N N w0 w1 w2 w3 w4))
theorem zq27.c1_0 : zq27.c1 = (.seq zq27.c2 (.seq zq27.c6 (.seq (.seq zq27.c28 (.block 0 (.loop zq27.c116))) zq27.c15))) := by kernel_rfl
theorem zq27.g.run (N : Nat) (a0 : Int) (a1 : List S41) : runC zq27.C (zq27.O N) N zq27.c1 1 (st0 [.one (.int .i64 a0), .one (.sl false 41 a1)] [] : St D0) zq27.K0 = zq27.g N a0 a1 := by
  rw [zq27.c1_0]; unfold zq27.g; exact (zq27.o0.run N zq27.c116 a0 a1).trans (congr rfl (funext fun w0 => funext fun w1 => funext fun w2 => funext fun w3 => funext fun w4 => (zq27.loop58 N N) w0 w1 w2 w3 w4))
theorem zq27.good (N : Nat) (a0 : Int) (a1 : List S41) (r : zq27.R) (h : zq27.g N a0 a1 = some r) : Go.PM.Good Go.Proofs.Tryz.prog T0 38 [.one (.int .i64 a0), .one (.sl false 41 a1)] [] (zq27.sig.ret r) (zq27.sig.bs r) :=
  good_fn tabOk0 mixed0 zq27.sig (zq27.E N) Go.Proofs.Tryz.func38 (by kernel_rfl) (by kernel_rfl) 69239 0 0 [(58, [1, 2, 5, 9, 10], [2])] 8192 false [] [(false, [.own 3])] (by kernel_rfl) rfl rfl ((zq27.g.run N a0 a1).trans h)
noncomputable def zq27.ent (N : Nat) : Ent Go.Proofs.Tryz.prog T0 := mkEnt 38 [(false, [.any]), (false, [.ro 41])] zq27.sig (fun t => zq27.g N t.1 t.2) (fun t r h => zq27.good N t.1 t.2 r h)
end Go.Proofs.YtpeleommbipeaaaGreatDoor.M

namespace Go.Proofs.YtpeleommbipeaaaGreatDoor.M
open Go Go.PM Go.Proofs.YtpeleommbipeaaaGreatDoor.P
set_option linter.unusedVariables false
set_option maxRecDepth 100000
/-! ### zq17 -/
abbrev zq17.R : Type := List Int × Bool
abbrev zq17.sig : Sig := ⟨[(true, 2)], [], [.int .i64, .sl false 41], [(false, 1), (false, 1)], [], [.sl true 3, .bool]⟩
noncomputable def zq17.C : Cfg D0 := ⟨Go.Proofs.Tryz.prog, T0, 79, 0, 12, 0, [], 0, false, []⟩
noncomputable def zq17.E (N : Nat) : List (Ent Go.Proofs.Tryz.prog T0) := [zq7.ent N, zq27.ent N]
noncomputable def zq17.O (N : Nat) : Orc D0 zq17.R := orcOf (zq17.E N)
noncomputable def zq17.K0 : Ex → St D0 → Option zq17.R := exitK zq17.C Go.Proofs.Tryz.f5.results.toList [(false, [.own 3]), (false, [.any])] (decOut zq17.sig)
noncomputable def zq17.c1 : Code := codeAt (Go.Proofs.Tryz.f5.body.getD .skip) []
noncomputable def zq17.o0 (N : Nat) (a0_0 : Int) (a0_1 : List S41) : Option zq17.R :=
 (zq7.g N a0_0 a0_1).bind fun r1 =>
 bif (!r1) then
  some (([] : List Int), false)
 else
 (zq27.g N a0_0 a0_1).bind fun r2 =>
 some (r2, true)
theorem zq17.o0.run (N : Nat) (a0_0 : Int) (a0_1 : List S41) : runC zq17.C (zq17.O N) N zq17.c1 1 (st0 [.agg [.int .i64 a0_0, .sl false 41 a0_1]] [] : St D0) zq17.K0 = zq17.o0 N a0_0 a0_1 := by kernel_rfl
noncomputable def zq17.g (N : Nat) (a0_0 : Int) (a0_1 : List S41) : Option zq17.R := zq17.o0 N a0_0 a0_1
theorem zq17.g.run (N : Nat) (a0_0 : Int) (a0_1 : List S41) : runC zq17.C (zq17.O N) N zq17.c1 1 (st0 [.agg [.int .i64 a0_0, .sl false 41 a0_1]] [] : St D0) zq17.K0 = zq17.g N a0_0 a0_1 := by
  exact (zq17.o0.run N a0_0 a0_1).trans rfl
theorem zq17.good (N : Nat) (a0_0 : Int) (a0_1 : List S41) (r : zq17.R) (h : zq17.g N a0_0 a0_1 = some r) : Go.PM.Good Go.Proofs.Tryz.prog T0 5 [.agg [.int .i64 a0_0, .sl false 41 a0_1]] [] (zq17.sig.ret r) (zq17.sig.bs r) :=
  good_fn tabOk0 mixed0 zq17.sig (zq17.E N) Go.Proofs.Tryz.func5 (by kernel_rfl) (by kernel_rfl) 79 0 0 [] 0 false [] [(false, [.own 3]), (false, [.any])] (by kernel_rfl) rfl rfl ((zq17.g.run N a0_0 a0_1).trans h)
noncomputable def zq17.ent (N : Nat) : Ent Go.Proofs.Tryz.prog T0 := mkEnt 5 [(true, [.any, .ro 41])] zq17.sig (fun t => zq17.g N t.1 t.2) (fun t r h => zq17.good N t.1 t.2 r h)
end Go.Proofs.YtpeleommbipeaaaGreatDoor.M

namespace Go.Proofs.YtpeleommbipeaaaGreatDoor.M
open Go Go.PM Go.Proofs.YtpeleommbipeaaaGreatDoor.P
set_option linter.unusedVariables false
set_option maxRecDepth 100000
/-! ### zq73 -/
abbrev zq73.R : Type := List Int
abbrev zq73.sig : Sig := ⟨[(false, 1), (false, 1)], [], [.int .i64, .sl false 41], [(false, 1)], [], [.sl true 3]⟩
noncomputable def zq73.C : Cfg D0 := ⟨Go.Proofs.Tryz.prog, T0, 1074733811, 0, 36, 0, [(58, [0, 1, 5, 6], []), (466, [0, 1, 5, 6], []), (14922, [0, 1, 5, 6, 7, 16, 17, 18], [])], 83905536, false, []⟩
noncomputable def zq73.E (N : Nat) : List (Ent Go.Proofs.Tryz.prog T0) := [zq75.ent N]
noncomputable def zq73.O (N : Nat) : Orc D0 zq73.R := orcOf (zq73.E N)
noncomputable def zq73.K0 : Ex → St D0 → Option zq73.R := exitK zq73.C Go.Proofs.Tryz.f40.results.toList [(false, [.own 3])] (decOut zq73.sig)
noncomputable def zq73.c1 : Code := codeAt (Go.Proofs.Tryz.f40.body.getD .skip) []
noncomputable def zq73.c2 : Code := codeAt (Go.Proofs.Tryz.f40.body.getD .skip) [false]
noncomputable def zq73.c6 : Code := codeAt (Go.Proofs.Tryz.f40.body.getD .skip) [true, false]
noncomputable def zq73.c15 : Code := codeAt (Go.Proofs.Tryz.f40.body.getD .skip) [true, true, true]
noncomputable def zq73.c28 : Code := codeAt (Go.Proofs.Tryz.f40.body.getD .skip) [true, true, false, false]
noncomputable def zq73.c116 : Code := codeAt (Go.Proofs.Tryz.f40.body.getD .skip) [true, true, false, true, false, false]
noncomputable def zq73.c232 : Code := codeAt (Go.Proofs.Tryz.f40.body.getD .skip) [true, true, false, true, false, false, false]
noncomputable def zq73.c467 : Code := codeAt (Go.Proofs.Tryz.f40.body.getD .skip) [true, true, false, true, false, false, true, true]
noncomputable def zq73.c1864 : Code := codeAt (Go.Proofs.Tryz.f40.body.getD .skip) [true, true, false, true, false, false, true, false, false, false]
noncomputable def zq73.c3731 : Code := codeAt (Go.Proofs.Tryz.f40.body.getD .skip) [true, true, false, true, false, false, true, false, false, true, true]
noncomputable def zq73.c7460 : Code := codeAt (Go.Proofs.Tryz.f40.body.getD .skip) [true, true, false, true, false, false, true, false, false, true, false, false]
noncomputable def zq73.c29844 : Code := codeAt (Go.Proofs.Tryz.f40.body.getD .skip) [true, true, false, true, false, false, true, false, false, true, false, true, false, false]
noncomputable def zq73.K467 (N : Nat) (Kn58 : St D0 → Option zq73.R) : Ex → St D0 → Option zq73.R := ((fun up => (onN (fun s => zq73.C.tidy 58 s ((onN Kn58 up) .normal)) (onN Kn58 up))) (blockK 0 (onN (fun s => zq73.C.tidy 14 s (fun s' => runC zq73.C (zq73.O N) N zq73.c15 15 s' zq73.K0)) zq73.K0)))
noncomputable def zq73.o3 (N : Nat) (v0 : Int) (v1 : List S41) (v2 : List Int) (v3 : Int) (c5 : Int → (List S41) → (List Int) → Int → Option zq73.R) : Option zq73.R :=
 c5 v0 v1 v2 (w64 (v3 + 1))
theorem zq73.o3.run (N : Nat) (Kn58 : St D0 → Option zq73.R) (v0 : Int) (v1 : List S41) (v2 : List Int) (v3 : Int) : runC zq73.C (zq73.O N) N zq73.c467 467 (mkSt [(0, .one (.int .i64 v0)), (1, .one (.sl false 41 v1)), (5, .one (.sl true 3 v2)), (6, .one (.int .i64 v3))] [] : St D0) ((fun up => (onN (fun s => zq73.C.tidy 58 s ((onN Kn58 up) .normal)) (onN Kn58 up))) (blockK 0 (onN (fun s => zq73.C.tidy 14 s (fun s' => runC zq73.C (zq73.O N) N zq73.c15 15 s' zq73.K0)) zq73.K0))) = zq73.o3 N v0 v1 v2 v3 ((fun w0 w1 w2 w3 => Kn58 (mkSt [(0, .one (.int .i64 w0)), (1, .one (.sl false 41 w1)), (5, .one (.sl true 3 w2)), (6, .one (.int .i64 w3))] [] : St D0))) := by kernel_rfl
noncomputable def zq73.d3 (N : Nat) (v0 : Int) (v1 : List S41) (v2 : List Int) (v3 : Int) (c5 : Int → (List S41) → (List Int) → Int → Option zq73.R) : Option zq73.R := zq73.o3 N v0 v1 v2 v3 c5
theorem zq73.d3.run (N : Nat) (Kn58 : St D0 → Option zq73.R) (v0 : Int) (v1 : List S41) (v2 : List Int) (v3 : Int) : runC zq73.C (zq73.O N) N zq73.c467 467 (mkSt [(0, .one (.int .i64 v0)), (1, .one (.sl false 41 v1)), (5, .one (.sl true 3 v2)), (6, .one (.int .i64 v3))] [] : St D0) (zq73.K467 N Kn58) = zq73.d3 N v0 v1 v2 v3 ((fun w0 w1 w2 w3 => Kn58 (mkSt [(0, .one (.int .i64 w0)), (1, .one (.sl false 41 w1)), (5, .one (.sl true 3 w2)), (6, .one (.int .i64 w3))] [] : St D0))) := by
  exact (zq73.o3.run N Kn58 v0 v1 v2 v3).trans rfl
noncomputable def zq73.o4 (N : Nat) (v0 : Int) (v1 : List S41) (v2 : Int) (c1 : Int → (List S41) → Int → Option zq73.R) : Option zq73.R :=
 c1 v0 v1 (w64 (v2 + 1))
theorem zq73.o4.run (N : Nat) (Kn58 : St D0 → Option zq73.R) (v0 : Int) (v1 : List S41) (v2 : Int) : runC zq73.C (zq73.O N) N zq73.c467 467 (mkSt [(0, .one (.int .i64 v0)), (1, .one (.sl false 41 v1)), (5, .one (.nl)), (6, .one (.int .i64 v2))] [] : St D0) ((fun up => (onN (fun s => zq73.C.tidy 58 s ((onN Kn58 up) .normal)) (onN Kn58 up))) (blockK 0 (onN (fun s => zq73.C.tidy 14 s (fun s' => runC zq73.C (zq73.O N) N zq73.c15 15 s' zq73.K0)) zq73.K0))) = zq73.o4 N v0 v1 v2 ((fun w0 w1 w2 => Kn58 (mkSt [(0, .one (.int .i64 w0)), (1, .one (.sl false 41 w1)), (5, .one (.nl)), (6, .one (.int .i64 w2))] [] : St D0))) := by kernel_rfl
noncomputable def zq73.d4 (N : Nat) (v0 : Int) (v1 : List S41) (v2 : Int) (c1 : Int → (List S41) → Int → Option zq73.R) : Option zq73.R := zq73.o4 N v0 v1 v2 c1
theorem zq73.d4.run (N : Nat) (Kn58 : St D0 → Option zq73.R) (v0 : Int) (v1 : List S41) (v2 : Int) : runC zq73.C (zq73.O N) N zq73.c467 467 (mkSt [(0, .one (.int .i64 v0)), (1, .one (.sl false 41 v1)), (5, .one (.nl)), (6, .one (.int .i64 v2))] [] : St D0) (zq73.K467 N Kn58) = zq73.d4 N v0 v1 v2 ((fun w0 w1 w2 => Kn58 (mkSt [(0, .one (.int .i64 w0)), (1, .one (.sl false 41 w1)), (5, .one (.nl)), (6, .one (.int .i64 w2))] [] : St D0))) := by
  exact (zq73.o4.run N Kn58 v0 v1 v2).trans rfl
noncomputable def zq73.B233 (N : Nat) (Kn58 : St D0 → Option zq73.R) : St D0 → Option zq73.R := fun s' => runC zq73.C (zq73.O N) N zq73.c467 467 s' (zq73.K467 N Kn58)
noncomputable def zq73.K29844 (N : Nat) (Kn58 : St D0 → Option zq73.R) (Kn14922 : St D0 → Option zq73.R) : Ex → St D0 → Option zq73.R := ((fun up => (onN (fun s => zq73.C.tidy 14922 s ((onN Kn14922 up) .normal)) (onN Kn14922 up))) (blockK 2 ((fun up => (onN (fun s => zq73.C.tidy 3730 s (fun s' => runC zq73.C (zq73.O N) N zq73.c3731 3731 s' up)) up)) (blockK 1 ((fun up => (onN (fun s => zq73.C.tidy 466 s (zq73.B233 N Kn58)) up)) ((fun up => (onN (fun s => zq73.C.tidy 58 s ((onN Kn58 up) .normal)) (onN Kn58 up))) (blockK 0 (onN (fun s => zq73.C.tidy 14 s (fun s' => runC zq73.C (zq73.O N) N zq73.c15 15 s' zq73.K0)) zq73.K0))))))))
noncomputable def zq73.o2 (N : Nat) (v0 : Int) (v1 : List S41) (v2 : Int) (v3 : Bool) (v4 : List S41) (v5 : Int) (v6 : Int) (c2 : Int → (List S41) → Int → Bool → (List S41) → Int → Int → Option zq73.R) (c3 : Int → (List S41) → (List Int) → Int → Option zq73.R) (c4 : Int → (List S41) → Int → Option zq73.R) : Option zq73.R :=
 bif (decide (v6 < v5)) then
  bif (decide (0 ≤ v6)) then
   bif (decide (v6 < (v4.length : Int))) then
    (v4[(v6 : Int).toNat]?).bind fun x1 =>
    bif v3 then
     (zq75.g N v0 x1.f0 x1.f1 x1.f2 v2).bind fun r2 =>
     c2 v0 v1 v2 r2 v4 v5 (w64 (v6 + 1))
    else
    c2 v0 v1 v2 false v4 v5 (w64 (v6 + 1))
   else
   none
  else
  none
 else
 bif v3 then
  bif (Nat.blt (([] : List Int).length + ([v2] : List Int).length) 17592186044416) then
   c3 v0 v1 (([] : List Int) ++ ([v2] : List Int)) v2
  else
  none
 else
 c4 v0 v1 v2
theorem zq73.o2.run (N : Nat) (Kb233 : St D0 → Option zq73.R) (Kn58 : St D0 → Option zq73.R) (Kn14922 : St D0 → Option zq73.R) (v0 : Int) (v1 : List S41) (v2 : Int) (v3 : Bool) (v4 : List S41) (v5 : Int) (v6 : Int) : runC zq73.C (zq73.O N) N zq73.c29844 29844 (mkSt [(0, .one (.int .i64 v0)), (1, .one (.sl false 41 v1)), (5, .one (.nl)), (6, .one (.int .i64 v2)), (7, .one (.bool v3)), (16, .one (.sl false 41 v4)), (17, .one (.int .i64 v5)), (18, .one (.int .i64 v6))] [] : St D0) ((fun up => (onN (fun s => zq73.C.tidy 14922 s ((onN Kn14922 up) .normal)) (onN Kn14922 up))) (blockK 2 ((fun up => (onN (fun s => zq73.C.tidy 3730 s (fun s' => runC zq73.C (zq73.O N) N zq73.c3731 3731 s' up)) up)) (blockK 1 ((fun up => (onN (fun s => zq73.C.tidy 466 s Kb233) up)) ((fun up => (onN (fun s => zq73.C.tidy 58 s ((onN Kn58 up) .normal)) (onN Kn58 up))) (blockK 0 (onN (fun s => zq73.C.tidy 14 s (fun s' => runC zq73.C (zq73.O N) N zq73.c15 15 s' zq73.K0)) zq73.K0)))))))) = zq73.o2 N v0 v1 v2 v3 v4 v5 v6 ((fun w0 w1 w2 w3 w4 w5 w6 => Kn14922 (mkSt [(0, .one (.int .i64 w0)), (1, .one (.sl false 41 w1)), (5, .one (.nl)), (6, .one (.int .i64 w2)), (7, .one (.bool w3)), (16, .one (.sl false 41 w4)), (17, .one (.int .i64 w5)), (18, .one (.int .i64 w6))] [] : St D0))) ((fun w0 w1 w2 w3 => Kb233 (mkSt [(0, .one (.int .i64 w0)), (1, .one (.sl false 41 w1)), (5, .one (.sl true 3 w2)), (6, .one (.int .i64 w3))] [] : St D0))) ((fun w0 w1 w2 => Kb233 (mkSt [(0, .one (.int .i64 w0)), (1, .one (.sl false 41 w1)), (5, .one (.nl)), (6, .one (.int .i64 w2))] [] : St D0))) := by kernel_rfl
noncomputable def zq73.d2 (N : Nat) (v0 : Int) (v1 : List S41) (v2 : Int) (v3 : Bool) (v4 : List S41) (v5 : Int) (v6 : Int) (c1 : Int → (List S41) → Int → Option zq73.R) (c2 : Int → (List S41) → Int → Bool → (List S41) → Int → Int → Option zq73.R) (c5 : Int → (List S41) → (List Int) → Int → Option zq73.R) : Option zq73.R := zq73.o2 N v0 v1 v2 v3 v4 v5 v6 c2 ((fun w0 w1 w2 w3 => zq73.d3 N w0 w1 w2 w3 c5)) ((fun w0 w1 w2 => zq73.d4 N w0 w1 w2 c1))
theorem zq73.d2.run (N : Nat) (Kn58 : St D0 → Option zq73.R) (Kn14922 : St D0 → Option zq73.R) (v0 : Int) (v1 : List S41) (v2 : Int) (v3 : Bool) (v4 : List S41) (v5 : Int) (v6 : Int) : runC zq73.C (zq73.O N) N zq73.c29844 29844 (mkSt [(0, .one (.int .i64 v0)), (1, .one (.sl false 41 v1)), (5, .one (.nl)), (6, .one (.int .i64 v2)), (7, .one (.bool v3)), (16, .one (.sl false 41 v4)), (17, .one (.int .i64 v5)), (18, .one (.int .i64 v6))] [] : St D0) (zq73.K29844 N Kn58 Kn14922) = zq73.d2 N v0 v1 v2 v3 v4 v5 v6 ((fun w0 w1 w2 => Kn58 (mkSt [(0, .one (.int .i64 w0)), (1, .one (.sl false 41 w1)), (5, .one (.nl)), (6, .one (.int .i64 w2))] [] : St D0))) ((fun w0 w1 w2 w3 w4 w5 w6 => Kn14922 (mkSt [(0, .one (.int .i64 w0)), (1, .one (.sl false 41 w1)), (5, .one (.nl)), (6, .one (.int .i64 w2)), (7, .one (.bool w3)), (16, .one (.sl false 41 w4)), (17, .one (.int .i64 w5)), (18, .one (.int .i64 w6))] [] : St D0))) ((fun w0 w1 w2 w3 => Kn58 (mkSt [(0, .one (.int .i64 w0)), (1, .one (.sl false 41 w1)), (5, .one (.sl true 3 w2)), (6, .one (.int .i64 w3))] [] : St D0))) := by
  unfold zq73.d2; exact (zq73.o2.run N (zq73.B233 N Kn58) Kn58 Kn14922 v0 v1 v2 v3 v4 v5 v6).trans (congr (congr (congr rfl rfl) (funext fun w0 => funext fun w1 => funext fun w2 => funext fun w3 => zq73.d3.run N Kn58 w0 w1 w2 w3)) (funext fun w0 => funext fun w1 => funext fun w2 => zq73.d4.run N Kn58 w0 w1 w2))
noncomputable def zq73.o6 (N : Nat) (v0 : Int) (v1 : List S41) (v2 : List Int) (v3 : Int) (v4 : Bool) (v5 : List S41) (v6 : Int) (v7 : Int) (c6 : Int → (List S41) → (List Int) → Int → Bool → (List S41) → Int → Int → Option zq73.R) (c3 : Int → (List S41) → (List Int) → Int → Option zq73.R) : Option zq73.R :=
 bif (decide (v7 < v6)) then
  bif (decide (0 ≤ v7)) then
   bif (decide (v7 < (v5.length : Int))) then
    (v5[(v7 : Int).toNat]?).bind fun x1 =>
    bif v4 then
     (zq75.g N v0 x1.f0 x1.f1 x1.f2 v3).bind fun r2 =>
     c6 v0 v1 v2 v3 r2 v5 v6 (w64 (v7 + 1))
    else
    c6 v0 v1 v2 v3 false v5 v6 (w64 (v7 + 1))
   else
   none
  else
  none
 else
 bif v4 then
  bif (Nat.blt (v2.length + ([v3] : List Int).length) 17592186044416) then
   c3 v0 v1 (v2 ++ ([v3] : List Int)) v3
  else
  none
 else
 c3 v0 v1 v2 v3
theorem zq73.o6.run (N : Nat) (Kb233 : St D0 → Option zq73.R) (Kn58 : St D0 → Option zq73.R) (Kn14922 : St D0 → Option zq73.R) (v0 : Int) (v1 : List S41) (v2 : List Int) (v3 : Int) (v4 : Bool) (v5 : List S41) (v6 : Int) (v7 : Int) : runC zq73.C (zq73.O N) N zq73.c29844 29844 (mkSt [(0, .one (.int .i64 v0)), (1, .one (.sl false 41 v1)), (5, .one (.sl true 3 v2)), (6, .one (.int .i64 v3)), (7, .one (.bool v4)), (16, .one (.sl false 41 v5)), (17, .one (.int .i64 v6)), (18, .one (.int .i64 v7))] [] : St D0) ((fun up => (onN (fun s => zq73.C.tidy 14922 s ((onN Kn14922 up) .normal)) (onN Kn14922 up))) (blockK 2 ((fun up => (onN (fun s => zq73.C.tidy 3730 s (fun s' => runC zq73.C (zq73.O N) N zq73.c3731 3731 s' up)) up)) (blockK 1 ((fun up => (onN (fun s => zq73.C.tidy 466 s Kb233) up)) ((fun up => (onN (fun s => zq73.C.tidy 58 s ((onN Kn58 up) .normal)) (onN Kn58 up))) (blockK 0 (onN (fun s => zq73.C.tidy 14 s (fun s' => runC zq73.C (zq73.O N) N zq73.c15 15 s' zq73.K0)) zq73.K0)))))))) = zq73.o6 N v0 v1 v2 v3 v4 v5 v6 v7 ((fun w0 w1 w2 w3 w4 w5 w6 w7 => Kn14922 (mkSt [(0, .one (.int .i64 w0)), (1, .one (.sl false 41 w1)), (5, .one (.sl true 3 w2)), (6, .one (.int .i64 w3)), (7, .one (.bool w4)), (16, .one (.sl false 41 w5)), (17, .one (.int .i64 w6)), (18, .one (.int .i64 w7))] [] : St D0))) ((fun w0 w1 w2 w3 => Kb233 (mkSt [(0, .one (.int .i64 w0)), (1, .one (.sl false 41 w1)), (5, .one (.sl true 3 w2)), (6, .one (.int .i64 w3))] [] : St D0))) := by kernel_rfl
noncomputable def zq73.d6 (N : Nat) (v0 : Int) (v1 : List S41) (v2 : List Int) (v3 : Int) (v4 : Bool) (v5 : List S41) (v6 : Int) (v7 : Int) (c5 : Int → (List S41) → (List Int) → Int → Option zq73.R) (c6 : Int → (List S41) → (List Int) → Int → Bool → (List S41) → Int → Int → Option zq73.R) : Option zq73.R := zq73.o6 N v0 v1 v2 v3 v4 v5 v6 v7 c6 ((fun w0 w1 w2 w3 => zq73.d3 N w0 w1 w2 w3 c5))
theorem zq73.d6.run (N : Nat) (Kn58 : St D0 → Option zq73.R) (Kn14922 : St D0 → Option zq73.R) (v0 : Int) (v1 : List S41) (v2 : List Int) (v3 : Int) (v4 : Bool) (v5 : List S41) (v6 : Int) (v7 : Int) : runC zq73.C (zq73.O N) N zq73.c29844 29844 (mkSt [(0, .one (.int .i64 v0)), (1, .one (.sl false 41 v1)), (5, .one (.sl true 3 v2)), (6, .one (.int .i64 v3)), (7, .one (.bool v4)), (16, .one (.sl false 41 v5)), (17, .one (.int .i64 v6)), (18, .one (.int .i64 v7))] [] : St D0) (zq73.K29844 N Kn58 Kn14922) = zq73.d6 N v0 v1 v2 v3 v4 v5 v6 v7 ((fun w0 w1 w2 w3 => Kn58 (mkSt [(0, .one (.int .i64 w0)), (1, .one (.sl false 41 w1)), (5, .one (.sl true 3 w2)), (6, .one (.int .i64 w3))] [] : St D0))) ((fun w0 w1 w2 w3 w4 w5 w6 w7 => Kn14922 (mkSt [(0, .one (.int .i64 w0)), (1, .one (.sl false 41 w1)), (5, .one (.sl true 3 w2)), (6, .one (.int .i64 w3)), (7, .one (.bool w4)), (16, .one (.sl false 41 w5)), (17, .one (.int .i64 w6)), (18, .one (.int .i64 w7))] [] : St D0))) := by
  unfold zq73.d6; exact (zq73.o6.run N (zq73.B233 N Kn58) Kn58 Kn14922 v0 v1 v2 v3 v4 v5 v6 v7).trans (congr (congr rfl rfl) (funext fun w0 => funext fun w1 => funext fun w2 => funext fun w3 => zq73.d3.run N Kn58 w0 w1 w2 w3))
noncomputable def zq73.K14922 (N : Nat) (Kn58 : St D0 → Option zq73.R) : Ex → St D0 → Option zq73.R := (blockK 2 ((fun up => (onN (fun s => zq73.C.tidy 3730 s (fun s' => runC zq73.C (zq73.O N) N zq73.c3731 3731 s' up)) up)) (blockK 1 ((fun up => (onN (fun s => zq73.C.tidy 466 s (zq73.B233 N Kn58)) up)) ((fun up => (onN (fun s => zq73.C.tidy 58 s ((onN Kn58 up) .normal)) (onN Kn58 up))) (blockK 0 (onN (fun s => zq73.C.tidy 14 s (fun s' => runC zq73.C (zq73.O N) N zq73.c15 15 s' zq73.K0)) zq73.K0)))))))
mutual
noncomputable def zq73.l2 (N : Nat) : Nat → Int → (List S41) → Int → Bool → (List S41) → Int → Int → (Int → (List S41) → Int → Option zq73.R) → (Int → (List S41) → (List Int) → Int → Option zq73.R) → Option zq73.R
  | 0, _, _, _, _, _, _, _, _, _ => none
  | n + 1, v0, v1, v2, v3, v4, v5, v6, c1, c5 => zq73.d2 N v0 v1 v2 v3 v4 v5 v6 c1 ((fun w0 w1 w2 w3 w4 w5 w6 => zq73.l2 N n w0 w1 w2 w3 w4 w5 w6 c1 c5)) c5
noncomputable def zq73.l6 (N : Nat) : Nat → Int → (List S41) → (List Int) → Int → Bool → (List S41) → Int → Int → (Int → (List S41) → Int → Option zq73.R) → (Int → (List S41) → (List Int) → Int → Option zq73.R) → Option zq73.R
  | 0, _, _, _, _, _, _, _, _, _, _ => none
  | n + 1, v0, v1, v2, v3, v4, v5, v6, v7, c1, c5 => zq73.d6 N v0 v1 v2 v3 v4 v5 v6 v7 c5 ((fun w0 w1 w2 w3 w4 w5 w6 w7 => zq73.l6 N n w0 w1 w2 w3 w4 w5 w6 w7 c1 c5))
end
theorem zq73.loop14922 (N : Nat) (Kn58 : St D0 → Option zq73.R) : ∀ n, (∀ (v0 : Int) (v1 : List S41) (v2 : Int) (v3 : Bool) (v4 : List S41) (v5 : Int) (v6 : Int), iter (loopF zq73.C (zq73.O N) N zq73.c29844 14922) n (mkSt [(0, .one (.int .i64 v0)), (1, .one (.sl false 41 v1)), (5, .one (.nl)), (6, .one (.int .i64 v2)), (7, .one (.bool v3)), (16, .one (.sl false 41 v4)), (17, .one (.int .i64 v5)), (18, .one (.int .i64 v6))] [] : St D0) (zq73.K14922 N Kn58) = zq73.l2 N n v0 v1 v2 v3 v4 v5 v6 ((fun w0 w1 w2 => Kn58 (mkSt [(0, .one (.int .i64 w0)), (1, .one (.sl false 41 w1)), (5, .one (.nl)), (6, .one (.int .i64 w2))] [] : St D0))) ((fun w0 w1 w2 w3 => Kn58 (mkSt [(0, .one (.int .i64 w0)), (1, .one (.sl false 41 w1)), (5, .one (.sl true 3 w2)), (6, .one (.int .i64 w3))] [] : St D0)))) ∧ (∀ (v0 : Int) (v1 : List S41) (v2 : List Int) (v3 : Int) (v4 : Bool) (v5 : List S41) (v6 : Int) (v7 : Int), iter (loopF zq73.C (zq73.O N) N zq73.c29844 14922) n (mkSt [(0, .one (.int .i64 v0)), (1, .one (.sl false 41 v1)), (5, .one (.sl true 3 v2)), (6, .one (.int .i64 v3)), (7, .one (.bool v4)), (16, .one (.sl false 41 v5)), (17, .one (.int .i64 v6)), (18, .one (.int .i64 v7))] [] : St D0) (zq73.K14922 N Kn58) = zq73.l6 N n v0 v1 v2 v3 v4 v5 v6 v7 ((fun w0 w1 w2 => Kn58 (mkSt [(0, .one (.int .i64 w0)), (1, .one (.sl false 41 w1)), (5, .one (.nl)), (6, .one (.int .i64 w2))] [] : St D0))) ((fun w0 w1 w2 w3 => Kn58 (mkSt [(0, .one (.int .i64 w0)), (1, .one (.sl false 41 w1)), (5, .one (.sl true 3 w2)), (6, .one (.int .i64 w3))] [] : St D0))))
  | 0 => ⟨(fun v0 v1 v2 v3 v4 v5 v6 => rfl), (fun v0 v1 v2 v3 v4 v5 v6 v7 => rfl)⟩
  | n + 1 => ⟨(fun v0 v1 v2 v3 v4 v5 v6 => (zq73.d2.run N Kn58 (fun s => iter (loopF zq73.C (zq73.O N) N zq73.c29844 14922) n s (zq73.K14922 N Kn58)) v0 v1 v2 v3 v4 v5 v6).trans (show _ = zq73.d2 N v0 v1 v2 v3 v4 v5 v6 ((fun w0 w1 w2 => Kn58 (mkSt [(0, .one (.int .i64 w0)), (1, .one (.sl false 41 w1)), (5, .one (.nl)), (6, .one (.int .i64 w2))] [] : St D0))) ((fun w0 w1 w2 w3 w4 w5 w6 => zq73.l2 N n w0 w1 w2 w3 w4 w5 w6 ((fun w0 w1 w2 => Kn58 (mkSt [(0, .one (.int .i64 w0)), (1, .one (.sl false 41 w1)), (5, .one (.nl)), (6, .one (.int .i64 w2))] [] : St D0))) ((fun w0 w1 w2 w3 => Kn58 (mkSt [(0, .one (.int .i64 w0)), (1, .one (.sl false 41 w1)), (5, .one (.sl true 3 w2)), (6, .one (.int .i64 w3))] [] : St D0))))) ((fun w0 w1 w2 w3 => Kn58 (mkSt [(0, .one (.int .i64 w0)), (1, .one (.sl false 41 w1)), (5, .one (.sl true 3 w2)), (6, .one (.int .i64 w3))] [] : St D0))) from (congr (congr (congr rfl rfl) (funext fun w0 => funext fun w1 => funext fun w2 => funext fun w3 => funext fun w4 => funext fun w5 => funext fun w6 => (zq73.loop14922 N Kn58 n).1 w0 w1 w2 w3 w4 w5 w6)) rfl))), (fun v0 v1 v2 v3 v4 v5 v6 v7 => (zq73.d6.run N Kn58 (fun s => iter (loopF zq73.C (zq73.O N) N zq73.c29844 14922) n s (zq73.K14922 N Kn58)) v0 v1 v2 v3 v4 v5 v6 v7).trans (show _ = zq73.d6 N v0 v1 v2 v3 v4 v5 v6 v7 ((fun w0 w1 w2 w3 => Kn58 (mkSt [(0, .one (.int .i64 w0)), (1, .one (.sl false 41 w1)), (5, .one (.sl true 3 w2)), (6, .one (.int .i64 w3))] [] : St D0))) ((fun w0 w1 w2 w3 w4 w5 w6 w7 => zq73.l6 N n w0 w1 w2 w3 w4 w5 w6 w7 ((fun w0 w1 w2 => Kn58 (mkSt [(0, .one (.int .i64 w0)), (1, .one (.sl false 41 w1)), (5, .one (.nl)), (6, .one (.int .i64 w2))] [] : St D0))) ((fun w0 w1 w2 w3 => Kn58 (mkSt [(0, .one (.int .i64 w0)), (1, .one (.sl false 41 w1)), (5, .one (.sl true 3 w2)), (6, .one (.int .i64 w3))] [] : St D0))))) from (congr (congr rfl rfl) (funext fun w0 => funext fun w1 => funext fun w2 => funext fun w3 => funext fun w4 => funext fun w5 => funext fun w6 => funext fun w7 => (zq73.loop14922 N Kn58 n).2 w0 w1 w2 w3 w4 w5 w6 w7))))⟩
noncomputable def zq73.K116 (N : Nat) (Kn58 : St D0 → Option zq73.R) : Ex → St D0 → Option zq73.R := ((fun up => (onN (fun s => zq73.C.tidy 58 s ((onN Kn58 up) .normal)) (onN Kn58 up))) (blockK 0 (onN (fun s => zq73.C.tidy 14 s (fun s' => runC zq73.C (zq73.O N) N zq73.c15 15 s' zq73.K0)) zq73.K0)))
noncomputable def zq73.o1 (N : Nat) (v0 : Int) (v1 : List S41) (v2 : Int) (c2 : Int → (List S41) → Int → Bool → (List S41) → Int → Int → Option zq73.R) : Option zq73.R :=
 bif (decide (v2 < (w64 (60 * v0)))) then
  c2 v0 v1 v2 true v1 (v1.length : Int) 0
 else
 some (([] : List Int))
theorem zq73.o1.run (N : Nat) (Kn58 : St D0 → Option zq73.R) (H29844 : Code) (v0 : Int) (v1 : List S41) (v2 : Int) : runC zq73.C (zq73.O N) N (.seq zq73.c232 (.seq (.block 1 (.seq zq73.c1864 (.seq (.seq zq73.c7460 (.block 2 (.loop H29844))) zq73.c3731))) zq73.c467)) 116 (mkSt [(0, .one (.int .i64 v0)), (1, .one (.sl false 41 v1)), (5, .one (.nl)), (6, .one (.int .i64 v2))] [] : St D0) ((fun up => (onN (fun s => zq73.C.tidy 58 s ((onN Kn58 up) .normal)) (onN Kn58 up))) (blockK 0 (onN (fun s => zq73.C.tidy 14 s (fun s' => runC zq73.C (zq73.O N) N zq73.c15 15 s' zq73.K0)) zq73.K0))) = zq73.o1 N v0 v1 v2 ((fun w0 w1 w2 w3 w4 w5 w6 => iter (loopF zq73.C (zq73.O N) N H29844 14922) N (mkSt [(0, .one (.int .i64 w0)), (1, .one (.sl false 41 w1)), (5, .one (.nl)), (6, .one (.int .i64 w2)), (7, .one (.bool w3)), (16, .one (.sl false 41 w4)), (17, .one (.int .i64 w5)), (18, .one (.int .i64 w6))] [] : St D0) (blockK 2 ((fun up => (onN (fun s => zq73.C.tidy 3730 s (fun s' => runC zq73.C (zq73.O N) N zq73.c3731 3731 s' up)) up)) (blockK 1 ((fun up => (onN (fun s => zq73.C.tidy 466 s (fun s' => runC zq73.C (zq73.O N) N zq73.c467 467 s' up)) up)) ((fun up => (onN (fun s => zq73.C.tidy 58 s ((onN Kn58 up) .normal)) (onN Kn58 up))) (blockK 0 (onN (fun s => zq73.C.tidy 14 s (fun s' => runC zq73.C (zq73.O N) N zq73.c15 15 s' zq73.K0)) zq73.K0))))))))) := by kernel_rfl
noncomputable def zq73.d1 (N : Nat) (v0 : Int) (v1 : List S41) (v2 : Int) (c1 : Int → (List S41) → Int → Option zq73.R) (c5 : Int → (List S41) → (List Int) → Int → Option zq73.R) : Option zq73.R := zq73.o1 N v0 v1 v2 ((fun w0 w1 w2 w3 w4 w5 w6 => zq73.l2 N N w0 w1 w2 w3 w4 w5 w6 c1 c5))
theorem zq73.c116_1 : zq73.c116 = (.seq zq73.c232 (.seq (.block 1 (.seq zq73.c1864 (.seq (.seq zq73.c7460 (.block 2 (.loop zq73.c29844))) zq73.c3731))) zq73.c467)) := by kernel_rfl
theorem zq73.d1.run (N : Nat) (Kn58 : St D0 → Option zq73.R) (v0 : Int) (v1 : List S41) (v2 : Int) : runC zq73.C (zq73.O N) N zq73.c116 116 (mkSt [(0, .one (.int .i64 v0)), (1, .one (.sl false 41 v1)), (5, .one (.nl)), (6, .one (.int .i64 v2))] [] : St D0) (zq73.K116 N Kn58) = zq73.d1 N v0 v1 v2 ((fun w0 w1 w2 => Kn58 (mkSt [(0, .one (.int .i64 w0)), (1, .one (.sl false 41 w1)), (5, .one (.nl)), (6, .one (.int .i64 w2))] [] : St D0))) ((fun w0 w1 w2 w3 => Kn58 (mkSt [(0, .one (.int .i64 w0)), (1, .one (.sl false 41 w1)), (5, .one (.sl true 3 w2)), (6, .one (.int .i64 w3))] [] : St D0))) := by
  rw [zq73.c116_1]; unfold zq73.d1; exact (zq73.o1.run N Kn58 zq73.c29844 v0 v1 v2).trans (congr rfl (funext fun w0 => funext fun w1 => funext fun w2 => funext fun w3 => funext fun w4 => funext fun w5 => funext fun w6 => (zq73.loop14922 N Kn58 N).1 w0 w1 w2 w3 w4 w5 w6))
noncomputable def zq73.o5 (N : Nat) (v0 : Int) (v1 : List S41) (v2 : List Int) (v3 : Int) (c6 : Int → (List S41) → (List Int) → Int → Bool → (List S41) → Int → Int → Option zq73.R) : Option zq73.R :=
 bif (decide (v3 < (w64 (60 * v0)))) then
  c6 v0 v1 v2 v3 true v1 (v1.length : Int) 0
 else
 some (v2)
theorem zq73.o5.run (N : Nat) (Kn58 : St D0 → Option zq73.R) (H29844 : Code) (v0 : Int) (v1 : List S41) (v2 : List Int) (v3 : Int) : runC zq73.C (zq73.O N) N (.seq zq73.c232 (.seq (.block 1 (.seq zq73.c1864 (.seq (.seq zq73.c7460 (.block 2 (.loop H29844))) zq73.c3731))) zq73.c467)) 116 (mkSt [(0, .one (.int .i64 v0)), (1, .one (.sl false 41 v1)), (5, .one (.sl true 3 v2)), (6, .one (.int .i64 v3))] [] : St D0) ((fun up => (onN (fun s => zq73.C.tidy 58 s ((onN Kn58 up) .normal)) (onN Kn58 up))) (blockK 0 (onN (fun s => zq73.C.tidy 14 s (fun s' => runC zq73.C (zq73.O N) N zq73.c15 15 s' zq73.K0)) zq73.K0))) = zq73.o5 N v0 v1 v2 v3 ((fun w0 w1 w2 w3 w4 w5 w6 w7 => iter (loopF zq73.C (zq73.O N) N H29844 14922) N (mkSt [(0, .one (.int .i64 w0)), (1, .one (.sl false 41 w1)), (5, .one (.sl true 3 w2)), (6, .one (.int .i64 w3)), (7, .one (.bool w4)), (16, .one (.sl false 41 w5)), (17, .one (.int .i64 w6)), (18, .one (.int .i64 w7))] [] : St D0) (blockK 2 ((fun up => (onN (fun s => zq73.C.tidy 3730 s (fun s' => runC zq73.C (zq73.O N) N zq73.c3731 3731 s' up)) up)) (blockK 1 ((fun up => (onN (fun s => zq73.C.tidy 466 s (fun s' => runC zq73.C (zq73.O N) N zq73.c467 467 s' up)) up)) ((fun up => (onN (fun s => zq73.C.tidy 58 s ((onN Kn58 up) .normal)) (onN Kn58 up))) (blockK 0 (onN (fun s => zq73.C.tidy 14 s (fun s' => runC zq73.C (zq73.O N) N zq73.c15 15 s' zq73.K0)) zq73.K0))))))))) := by kernel_rfl
noncomputable def zq73.d5 (N : Nat) (v0 : Int) (v1 : List S41) (v2 : List Int) (v3 : Int) (c1 : Int → (List S41) → Int → Option zq73.R) (c5 : Int → (List S41) → (List Int) → Int → Option zq73.R) : Option zq73.R := zq73.o5 N v0 v1 v2 v3 ((fun w0 w1 w2 w3 w4 w5 w6 w7 => zq73.l6 N N w0 w1 w2 w3 w4 w5 w6 w7 c1 c5))
theorem zq73.c116_5 : zq73.c116 = (.seq zq73.c232 (.seq (.block 1 (.seq zq73.c1864 (.seq (.seq zq73.c7460 (.block 2 (.loop zq73.c29844))) zq73.c3731))) zq73.c467)) := by kernel_rfl
theorem zq73.d5.run (N : Nat) (Kn58 : St D0 → Option zq73.R) (v0 : Int) (v1 : List S41) (v2 : List Int) (v3 : Int) : runC zq73.C (zq73.O N) N zq73.c116 116 (mkSt [(0, .one (.int .i64 v0)), (1, .one (.sl false 41 v1)), (5, .one (.sl true 3 v2)), (6, .one (.int .i64 v3))] [] : St D0) (zq73.K116 N Kn58) = zq73.d5 N v0 v1 v2 v3 ((fun w0 w1 w2 => Kn58 (mkSt [(0, .one (.int .i64 w0)), (1, .one (.sl false 41 w1)), (5, .one (.nl)), (6, .one (.int .i64 w2))] [] : St D0))) ((fun w0 w1 w2 w3 => Kn58 (mkSt [(0, .one (.int .i64 w0)), (1, .one (.sl false 41 w1)), (5, .one (.sl true 3 w2)), (6, .one (.int .i64 w3))] [] : St D0))) := by
  rw [zq73.c116_5]; unfold zq73.d5; exact (zq73.o5.run N Kn58 zq73.c29844 v0 v1 v2 v3).trans (congr rfl (funext fun w0 => funext fun w1 => funext fun w2 => funext fun w3 => funext fun w4 => funext fun w5 => funext fun w6 => funext fun w7 => (zq73.loop14922 N Kn58 N).2 w0 w1 w2 w3 w4 w5 w6 w7))
noncomputable def zq73.K58 (N : Nat) : Ex → St D0 → Option zq73.R := (blockK 0 (onN (fun s => zq73.C.tidy 14 s (fun s' => runC zq73.C (zq73.O N) N zq73.c15 15 s' zq73.K0)) zq73.K0))
mutual
noncomputable def zq73.l1 (N : Nat) : Nat → Int → (List S41) → Int → Option zq73.R
  | 0, _, _, _ => none
  | n + 1, v0, v1, v2 => zq73.d1 N v0 v1 v2 ((fun w0 w1 w2 => zq73.l1 N n w0 w1 w2)) ((fun w0 w1 w2 w3 => zq73.l5 N n w0 w1 w2 w3))
noncomputable def zq73.l5 (N : Nat) : Nat → Int → (List S41) → (List Int) → Int → Option zq73.R
  | 0, _, _, _, _ => none
  | n + 1, v0, v1, v2, v3 => zq73.d5 N v0 v1 v2 v3 ((fun w0 w1 w2 => zq73.l1 N n w0 w1 w2)) ((fun w0 w1 w2 w3 => zq73.l5 N n w0 w1 w2 w3))
end
theorem zq73.loop58 (N : Nat) : ∀ n, (∀ (v0 : Int) (v1 : List S41) (v2 : Int), iter (loopF zq73.C (zq73.O N) N zq73.c116 58) n (mkSt [(0, .one (.int .i64 v0)), (1, .one (.sl false 41 v1)), (5, .one (.nl)), (6, .one (.int .i64 v2))] [] : St D0) (zq73.K58 N) = zq73.l1 N n v0 v1 v2) ∧ (∀ (v0 : Int) (v1 : List S41) (v2 : List Int) (v3 : Int), iter (loopF zq73.C (zq73.O N) N zq73.c116 58) n (mkSt [(0, .one (.int .i64 v0)), (1, .one (.sl false 41 v1)), (5, .one (.sl true 3 v2)), (6, .one (.int .i64 v3))] [] : St D0) (zq73.K58 N) = zq73.l5 N n v0 v1 v2 v3)
  | 0 => ⟨(fun v0 v1 v2 => rfl), (fun v0 v1 v2 v3 => rfl)⟩
  | n + 1 => ⟨(fun v0 v1 v2 => (zq73.d1.run N (fun s => iter (loopF zq73.C (zq73.O N) N zq73.c116 58) n s (zq73.K58 N)) v0 v1 v2).trans (show _ = zq73.d1 N v0 v1 v2 ((fun w0 w1 w2 => zq73.l1 N n w0 w1 w2)) ((fun w0 w1 w2 w3 => zq73.l5 N n w0 w1 w2 w3)) from (congr (congr rfl (funext fun w0 => funext fun w1 => funext fun w2 => (zq73.loop58 N n).1 w0 w1 w2)) (funext fun w0 => funext fun w1 => funext fun w2 => funext fun w3 => (zq73.loop58 N n).2 w0 w1 w2 w3)))), (fun v0 v1 v2 v3 => (zq73.d5.run N (fun s => iter (loopF zq73.C (zq73.O N) N zq73.c116 58) n s (zq73.K58 N)) v0 v1 v2 v3).trans (show _ = zq73.d5 N v0 v1 v2 v3 ((fun w0 w1 w2 => zq73.l1 N n w0 w1 w2)) ((fun w0 w1 w2 w3 => zq73.l5 N n w0 w1 w2 w3)) from (congr (congr rfl (funext fun w0 => funext fun w1 => funext fun w2 => (zq73.loop58 N n).1 w0 w1 w2)) (funext fun w0 => funext fun w1 => funext fun w2 => funext fun w3 => (zq73.loop58 N n).2 w0 w1 w2 w3))))⟩
noncomputable def zq73.o0 (N : Nat) (a0 : Int) (a1 : List S41) (c1 : Int → (List S41) → Int → Option zq73.R) : Option zq73.R :=
 c1 a0 a1 0
theorem zq73.o0.run (N : Nat) (H116 : Code) (a0 : Int) (a1 : List S41) : runC zq73.C (zq73.O N) N (.seq zq73.c2 (.seq zq73.c6 (.seq (.seq zq73.c28 (.block 0 (.loop H116))) zq73.c15))) 1 (st0 [.one (.int .i64 a0), .one (.sl false 41 a1)] [] : St D0) zq73.K0 = zq73.o0 N a0 a1 ((fun w0 w1 w2 => iter (loopF zq73.C (zq73.O N) N H116 58) N (mkSt [(0, .one (.int .i64 w0)), (1, .one (.sl false 41 w1)), (5, .one (.nl)), (6, .one (.int .i64 w2))] [] : St D0) (blockK 0 (onN (fun s => zq73.C.tidy 14 s (fun s' => runC zq73.C (zq73.O N) N zq73.c15 15 s' zq73.K0)) zq73.K0)))) := by kernel_rfl
noncomputable def zq73.g (N : Nat) (a0 : Int) (a1 : List S41) : Option zq73.R := zq73.o0 N a0 a1 ((fun w0 w1 w2 => zq73.l1 N N w0 w1 w2))
theorem zq73.c1_0 : zq73.c1 = (.seq zq73.c2 (.seq zq73.c6 (.seq (.seq zq73.c28 (.block 0 (.loop zq73.c116))) zq73.c15))) := by kernel_rfl
theorem zq73.g.run (N : Nat) (a0 : Int) (a1 : List S41) : runC zq73.C (zq73.O N) N zq73.c1 1 (st0 [.one (.int .i64 a0), .one (.sl false 41 a1)] [] : St D0) zq73.K0 = zq73.g N a0 a1 := by
  rw [zq73.c1_0]; unfold zq73.g; exact (zq73.o0.run N zq73.c116 a0 a1).trans (congr rfl (funext fun w0 => funext fun w1 => funext fun w2 => (zq73.loop58 N N).1 w0 w1 w2))
theorem zq73.good (N : Nat) (a0 : Int) (a1 : List S41) (r : zq73.R) (h : zq73.g N a0 a1 = some r) : Go.PM.Good Go.Proofs.Tryz.prog T0 40 [.one (.int .i64 a0), .one (.sl false 41 a1)] [] (zq73.sig.ret r) (zq73.sig.bs r) :=
  good_fn tabOk0 mixed0 zq73.sig (zq73.E N) Go.Proofs.Tryz.func40 (by kernel_rfl) (by kernel_rfl) 1074733811 0 0 [(58, [0, 1, 5, 6], []), (466, [0, 1, 5, 6], []), (14922, [0, 1, 5, 6, 7, 16, 17, 18], [])] 83905536 false [] [(false, [.own 3])] (by kernel_rfl) rfl rfl ((zq73.g.run N a0 a1).trans h)
noncomputable def zq73.ent (N : Nat) : Ent Go.Proofs.Tryz.prog T0 := mkEnt 40 [(false, [.any]), (false, [.ro 41])] zq73.sig (fun t => zq73.g N t.1 t.2) (fun t r h => zq73.good N t.1 t.2 r h)
end Go.Proofs.YtpeleommbipeaaaGreatDoor.M

namespace Go.Proofs.YtpeleommbipeaaaGreatDoor.M
open Go Go.PM Go.Proofs.YtpeleommbipeaaaGreatDoor.P
set_option linter.unusedVariables false
set_option maxRecDepth 100000
/-! ### zq80 -/
abbrev zq80.R : Type := Bool
abbrev zq80.sig : Sig := ⟨[(false, 1), (false, 1)], [], [.int .i64, .sl false 41], [(false, 1)], [], [.bool]⟩
noncomputable def zq80.C : Cfg D0 := ⟨Go.Proofs.Tryz.prog, T0, 19, 0, 10, 0, [], 96, false, []⟩
noncomputable def zq80.E (N : Nat) : List (Ent Go.Proofs.Tryz.prog T0) := [zq73.ent N]
noncomputable def zq80.O (N : Nat) : Orc D0 zq80.R := orcOf (zq80.E N)
noncomputable def zq80.K0 : Ex → St D0 → Option zq80.R := exitK zq80.C Go.Proofs.Tryz.f43.results.toList [(false, [.any])] (decOut zq80.sig)
noncomputable def zq80.c1 : Code := codeAt (Go.Proofs.Tryz.f43.body.getD .skip) []
noncomputable def zq80.o0 (N : Nat) (a0 : Int) (a1 : List S41) : Option zq80.R :=
 (zq73.g N a0 a1).bind fun r1 =>
 some (((r1.length : Int) == 1))
theorem zq80.o0.run (N : Nat) (a0 : Int) (a1 : List S41) : runC zq80.C (zq80.O N) N zq80.c1 1 (st0 [.one (.int .i64 a0), .one (.sl false 41 a1)] [] : St D0) zq80.K0 = zq80.o0 N a0 a1 := by kernel_rfl
noncomputable def zq80.g (N : Nat) (a0 : Int) (a1 : List S41) : Option zq80.R := zq80.o0 N a0 a1
theorem zq80.g.run (N : Nat) (a0 : Int) (a1 : List S41) : runC zq80.C (zq80.O N) N zq80.c1 1 (st0 [.one (.int .i64 a0), .one (.sl false 41 a1)] [] : St D0) zq80.K0 = zq80.g N a0 a1 := by
  exact (zq80.o0.run N a0 a1).trans rfl
theorem zq80.good (N : Nat) (a0 : Int) (a1 : List S41) (r : zq80.R) (h : zq80.g N a0 a1 = some r) : Go.PM.Good Go.Proofs.Tryz.prog T0 43 [.one (.int .i64 a0), .one (.sl false 41 a1)] [] (zq80.sig.ret r) (zq80.sig.bs r) :=
  good_fn tabOk0 mixed0 zq80.sig (zq80.E N) Go.Proofs.Tryz.func43 (by kernel_rfl) (by kernel_rfl) 19 0 0 [] 96 false [] [(false, [.any])] (by kernel_rfl) rfl rfl ((zq80.g.run N a0 a1).trans h)
noncomputable def zq80.ent (N : Nat) : Ent Go.Proofs.Tryz.prog T0 := mkEnt 43 [(false, [.any]), (false, [.ro 41])] zq80.sig (fun t => zq80.g N t.1 t.2) (fun t r h => zq80.good N t.1 t.2 r h)
end Go.Proofs.YtpeleommbipeaaaGreatDoor.M

namespace Go.Proofs.YtpeleommbipeaaaGreatDoor.M
open Go Go.PM Go.Proofs.YtpeleommbipeaaaGreatDoor.P
set_option linter.unusedVariables false
set_option maxRecDepth 100000
/-! ### zq1 -/
abbrev zq1.R : Type := Int × Bool
abbrev zq1.sig : Sig := ⟨[(true, 2)], [], [.int .i64, .sl false 41], [(false, 1), (false, 1)], [], [.int .i64, .bool]⟩
noncomputable def zq1.C : Cfg D0 := ⟨Go.Proofs.Tryz.prog, T0, 63, 0, 14, 0, [], 2048, false, []⟩
noncomputable def zq1.E (N : Nat) : List (Ent Go.Proofs.Tryz.prog T0) := [zq17.ent N]
noncomputable def zq1.O (N : Nat) : Orc D0 zq1.R := orcOf (zq1.E N)
noncomputable def zq1.K0 : Ex → St D0 → Option zq1.R := exitK zq1.C Go.Proofs.Tryz.f7.results.toList [(false, [.any]), (false, [.any])] (decOut zq1.sig)
noncomputable def zq1.c1 : Code := codeAt (Go.Proofs.Tryz.f7.body.getD .skip) []
noncomputable def zq1.o0 (N : Nat) (a0_0 : Int) (a0_1 : List S41) : Option zq1.R :=
 (zq17.g N a0_0 a0_1).bind fun r1 =>
 some ((r1.1.length : Int), r1.2)
theorem zq1.o0.run (N : Nat) (a0_0 : Int) (a0_1 : List S41) : runC zq1.C (zq1.O N) N zq1.c1 1 (st0 [.agg [.int .i64 a0_0, .sl false 41 a0_1]] [] : St D0) zq1.K0 = zq1.o0 N a0_0 a0_1 := by kernel_rfl
noncomputable def zq1.g (N : Nat) (a0_0 : Int) (a0_1 : List S41) : Option zq1.R := zq1.o0 N a0_0 a0_1
theorem zq1.g.run (N : Nat) (a0_0 : Int) (a0_1 : List S41) : runC zq1.C (zq1.O N) N zq1.c1 1 (st0 [.agg [.int .i64 a0_0, .sl false 41 a0_1]] [] : St D0) zq1.K0 = zq1.g N a0_0 a0_1 := by
  exact (zq1.o0.run N a0_0 a0_1).trans rfl
theorem zq1.good (N : Nat) (a0_0 : Int) (a0_1 : List S41) (r : zq1.R) (h : zq1.g N a0_0 a0_1 = some r) : Go.PM.Good Go.Proofs.Tryz.prog T0 7 [.agg [.int .i64 a0_0, .sl false 41 a0_1]] [] (zq1.sig.ret r) (zq1.sig.bs r) :=
  good_fn tabOk0 mixed0 zq1.sig (zq1.E N) Go.Proofs.Tryz.func7 (by kernel_rfl) (by kernel_rfl) 63 0 0 [] 2048 false [] [(false, [.any]), (false, [.any])] (by kernel_rfl) rfl rfl ((zq1.g.run N a0_0 a0_1).trans h)
noncomputable def zq1.ent (N : Nat) : Ent Go.Proofs.Tryz.prog T0 := mkEnt 7 [(true, [.any, .ro 41])] zq1.sig (fun t => zq1.g N t.1 t.2) (fun t r h => zq1.good N t.1 t.2 r h)
end Go.Proofs.YtpeleommbipeaaaGreatDoor.M

namespace Go.Proofs.YtpeleommbipeaaaGreatDoor.M
open Go Go.PM Go.Proofs.YtpeleommbipeaaaGreatDoor.P
set_option linter.unusedVariables false
set_option maxRecDepth 100000
/-! ### zq9 -/
abbrev zq9.R : Type := Bool × Bool
abbrev zq9.sig : Sig := ⟨[(true, 2)], [], [.int .i64, .sl false 41], [(false, 1), (false, 1)], [], [.bool, .bool]⟩
noncomputable def zq9.C : Cfg D0 := ⟨Go.Proofs.Tryz.prog, T0, 63, 0, 14, 0, [], 2048, false, []⟩
noncomputable def zq9.E (N : Nat) : List (Ent Go.Proofs.Tryz.prog T0) := [zq1.ent N]
noncomputable def zq9.O (N : Nat) : Orc D0 zq9.R := orcOf (zq9.E N)
noncomputable def zq9.K0 : Ex → St D0 → Option zq9.R := exitK zq9.C Go.Proofs.Tryz.f13.results.toList [(false, [.any]), (false, [.any])] (decOut zq9.sig)
noncomputable def zq9.c1 : Code := codeAt (Go.Proofs.Tryz.f13.body.getD .skip) []
noncomputable def zq9.o0 (N : Nat) (a0_0 : Int) (a0_1 : List S41) : Option zq9.R :=
 (zq1.g N a0_0 a0_1).bind fun r1 =>
 some ((r1.1 == 1), r1.2)
theorem zq9.o0.run (N : Nat) (a0_0 : Int) (a0_1 : List S41) : runC zq9.C (zq9.O N) N zq9.c1 1 (st0 [.agg [.int .i64 a0_0, .sl false 41 a0_1]] [] : St D0) zq9.K0 = zq9.o0 N a0_0 a0_1 := by kernel_rfl
noncomputable def zq9.g (N : Nat) (a0_0 : Int) (a0_1 : List S41) : Option zq9.R := zq9.o0 N a0_0 a0_1
theorem zq9.g.run (N : Nat) (a0_0 : Int) (a0_1 : List S41) : runC zq9.C (zq9.O N) N zq9.c1 1 (st0 [.agg [.int .i64 a0_0, .sl false 41 a0_1]] [] : St D0) zq9.K0 = zq9.g N a0_0 a0_1 := by
  exact (zq9.o0.run N a0_0 a0_1).trans rfl
theorem zq9.good (N : Nat) (a0_0 : Int) (a0_1 : List S41) (r : zq9.R) (h : zq9.g N a0_0 a0_1 = some r) : Go.PM.Good Go.Proofs.Tryz.prog T0 13 [.agg [.int .i64 a0_0, .sl false 41 a0_1]] [] (zq9.sig.ret r) (zq9.sig.bs r) :=
  good_fn tabOk0 mixed0 zq9.sig (zq9.E N) Go.Proofs.Tryz.func13 (by kernel_rfl) (by kernel_rfl) 63 0 0 [] 2048 false [] [(false, [.any]), (false, [.any])] (by kernel_rfl) rfl rfl ((zq9.g.run N a0_0 a0_1).trans h)
noncomputable def zq9.ent (N : Nat) : Ent Go.Proofs.Tryz.prog T0 := mkEnt 13 [(true, [.any, .ro 41])] zq9.sig (fun t => zq9.g N t.1 t.2) (fun t r h => zq9.good N t.1 t.2 r h)
end Go.Proofs.YtpeleommbipeaaaGreatDoor.M

namespace Go.Proofs.YtpeleommbipeaaaGreatDoor.M
open Go Go.PM Go.Proofs.YtpeleommbipeaaaGreatDoor.P
set_option linter.unusedVariables false
set_option maxRecDepth 100000
open Go.RowKit Go.Lib
/-! ### zq38 -/
abbrev zq38.R : Type := List S41
abbrev zq38.sig : Sig := ⟨[(false, 1)], [], [.sl false 41], [(false, 1)], [], [.sl true 41]⟩
set_option maxHeartbeats 2000000 in
set_option maxRecDepth 100000 in
theorem zq38.walk (ad : Addr) (n c : Nat) (news : List Value) (w : World) (hl : news.length = n * 3) (hn : n ≤ maxLen) (hbig : n * 24 ≤ 140737488355328) (hc : ∀ j u, news[j]? = some u → w.cell? (ad.add j) = some u) (h1 : ∀ u ∈ news, u.oneCell' = true) :
    Calls Go.Proofs.Tryz.prog 74 #[.slice (some ad) n c] w fun e w' => ∃ v', e = .returned v' ∧ w'.ownsRow w.heap.size 41 3 v' n news ∧ Go.RowKit.Below w.heap.size w w' := by
  have q22 : ∀ (w : World) (a : Option Addr) (n c n' c' : Nat), (binOp .eql 22 (.slice a n c) (.slice none n' c')).run Go.Proofs.Tryz.prog w = .ok (.bool a.isNone) w := fun w a n c n' c' => Lib.run_eql_slice_nil w _ _ a n c n' c' Go.Proofs.Tryz.underlying22
  have u22 : ∀ w, Sem.run Go.Proofs.Tryz.prog (underlying 22) w = .ok (TypeDesc.slice 41) w := run_underlying Go.Proofs.Tryz.underlying22
  have A : Aside (∀ j u, news[j]? = some u → w.cell? (ad.add j) = some u) := hc
  clear hc
  have HI : (Go.Proofs.Tryz.prog.info? 41).map (fun i => (i.zero, i.size, i.bytes)) = some (some (.agg #[(.int .i64 0), (.int .i64 0), (.int .i64 0)]), 3, 24) := by kernel_rfl
  obtain ⟨i0, hi, hz0, hz1, hz2⟩ := info_parts HI
  go_enter Go.Proofs.Tryz.func74, Go.Proofs.Tryz.ntmps74
  go_wp2_with (at_builtin; refine wpList_append_own _ rfl _ _ 22 rfl w.heap.size 41 i0 _ 3 24 Go.Proofs.Tryz.underlying22 hi hz0 hz1 hz2 rfl (by decide) _ _ _ rfl (World.ownsRow_made w #[] 0 (Nat.le_refl _) (Nat.zero_le _) (by simp)) ad n c news rfl ?qc1 ?qc2 ?qc3 ?qc4 ?qc5 ?qc6 ?_)
  case qc1 => exact hl
  case qc2 =>
    intro j u hj
    exact Lib.cell?_alloc_some _ (A.out j u hj)
  case qc3 => exact h1
  case qc4 => rw [Nat.zero_add]; exact hn
  case qc5 => rw [Nat.zero_add]; exact hbig
  case qc6 => simp
  intro v' w1 hown hgrow hnil
  go_wp2
  go_ret
  exact ⟨v', rfl, by simpa using hown, ((Below.refl _ w).alloc (Nat.le_refl _) _).grown hgrow (by simp) (by intro k hk; simp [Value.ownBlock] at hk; omega)⟩
set_option maxHeartbeats 1000000 in
theorem zq38.walk0 (n c : Nat) (w : World) : Calls Go.Proofs.Tryz.prog 74 #[.slice none n c] w fun e w' => e = .returned (.slice none 0 0) ∧ w' = w := by
  have q22 : ∀ (w : World) (a : Option Addr) (n c n' c' : Nat), (binOp .eql 22 (.slice a n c) (.slice none n' c')).run Go.Proofs.Tryz.prog w = .ok (.bool a.isNone) w := fun w a n c n' c' => Lib.run_eql_slice_nil w _ _ a n c n' c' Go.Proofs.Tryz.underlying22
  go_enter Go.Proofs.Tryz.func74, Go.Proofs.Tryz.ntmps74
  go_wp2
  go_ret
  exact ⟨rfl, rfl⟩

noncomputable def zq38.g (N : Nat) (a0 : List S41) : Option zq38.R := bif Nat.ble (a0.length * 24) 140737488355328 then some a0 else none
theorem zq38.good (N : Nat) (a0 : List S41) (r : zq38.R) (h : zq38.g N a0 = some r) : Go.PM.Good Go.Proofs.Tryz.prog T0 74 [.one (.sl false 41 a0)] [] (zq38.sig.ret r) (zq38.sig.bs r) := by
  unfold zq38.g at h
  obtain ⟨h1, h2⟩ := bif_some h
  cases Option.some.inj h2
  exact good_clone tabOk0 41 24 ⟨_, Go.Proofs.Tryz.func74, by kernel_rfl, rfl⟩ (by show 0 < 3; omega) (by omega) (fun ad n c news w h1 h2 h3 h4 h5 => zq38.walk ad n c news w h1 h2 h3 h4 h5) zq38.walk0 a0 (Nat.le_of_ble_eq_true h1)
noncomputable def zq38.ent (N : Nat) : Ent Go.Proofs.Tryz.prog T0 := mkEnt 74 [(false, [.ro 41])] zq38.sig (fun t => zq38.g N t) (fun t r h => zq38.good N t r h)
end Go.Proofs.YtpeleommbipeaaaGreatDoor.M

namespace Go.Proofs.YtpeleommbipeaaaGreatDoor.M
open Go Go.PM Go.Proofs.YtpeleommbipeaaaGreatDoor.P
set_option linter.unusedVariables false
set_option maxRecDepth 100000
open Go.RowKit Go.Lib
/-! ### zq32 -/
abbrev zq32.R : Type := List S41
abbrev zq32.sig : Sig := ⟨[(false, 1), (false, 1)], [], [.sl false 41, .int .i64], [(false, 1)], [], [.sl true 41]⟩
set_option maxHeartbeats 4000000 in
set_option maxRecDepth 100000 in
theorem zq32.del.walk (base g m c : Nat) (L : List Value) (i : Nat) (w : World) (H : w.ownsRow base 41 3 (.slice (some ⟨g, 0, none⟩) (m + 1) c) (m + 1) L) (hL : ∀ u ∈ L, u.oneCell' = true) (hi : i < m + 1) :
    Calls Go.Proofs.Tryz.prog 73 #[.slice (some ⟨g, 0, none⟩) (m + 1) c, .int .i64 i, .int .i64 ((i : Int) + 1)] w fun e w' =>
      e = .returned (.slice (some ⟨g, 0, none⟩) m c) ∧ w'.ownsRow base 41 3 (.slice (some ⟨g, 0, none⟩) m c) m (L.take (i * 3) ++ L.drop ((i + 1) * 3)) ∧ Below base w w' := by
  obtain ⟨hl, hown⟩ := H
  rcases hown with ⟨h, _⟩ | ⟨g', cap, cur, hv, hbg, hg, h3, h4, h5, h6⟩
  · cases h
  obtain ⟨rfl, rfl⟩ : g' = g ∧ cap = c := by simp at hv; exact ⟨hv.1.symm, hv.2.symm⟩
  clear hv
  have hcm : cap ≤ 9223372036854775807 := h4
  have HI : (Go.Proofs.Tryz.prog.info? 41).map (fun i => (i.zero, i.size, i.bytes)) = some (some (.agg #[(.int .i64 0), (.int .i64 0), (.int .i64 0)]), 3, 24) := by kernel_rfl
  obtain ⟨i0, hi0, hz0, hz1, hz2⟩ := info_parts HI
  have hu := Go.Proofs.Tryz.underlying22
  have hel : Go.Proofs.Tryz.prog.elem 22 = 41 := by simp [Program.elem, hu]
  have hii : ((i : Int) + 1).toNat = i + 1 := by omega
  have hto := cut1 (P := Go.Proofs.Tryz.prog) 22 41 .i64 hu hi0 (some ⟨g', 0, none⟩) (m + 1) cap i (by omega) (by omega) h3
  have hfrom := cut2 (P := Go.Proofs.Tryz.prog) 22 41 .i64 hu hi0 3 hz1 (some ⟨g', 0, none⟩) (m + 1) cap ((i : Int) + 1) (by omega) (by omega)
  simp only [Int.toNat_natCast] at hto
  simp only [hii] at hfrom
  have hne : ((i : Int) == (i : Int) + 1) = false := beq_eq_false_iff_ne.mpr (by omega)
  have hlen : (L.drop ((i + 1) * 3)).length = (m - i) * 3 := by rw [List.length_drop, hl]; omega
  have hcell : ∀ j u, L[j]? = some u → w.cell? ⟨g', j, none⟩ = some u := by
    intro j u hj
    rw [blkc hg, ← hj, ← h6, List.getElem?_take]
    have : j < L.length := (List.getElem?_eq_some_iff.1 hj).1
    rw [if_pos (by omega)]
    simp
  obtain ⟨A, hA, hsrc⟩ : ∃ A : Addr, (if cap = i + 1 then some (⟨g', 0, none⟩ : Addr) else Option.map (fun x => x.add ((i + 1) * 3)) (some (⟨g', 0, none⟩ : Addr))) = some A ∧ Aside (∀ t u, (L.drop ((i + 1) * 3))[t]? = some u → w.drew.cell? (A.add t) = some u) := by
    by_cases h : cap = i + 1
    · refine ⟨⟨g', 0, none⟩, by simp [h], fun t u hu => ?_⟩
      have h0 : (L.drop ((i + 1) * 3)).length = 0 := by rw [hlen]; omega
      rw [List.length_eq_zero_iff.1 h0] at hu
      simp at hu
    · refine ⟨⟨g', (i + 1) * 3, none⟩, by simp [h, Addr.add_lit], fun t u hu => ?_⟩
      rw [List.getElem?_drop] at hu
      rw [Addr.add_lit]
      exact hcell _ _ hu
  rw [hA] at hfrom
  have s1 : Aside ((L.drop ((i + 1) * 3)).length = (m - i) * 3) := hlen
  have s2 : Aside (∀ u ∈ L.drop ((i + 1) * 3), u.oneCell' = true) := fun u hu => hL u (List.mem_of_mem_drop hu)
  have s3 : Aside (∀ t, t < (L.drop ((i + 1) * 3)).length → (w.drew.cell? ⟨g', 0 + i * 3 + t, none⟩).isSome = true ∧ w.drew.frozen? ⟨g', 0 + i * 3 + t, none⟩ = false) := by
    intro t ht
    rw [hlen] at ht
    refine ⟨?_, ?_⟩
    · show (w.cell? ⟨g', 0 + i * 3 + t, none⟩).isSome = true
      rw [blkc hg, Array.getElem?_eq_getElem (by omega)]; rfl
    · show w.frozen? ⟨g', 0 + i * 3 + t, none⟩ = false
      exact blkf hg _
  obtain ⟨news, hnews⟩ : ∃ news, news = L.drop ((i + 1) * 3) := ⟨_, rfl⟩
  rw [← hnews] at s1 s2 s3 hsrc hlen
  obtain ⟨W1, hW1⟩ : ∃ W1, W1 = w.drew.setCells g' (0 + i * 3) news := ⟨_, rfl⟩
  obtain ⟨cur1, k1, k2, k3⟩ := setCells_list news (0 + i * 3) w.drew cur hg (by omega)
  rw [← hW1] at k1
  have hcl : ∀ ty, (Builtin.clear_ #[22] ty #[.slice (some ⟨g', m * 3, none⟩) 1 (cap - m)]).run Go.Proofs.Tryz.prog W1 = .ok (.tuple #[]) (W1.setCells g' (m * 3) [.int .i64 0, .int .i64 0, .int .i64 0]) := fun ty =>
    clear1 W1 22 41 ty (.agg #[(.int .i64 0), (.int .i64 0), (.int .i64 0)]) hu (fun W => by simp [zeroValue, typeInfo, hi0, hz0, Result.andThen]) (by simp [Value.cells, Value.oneCell']) g' (m * 3) _
      (fun j hj => by rw [blkc k1]; simp [Value.cells] at hj; rw [Array.getElem?_eq_getElem (by omega)]; rfl) (fun j _ => blkf k1 _)
  have hW : Aside (W1 = w.drew.setCells g' (0 + i * 3) news) := hW1
  have hB1 : Aside (Below base w W1) := by
    subst hW1
    exact belowc hbg news _ _ (Below.refl base w).drew
  obtain ⟨cur2, q1, q2, q3⟩ := setCells_list [.int .i64 0, .int .i64 0, .int .i64 0] (m * 3) W1 cur1 k1 (by simp; omega)
  have hfin : Aside ((W1.setCells g' (m * 3) [.int .i64 0, .int .i64 0, .int .i64 0]).ownsRow base 41 3 (.slice (some ⟨g', 0, none⟩) m cap) m (L.take (i * 3) ++ L.drop ((i + 1) * 3))) := by
    refine ⟨by rw [← hnews, List.length_append, List.length_take, hlen, hl]; omega, .inr ⟨g', cap, cur2, rfl, hbg, q1, by omega, h4, by rw [q2, k2, h5], ?_⟩⟩
    rw [q3, List.append_assoc, List.take_append_of_le_length (by simp; omega), List.take_take, Nat.min_self, k3, ← hnews]
    rw [List.append_assoc, Nat.zero_add]
    have e1 : cur.toList.take (i * 3) = L.take (i * 3) := by rw [← h6, List.take_take, Nat.min_eq_left (by omega)]
    rw [e1, ← List.append_assoc]
    rw [List.take_append_of_le_length (by rw [List.length_append, List.length_take, hlen, hl]; omega)]
    exact List.take_of_length_le (by rw [List.length_append, List.length_take, hlen, hl]; omega)
  have hB2 : Aside (Below base w (W1.setCells g' (m * 3) [.int .i64 0, .int .i64 0, .int .i64 0])) := belowc hbg _ _ _ hB1.out
  have hic : i ≤ cap := by omega
  have hms : m + 1 - (i + 1) = m - i := by omega
  rw [hms] at hfrom
  have hmi : i + (m - i) = m := by omega
  have mixed : Go.Proofs.Tryz.prog.follows .mixedOrders = true := mixed0
  clear hW1 hnews hlen hcell hl h6 hL hg k1 k2 k3 q1 q2 q3 hA h5 hel
  go_enter Go.Proofs.Tryz.func73, Go.Proofs.Tryz.ntmps73
  go_wp2_with fail
  go_region_law_o (refine step_append_room rfl (.tmp 22) (.tmp 25) 22 rfl 41 i0 3 hu hi0 hz1 g' 0 i cap (by simp [Act.eval, Act.put]) A (m - i) (cap - (i + 1)) news (by simp [Act.eval, Act.put]) s1.out hsrc.out s2.out (by omega) s3.out ?_; rw [← hW.out, hmi])
  go_wp2
  all_goals go_ret
  all_goals exact ⟨rfl, hfin.out, hB2.out⟩

set_option maxHeartbeats 4000000 in
set_option maxRecDepth 100000 in
theorem zq32.walk (ad : Addr) (m c : Nat) (L : List Value) (w : World) (i : Nat) (hi : i < m + 1) (hl : L.length = (m + 1) * 3) (hbig : (m + 1) * 24 ≤ 140737488355328) (hc : ∀ j u, L[j]? = some u → w.cell? (ad.add j) = some u) (h1 : ∀ u ∈ L, u.oneCell' = true) :
    Calls Go.Proofs.Tryz.prog 44 #[.slice (some ad) (m + 1) c, .int .i64 i] w fun e w' => ∃ v', e = .returned v' ∧ w'.ownsRow w.heap.size 41 3 v' m (L.take (i * 3) ++ L.drop ((i + 1) * 3)) ∧ Below w.heap.size w w' := by
  have hn : m + 1 ≤ maxLen := by unfold maxLen; omega
  have hi2 : (i : Int) + 1 ≤ 9223372036854775807 := by omega
  have HC : Aside (∀ j u, L[j]? = some u → w.cell? (ad.add j) = some u) := hc
  have H1 : Aside (∀ u ∈ L, u.oneCell' = true) := h1
  have HI : Aside (i < m + 1) := hi
  clear hc h1
  go_enter Go.Proofs.Tryz.func44, Go.Proofs.Tryz.ntmps44
  go_wp2_with (first | (go_at_call 74; refine (zq38.walk ad (m + 1) c L _ hl hn hbig HC.out H1.out).mono ?_; rintro e w1 ⟨v0, rfl, hR, hB⟩; obtain ⟨g, cp, rfl⟩ : ∃ g cp, v0 = .slice (some ⟨g, 0, none⟩) (m + 1) cp := (own_form hR); have HR : Aside (w1.ownsRow w.heap.size 41 3 (.slice (some ⟨g, 0, none⟩) (m + 1) cp) (m + 1) L) := hR; have HB : Aside (Below w.heap.size w w1) := hB; clear hR hB) | (go_at_call 73; refine (zq32.del.walk w.heap.size g m cp L i _ HR.out H1.out HI.out).mono ?_; rintro e w2 ⟨rfl, hR2, hB2⟩))
  go_ret
  exact ⟨_, rfl, hR2, HB.out.trans hB2⟩

theorem zq32.good0 (N : Nat) (a0 : List S41) (i : Nat) (hi : i < a0.length) (hb : Nat.ble (a0.length * 24) 140737488355328 = true) : Go.PM.Good Go.Proofs.Tryz.prog T0 44 [.one (.sl false 41 a0), .one (.int .i64 i)] [] (.one (.sl true 41 (a0.eraseIdx i))) [] := by
  have hlen : (a0.eraseIdx i).length = a0.length - 1 := by rw [List.length_eraseIdx, if_pos hi]
  refine Go.PM.good_row tabOk0 41 ⟨_, Go.Proofs.Tryz.func44, by kernel_rfl, rfl⟩ (by show 0 < 3; omega) [(i : Int)] a0 (a0.eraseIdx i) (fun L => L.take (i * 3) ++ L.drop ((i + 1) * 3)) (fun C L h => RowOf.erase (T := T0) (HT := tabOk0) h i hi) ?_
  intro A c L w hl hc hA hcell h1
  obtain ⟨m, hm⟩ : ∃ m, a0.length = m + 1 := ⟨a0.length - 1, by omega⟩
  cases A with
  | none => rw [hA rfl] at hi; simp at hi
  | some ad =>
    rw [hlen, hm]
    rw [hm] at hl hb hi
    exact zq32.walk ad m c L w i hi hl (Nat.le_of_ble_eq_true hb) (hcell ad rfl) h1
noncomputable def zq32.g (N : Nat) (a0 : List S41) (a1 : Int) : Option zq32.R := bif decide (0 ≤ a1) then bif decide (a1 < (a0.length : Int)) then bif Nat.ble (a0.length * 24) 140737488355328 then some (a0.eraseIdx a1.toNat) else none else none else none
theorem zq32.good (N : Nat) (a0 : List S41) (a1 : Int) (r : zq32.R) (h : zq32.g N a0 a1 = some r) : Go.PM.Good Go.Proofs.Tryz.prog T0 44 [.one (.sl false 41 a0), .one (.int .i64 a1)] [] (zq32.sig.ret r) (zq32.sig.bs r) := by
  unfold zq32.g at h
  obtain ⟨h1, h⟩ := bif_some h
  obtain ⟨h2, h⟩ := bif_some h
  obtain ⟨h3, h⟩ := bif_some h
  cases Option.some.inj h
  have h1 := of_decide_eq_true h1
  have h2 := of_decide_eq_true h2
  have := zq32.good0 N a0 a1.toNat (by omega) h3
  rw [Int.toNat_of_nonneg h1] at this
  exact this
noncomputable def zq32.ent (N : Nat) : Ent Go.Proofs.Tryz.prog T0 := mkEnt 44 [(false, [.ro 41]), (false, [.any])] zq32.sig (fun t => zq32.g N t.1 t.2) (fun t r h => zq32.good N t.1 t.2 r h)
end Go.Proofs.YtpeleommbipeaaaGreatDoor.M

namespace Go.Proofs.YtpeleommbipeaaaGreatDoor.M
open Go Go.PM Go.Proofs.YtpeleommbipeaaaGreatDoor.P
set_option linter.unusedVariables false
set_option maxRecDepth 100000
/-! ### zq82 -/
abbrev zq82.R : Type := List S41
abbrev zq82.sig : Sig := ⟨[(false, 1), (false, 1)], [], [.sl false 41, .int .i64], [(false, 1)], [], [.sl true 41]⟩
noncomputable def zq82.C : Cfg D0 := ⟨Go.Proofs.Tryz.prog, T0, 19, 0, 15, 0, [], 3264, false, []⟩
noncomputable def zq82.E (N : Nat) : List (Ent Go.Proofs.Tryz.prog T0) := []
noncomputable def zq82.O (N : Nat) : Orc D0 zq82.R := orcOf (zq82.E N)
noncomputable def zq82.K0 : Ex → St D0 → Option zq82.R := exitK zq82.C Go.Proofs.Tryz.f46.results.toList [(false, [.own 41])] (decOut zq82.sig)
noncomputable def zq82.c1 : Code := codeAt (Go.Proofs.Tryz.f46.body.getD .skip) []
noncomputable def zq82.o0 (N : Nat) (a0 : List S41) (a1 : Int) : Option zq82.R :=
 bif (decide (0 ≤ a1)) then
  bif (decide (a1 ≤ (a0.length : Int))) then
   bif (decide (0 ≤ a1)) then
    bif (Nat.blt (([] : List S41).length + ((a0.take (a1 : Int).toNat).drop (0 : Int).toNat).length) 5864062014805) then
     bif (decide (0 ≤ (a0.length : Int))) then
      bif (decide ((a0.length : Int) ≤ (a0.length : Int))) then
       bif (decide (0 ≤ (w64 (a1 + 1)))) then
        bif (decide ((w64 (a1 + 1)) ≤ (a0.length : Int))) then
         bif (Nat.blt ((([] : List S41) ++ ((a0.take (a1 : Int).toNat).drop (0 : Int).toNat)).length + ((a0.take ((a0.length : Int) : Int).toNat).drop ((w64 (a1 + 1)) : Int).toNat).length) 5864062014805) then
          some (((([] : List S41) ++ ((a0.take (a1 : Int).toNat).drop (0 : Int).toNat)) ++ ((a0.take ((a0.length : Int) : Int).toNat).drop ((w64 (a1 + 1)) : Int).toNat)))
         else
         none
        else
        none
       else
       none
      else
      none
     else
     none
    else
    none
   else
   none
  else
  none
 else
 none
theorem zq82.o0.run (N : Nat) (a0 : List S41) (a1 : Int) : runC zq82.C (zq82.O N) N zq82.c1 1 (st0 [.one (.sl false 41 a0), .one (.int .i64 a1)] [] : St D0) zq82.K0 = zq82.o0 N a0 a1 := by kernel_rfl
noncomputable def zq82.g (N : Nat) (a0 : List S41) (a1 : Int) : Option zq82.R := zq82.o0 N a0 a1
theorem zq82.g.run (N : Nat) (a0 : List S41) (a1 : Int) : runC zq82.C (zq82.O N) N zq82.c1 1 (st0 [.one (.sl false 41 a0), .one (.int .i64 a1)] [] : St D0) zq82.K0 = zq82.g N a0 a1 := by
  exact (zq82.o0.run N a0 a1).trans rfl
theorem zq82.good (N : Nat) (a0 : List S41) (a1 : Int) (r : zq82.R) (h : zq82.g N a0 a1 = some r) : Go.PM.Good Go.Proofs.Tryz.prog T0 46 [.one (.sl false 41 a0), .one (.int .i64 a1)] [] (zq82.sig.ret r) (zq82.sig.bs r) :=
  good_fn tabOk0 mixed0 zq82.sig (zq82.E N) Go.Proofs.Tryz.func46 (by kernel_rfl) (by kernel_rfl) 19 0 0 [] 3264 false [] [(false, [.own 41])] (by kernel_rfl) rfl rfl ((zq82.g.run N a0 a1).trans h)
noncomputable def zq82.ent (N : Nat) : Ent Go.Proofs.Tryz.prog T0 := mkEnt 46 [(false, [.ro 41]), (false, [.any])] zq82.sig (fun t => zq82.g N t.1 t.2) (fun t r h => zq82.good N t.1 t.2 r h)
end Go.Proofs.YtpeleommbipeaaaGreatDoor.M

namespace Go.Proofs.YtpeleommbipeaaaGreatDoor.M
open Go Go.PM Go.Proofs.YtpeleommbipeaaaGreatDoor.P
set_option linter.unusedVariables false
set_option maxRecDepth 100000
/-! ### zq13 -/
abbrev zq13.R : Type := List Int × Bool
abbrev zq13.sig : Sig := ⟨[(true, 2)], [], [.int .i64, .sl false 41], [(false, 1), (false, 1)], [], [.sl true 3, .bool]⟩
noncomputable def zq13.C : Cfg D0 := ⟨Go.Proofs.Tryz.prog, T0, 2149335295, 0, 38, 0, [(250, [1, 4, 6, 18, 19], [1])], 1140858880, false, []⟩
noncomputable def zq13.E (N : Nat) : List (Ent Go.Proofs.Tryz.prog T0) := [zq1.ent N, zq32.ent N, zq27.ent N]
noncomputable def zq13.O (N : Nat) : Orc D0 zq13.R := orcOf (zq13.E N)
noncomputable def zq13.K0 : Ex → St D0 → Option zq13.R := exitK zq13.C Go.Proofs.Tryz.f15.results.toList [(false, [.own 3]), (false, [.any])] (decOut zq13.sig)
noncomputable def zq13.c1 : Code := codeAt (Go.Proofs.Tryz.f15.body.getD .skip) []
noncomputable def zq13.c2 : Code := codeAt (Go.Proofs.Tryz.f15.body.getD .skip) [false]
noncomputable def zq13.c6 : Code := codeAt (Go.Proofs.Tryz.f15.body.getD .skip) [true, false]
noncomputable def zq13.c14 : Code := codeAt (Go.Proofs.Tryz.f15.body.getD .skip) [true, true, false]
noncomputable def zq13.c30 : Code := codeAt (Go.Proofs.Tryz.f15.body.getD .skip) [true, true, true, false]
noncomputable def zq13.c63 : Code := codeAt (Go.Proofs.Tryz.f15.body.getD .skip) [true, true, true, true, true]
noncomputable def zq13.c124 : Code := codeAt (Go.Proofs.Tryz.f15.body.getD .skip) [true, true, true, true, false, false]
noncomputable def zq13.c500 : Code := codeAt (Go.Proofs.Tryz.f15.body.getD .skip) [true, true, true, true, false, true, false, false]
noncomputable def zq13.K500 (N : Nat) (Kn250 : St D0 → Option zq13.R) : Ex → St D0 → Option zq13.R := ((fun up => (onN (fun s => zq13.C.tidy 250 s ((onN Kn250 up) .normal)) (onN Kn250 up))) (blockK 0 (onN (fun s => zq13.C.tidy 62 s (fun s' => runC zq13.C (zq13.O N) N zq13.c63 63 s' zq13.K0)) zq13.K0)))
noncomputable def zq13.o1 (N : Nat) (v0 : Int) (v1 : List Int) (v2 : Int) (v3 : Int) (v4 : Int) (v5 : List S41) (c1 : Int → (List Int) → Int → Int → Int → (List S41) → Option zq13.R) : Option zq13.R :=
 bif (decide (v3 < v2)) then
  (zq32.g N v5 v3).bind fun r1 =>
  (zq27.g N v4 r1).bind fun r2 =>
  bif ((r2.length : Int) == v0) then
   bif (Nat.blt (v1.length + ([v3] : List Int).length) 17592186044416) then
    c1 v0 (v1 ++ ([v3] : List Int)) v2 (w64 (v3 + 1)) v4 v5
   else
   none
  else
  c1 v0 v1 v2 (w64 (v3 + 1)) v4 v5
 else
 some (v1, true)
theorem zq13.o1.run (N : Nat) (Kn250 : St D0 → Option zq13.R) (v0 : Int) (v1 : List Int) (v2 : Int) (v3 : Int) (v4 : Int) (v5 : List S41) : runC zq13.C (zq13.O N) N zq13.c500 500 (mkSt [(1, .one (.ptr 1 0)), (4, .one (.int .i64 v0)), (6, .one (.sl true 3 v1)), (18, .one (.int .i64 v2)), (19, .one (.int .i64 v3))] [(1, some (24, [.int .i64 v4, .sl false 41 v5]))] : St D0) ((fun up => (onN (fun s => zq13.C.tidy 250 s ((onN Kn250 up) .normal)) (onN Kn250 up))) (blockK 0 (onN (fun s => zq13.C.tidy 62 s (fun s' => runC zq13.C (zq13.O N) N zq13.c63 63 s' zq13.K0)) zq13.K0))) = zq13.o1 N v0 v1 v2 v3 v4 v5 ((fun w0 w1 w2 w3 w4 w5 => Kn250 (mkSt [(1, .one (.ptr 1 0)), (4, .one (.int .i64 w0)), (6, .one (.sl true 3 w1)), (18, .one (.int .i64 w2)), (19, .one (.int .i64 w3))] [(1, some (24, [.int .i64 w4, .sl false 41 w5]))] : St D0))) := by kernel_rfl
noncomputable def zq13.d1 (N : Nat) (v0 : Int) (v1 : List Int) (v2 : Int) (v3 : Int) (v4 : Int) (v5 : List S41) (c1 : Int → (List Int) → Int → Int → Int → (List S41) → Option zq13.R) : Option zq13.R := zq13.o1 N v0 v1 v2 v3 v4 v5 c1
theorem zq13.d1.run (N : Nat) (Kn250 : St D0 → Option zq13.R) (v0 : Int) (v1 : List Int) (v2 : Int) (v3 : Int) (v4 : Int) (v5 : List S41) : runC zq13.C (zq13.O N) N zq13.c500 500 (mkSt [(1, .one (.ptr 1 0)), (4, .one (.int .i64 v0)), (6, .one (.sl true 3 v1)), (18, .one (.int .i64 v2)), (19, .one (.int .i64 v3))] [(1, some (24, [.int .i64 v4, .sl false 41 v5]))] : St D0) (zq13.K500 N Kn250) = zq13.d1 N v0 v1 v2 v3 v4 v5 ((fun w0 w1 w2 w3 w4 w5 => Kn250 (mkSt [(1, .one (.ptr 1 0)), (4, .one (.int .i64 w0)), (6, .one (.sl true 3 w1)), (18, .one (.int .i64 w2)), (19, .one (.int .i64 w3))] [(1, some (24, [.int .i64 w4, .sl false 41 w5]))] : St D0))) := by
  exact (zq13.o1.run N Kn250 v0 v1 v2 v3 v4 v5).trans rfl
noncomputable def zq13.K250 (N : Nat) : Ex → St D0 → Option zq13.R := (blockK 0 (onN (fun s => zq13.C.tidy 62 s (fun s' => runC zq13.C (zq13.O N) N zq13.c63 63 s' zq13.K0)) zq13.K0))
noncomputable def zq13.l1 (N : Nat) : Nat → Int → (List Int) → Int → Int → Int → (List S41) → Option zq13.R
  | 0, _, _, _, _, _, _ => none
  | n + 1, v0, v1, v2, v3, v4, v5 => zq13.d1 N v0 v1 v2 v3 v4 v5 ((fun w0 w1 w2 w3 w4 w5 => zq13.l1 N n w0 w1 w2 w3 w4 w5))
theorem zq13.loop250 (N : Nat) : ∀ n, (∀ (v0 : Int) (v1 : List Int) (v2 : Int) (v3 : Int) (v4 : Int) (v5 : List S41), iter (loopF zq13.C (zq13.O N) N zq13.c500 250) n (mkSt [(1, .one (.ptr 1 0)), (4, .one (.int .i64 v0)), (6, .one (.sl true 3 v1)), (18, .one (.int .i64 v2)), (19, .one (.int .i64 v3))] [(1, some (24, [.int .i64 v4, .sl false 41 v5]))] : St D0) (zq13.K250 N) = zq13.l1 N n v0 v1 v2 v3 v4 v5)
  | 0 => (fun v0 v1 v2 v3 v4 v5 => rfl)
  | n + 1 => (fun v0 v1 v2 v3 v4 v5 => (zq13.d1.run N (fun s => iter (loopF zq13.C (zq13.O N) N zq13.c500 250) n s (zq13.K250 N)) v0 v1 v2 v3 v4 v5).trans (show _ = zq13.d1 N v0 v1 v2 v3 v4 v5 ((fun w0 w1 w2 w3 w4 w5 => zq13.l1 N n w0 w1 w2 w3 w4 w5)) from (congr rfl (funext fun w0 => funext fun w1 => funext fun w2 => funext fun w3 => funext fun w4 => funext fun w5 => (zq13.loop250 N n) w0 w1 w2 w3 w4 w5))))
noncomputable def zq13.o0 (N : Nat) (a0_0 : Int) (a0_1 : List S41) (c1 : Int → (List Int) → Int → Int → Int → (List S41) → Option zq13.R) : Option zq13.R :=
 (zq1.g N a0_0 a0_1).bind fun r1 =>
 bif (!r1.2) then
  some (([] : List Int), false)
 else
 c1 r1.1 ([] : List Int) (a0_1.length : Int) 0 a0_0 a0_1
theorem zq13.o0.run (N : Nat) (H500 : Code) (a0_0 : Int) (a0_1 : List S41) : runC zq13.C (zq13.O N) N (.seq zq13.c2 (.seq zq13.c6 (.seq zq13.c14 (.seq zq13.c30 (.seq (.seq zq13.c124 (.block 0 (.loop H500))) zq13.c63))))) 1 (st0 [.agg [.int .i64 a0_0, .sl false 41 a0_1]] [] : St D0) zq13.K0 = zq13.o0 N a0_0 a0_1 ((fun w0 w1 w2 w3 w4 w5 => iter (loopF zq13.C (zq13.O N) N H500 250) N (mkSt [(1, .one (.ptr 1 0)), (4, .one (.int .i64 w0)), (6, .one (.sl true 3 w1)), (18, .one (.int .i64 w2)), (19, .one (.int .i64 w3))] [(1, some (24, [.int .i64 w4, .sl false 41 w5]))] : St D0) (blockK 0 (onN (fun s => zq13.C.tidy 62 s (fun s' => runC zq13.C (zq13.O N) N zq13.c63 63 s' zq13.K0)) zq13.K0)))) := by kernel_rfl
noncomputable def zq13.g (N : Nat) (a0_0 : Int) (a0_1 : List S41) : Option zq13.R := zq13.o0 N a0_0 a0_1 ((fun w0 w1 w2 w3 w4 w5 => zq13.l1 N N w0 w1 w2 w3 w4 w5))
theorem zq13.c1_0 : zq13.c1 = (.seq zq13.c2 (.seq zq13.c6 (.seq zq13.c14 (.seq zq13.c30 (.seq (.seq zq13.c124 (.block 0 (.loop zq13.c500))) zq13.c63))))) := by kernel_rfl
theorem zq13.g.run (N : Nat) (a0_0 : Int) (a0_1 : List S41) : runC zq13.C (zq13.O N) N zq13.c1 1 (st0 [.agg [.int .i64 a0_0, .sl false 41 a0_1]] [] : St D0) zq13.K0 = zq13.g N a0_0 a0_1 := by
  rw [zq13.c1_0]; unfold zq13.g; exact (zq13.o0.run N zq13.c500 a0_0 a0_1).trans (congr rfl (funext fun w0 => funext fun w1 => funext fun w2 => funext fun w3 => funext fun w4 => funext fun w5 => (zq13.loop250 N N) w0 w1 w2 w3 w4 w5))
theorem zq13.good (N : Nat) (a0_0 : Int) (a0_1 : List S41) (r : zq13.R) (h : zq13.g N a0_0 a0_1 = some r) : Go.PM.Good Go.Proofs.Tryz.prog T0 15 [.agg [.int .i64 a0_0, .sl false 41 a0_1]] [] (zq13.sig.ret r) (zq13.sig.bs r) :=
  good_fn tabOk0 mixed0 zq13.sig (zq13.E N) Go.Proofs.Tryz.func15 (by kernel_rfl) (by kernel_rfl) 2149335295 0 0 [(250, [1, 4, 6, 18, 19], [1])] 1140858880 false [] [(false, [.own 3]), (false, [.any])] (by kernel_rfl) rfl rfl ((zq13.g.run N a0_0 a0_1).trans h)
noncomputable def zq13.ent (N : Nat) : Ent Go.Proofs.Tryz.prog T0 := mkEnt 15 [(true, [.any, .ro 41])] zq13.sig (fun t => zq13.g N t.1 t.2) (fun t r h => zq13.good N t.1 t.2 r h)
end Go.Proofs.YtpeleommbipeaaaGreatDoor.M

namespace Go.Proofs.YtpeleommbipeaaaGreatDoor.M
open Go Go.PM Go.Proofs.YtpeleommbipeaaaGreatDoor.P
set_option linter.unusedVariables false
set_option maxRecDepth 100000
/-! ### zq3 -/
abbrev zq3.R : Type := Int × List S41 × Bool
abbrev zq3.sig : Sig := ⟨[(true, 2), (false, 1)], [], [.int .i64, .sl false 41, .int .i64], [(true, 2), (false, 1)], [], [.int .i64, .sl false 41, .bool]⟩
noncomputable def zq3.C : Cfg D0 := ⟨Go.Proofs.Tryz.prog, T0, 131127, 0, 26, 0, [(12, [1, 2, 4, 17], [2, 4])], 8389632, false, []⟩
noncomputable def zq3.E (N : Nat) : List (Ent Go.Proofs.Tryz.prog T0) := [zq7.ent N, zq31.ent N, zq32.ent N]
noncomputable def zq3.O (N : Nat) : Orc D0 zq3.R := orcOf (zq3.E N)
noncomputable def zq3.K0 : Ex → St D0 → Option zq3.R := exitK zq3.C Go.Proofs.Tryz.f31.results.toList [(true, [.any, .ro 41]), (false, [.any])] (decOut zq3.sig)
noncomputable def zq3.c1 : Code := codeAt (Go.Proofs.Tryz.f31.body.getD .skip) []
noncomputable def zq3.c2 : Code := codeAt (Go.Proofs.Tryz.f31.body.getD .skip) [false]
noncomputable def zq3.c7 : Code := codeAt (Go.Proofs.Tryz.f31.body.getD .skip) [true, true]
noncomputable def zq3.c12 : Code := codeAt (Go.Proofs.Tryz.f31.body.getD .skip) [true, false, false]
noncomputable def zq3.c13 : Code := codeAt (Go.Proofs.Tryz.f31.body.getD .skip) [true, false, true]
noncomputable def zq3.K13 (N : Nat) : Ex → St D0 → Option zq3.R := (onN (fun s => zq3.C.tidy 6 s (fun s' => runC zq3.C (zq3.O N) N zq3.c7 7 s' zq3.K0)) zq3.K0)
noncomputable def zq3.o1 (N : Nat) (v0 : Int) (v1 : Bool) (v2 : Int) (v3 : List S41) (v4 : Int) : Option zq3.R :=
 bif v1 then
  some (0, ([] : List S41), false)
 else
 (zq32.g N v3 v0).bind fun r1 =>
 some (v2, r1, true)
theorem zq3.o1.run (N : Nat) (v0 : Int) (v1 : Bool) (v2 : Int) (v3 : List S41) (v4 : Int) : runC zq3.C (zq3.O N) N zq3.c13 13 (mkSt [(1, .one (.int .i64 v0)), (2, .one (.ptr 2 0)), (4, .one (.ptr 4 0)), (17, .one (.bool v1))] [(2, some (24, [.int .i64 v2, .sl false 41 v3])), (4, some (24, [.int .i64 v4, .nl]))] : St D0) (onN (fun s => zq3.C.tidy 6 s (fun s' => runC zq3.C (zq3.O N) N zq3.c7 7 s' zq3.K0)) zq3.K0) = zq3.o1 N v0 v1 v2 v3 v4 := by kernel_rfl
noncomputable def zq3.d1 (N : Nat) (v0 : Int) (v1 : Bool) (v2 : Int) (v3 : List S41) (v4 : Int) : Option zq3.R := zq3.o1 N v0 v1 v2 v3 v4
theorem zq3.d1.run (N : Nat) (v0 : Int) (v1 : Bool) (v2 : Int) (v3 : List S41) (v4 : Int) : runC zq3.C (zq3.O N) N zq3.c13 13 (mkSt [(1, .one (.int .i64 v0)), (2, .one (.ptr 2 0)), (4, .one (.ptr 4 0)), (17, .one (.bool v1))] [(2, some (24, [.int .i64 v2, .sl false 41 v3])), (4, some (24, [.int .i64 v4, .nl]))] : St D0) (zq3.K13 N) = zq3.d1 N v0 v1 v2 v3 v4 := by
  exact (zq3.o1.run N v0 v1 v2 v3 v4).trans rfl
noncomputable def zq3.o0 (N : Nat) (a0_0 : Int) (a0_1 : List S41) (a1 : Int) (c1 : Int → Bool → Int → (List S41) → Int → Option zq3.R) : Option zq3.R :=
 (zq7.g N a0_0 a0_1).bind fun r1 =>
 bif (!r1) then
  c1 a1 true a0_0 a0_1 0
 else
 (zq31.g N a1 0 (w64 ((a0_1.length : Int) - 1))).bind fun r2 =>
 c1 a1 (!r2) a0_0 a0_1 0
theorem zq3.o0.run (N : Nat) (H13 : Code) (a0_0 : Int) (a0_1 : List S41) (a1 : Int) : runC zq3.C (zq3.O N) N (.seq zq3.c2 (.seq (.seq zq3.c12 H13) zq3.c7)) 1 (st0 [.agg [.int .i64 a0_0, .sl false 41 a0_1], .one (.int .i64 a1)] [] : St D0) zq3.K0 = zq3.o0 N a0_0 a0_1 a1 ((fun w0 w1 w2 w3 w4 => runC zq3.C (zq3.O N) N H13 13 (mkSt [(1, .one (.int .i64 w0)), (2, .one (.ptr 2 0)), (4, .one (.ptr 4 0)), (17, .one (.bool w1))] [(2, some (24, [.int .i64 w2, .sl false 41 w3])), (4, some (24, [.int .i64 w4, .nl]))] : St D0) (onN (fun s => zq3.C.tidy 6 s (fun s' => runC zq3.C (zq3.O N) N zq3.c7 7 s' zq3.K0)) zq3.K0))) := by kernel_rfl
noncomputable def zq3.B6 (N : Nat) : St D0 → Option zq3.R := fun s' => runC zq3.C (zq3.O N) N zq3.c13 13 s' (zq3.K13 N)
noncomputable def zq3.g (N : Nat) (a0_0 : Int) (a0_1 : List S41) (a1 : Int) : Option zq3.R := zq3.o0 N a0_0 a0_1 a1 ((fun w0 w1 w2 w3 w4 => zq3.d1 N w0 w1 w2 w3 w4))
theorem zq3.c1_0 : zq3.c1 = (.seq zq3.c2 (.seq (.seq zq3.c12 zq3.c13) zq3.c7)) := by kernel_rfl
theorem zq3.g.run (N : Nat) (a0_0 : Int) (a0_1 : List S41) (a1 : Int) : runC zq3.C (zq3.O N) N zq3.c1 1 (st0 [.agg [.int .i64 a0_0, .sl false 41 a0_1], .one (.int .i64 a1)] [] : St D0) zq3.K0 = zq3.g N a0_0 a0_1 a1 := by
  rw [zq3.c1_0]; unfold zq3.g; exact (zq3.o0.run N zq3.c13 a0_0 a0_1 a1).trans (congr rfl (funext fun w0 => funext fun w1 => funext fun w2 => funext fun w3 => funext fun w4 => zq3.d1.run N w0 w1 w2 w3 w4))
theorem zq3.good (N : Nat) (a0_0 : Int) (a0_1 : List S41) (a1 : Int) (r : zq3.R) (h : zq3.g N a0_0 a0_1 a1 = some r) : Go.PM.Good Go.Proofs.Tryz.prog T0 31 [.agg [.int .i64 a0_0, .sl false 41 a0_1], .one (.int .i64 a1)] [] (zq3.sig.ret r) (zq3.sig.bs r) :=
  good_fn tabOk0 mixed0 zq3.sig (zq3.E N) Go.Proofs.Tryz.func31 (by kernel_rfl) (by kernel_rfl) 131127 0 0 [(12, [1, 2, 4, 17], [2, 4])] 8389632 false [] [(true, [.any, .ro 41]), (false, [.any])] (by kernel_rfl) rfl rfl ((zq3.g.run N a0_0 a0_1 a1).trans h)
noncomputable def zq3.ent (N : Nat) : Ent Go.Proofs.Tryz.prog T0 := mkEnt 31 [(true, [.any, .ro 41]), (false, [.any])] zq3.sig (fun t => zq3.g N t.1 t.2.1 t.2.2) (fun t r h => zq3.good N t.1 t.2.1 t.2.2 r h)
end Go.Proofs.YtpeleommbipeaaaGreatDoor.M

namespace Go.Proofs.YtpeleommbipeaaaGreatDoor.M
open Go Go.PM Go.Proofs.YtpeleommbipeaaaGreatDoor.P
set_option linter.unusedVariables false
set_option maxRecDepth 100000
/-! ### zq35 -/
abbrev zq35.R : Type := Bool
abbrev zq35.sig : Sig := ⟨[(true, 2), (true, 2)], [], [.int .i64, .sl false 41, .int .i64, .sl false 41], [(false, 1)], [], [.bool]⟩
noncomputable def zq35.C : Cfg D0 := ⟨Go.Proofs.Tryz.prog, T0, 68749361215, 0, 38, 0, [(12, [2, 3, 19], [2, 3]), (58, [2, 3, 22, 23], [2, 3])], 8858370048, false, []⟩
noncomputable def zq35.E (N : Nat) : List (Ent Go.Proofs.Tryz.prog T0) := []
noncomputable def zq35.O (N : Nat) : Orc D0 zq35.R := orcOf (zq35.E N)
noncomputable def zq35.K0 : Ex → St D0 → Option zq35.R := exitK zq35.C Go.Proofs.Tryz.f33.results.toList [(false, [.any])] (decOut zq35.sig)
noncomputable def zq35.c1 : Code := codeAt (Go.Proofs.Tryz.f33.body.getD .skip) []
noncomputable def zq35.c2 : Code := codeAt (Go.Proofs.Tryz.f33.body.getD .skip) [false]
noncomputable def zq35.c7 : Code := codeAt (Go.Proofs.Tryz.f33.body.getD .skip) [true, true]
noncomputable def zq35.c12 : Code := codeAt (Go.Proofs.Tryz.f33.body.getD .skip) [true, false, false]
noncomputable def zq35.c13 : Code := codeAt (Go.Proofs.Tryz.f33.body.getD .skip) [true, false, true]
noncomputable def zq35.c15 : Code := codeAt (Go.Proofs.Tryz.f33.body.getD .skip) [true, true, true]
noncomputable def zq35.c28 : Code := codeAt (Go.Proofs.Tryz.f33.body.getD .skip) [true, true, false, false]
noncomputable def zq35.c116 : Code := codeAt (Go.Proofs.Tryz.f33.body.getD .skip) [true, true, false, true, false, false]
noncomputable def zq35.K116 (N : Nat) (Kn58 : St D0 → Option zq35.R) : Ex → St D0 → Option zq35.R := ((fun up => (onN (fun s => zq35.C.tidy 58 s ((onN Kn58 up) .normal)) (onN Kn58 up))) (blockK 0 (onN (fun s => zq35.C.tidy 14 s (fun s' => runC zq35.C (zq35.O N) N zq35.c15 15 s' zq35.K0)) zq35.K0)))
noncomputable def zq35.o2 (N : Nat) (v0 : Int) (v1 : Int) (v2 : Int) (v3 : List S41) (v4 : Int) (v5 : List S41) (c2 : Int → Int → Int → (List S41) → Int → (List S41) → Option zq35.R) : Option zq35.R :=
 bif (decide (v1 < v0)) then
  bif (decide (0 ≤ v1)) then
   bif (decide (v1 < (v3.length : Int))) then
    (v3[(v1 : Int).toNat]?).bind fun x1 =>
    bif (decide (0 ≤ v1)) then
     bif (decide (v1 < (v5.length : Int))) then
      (v5[(v1 : Int).toNat]?).bind fun x2 =>
      bif (!((x1.f0 == x2.f0) && ((x1.f1 == x2.f1) && ((x1.f2 == x2.f2) && true)))) then
       some (false)
      else
      c2 v0 (w64 (v1 + 1)) v2 v3 v4 v5
     else
     none
    else
    none
   else
   none
  else
  none
 else
 some (true)
theorem zq35.o2.run (N : Nat) (Kn58 : St D0 → Option zq35.R) (v0 : Int) (v1 : Int) (v2 : Int) (v3 : List S41) (v4 : Int) (v5 : List S41) : runC zq35.C (zq35.O N) N zq35.c116 116 (mkSt [(2, .one (.ptr 2 0)), (3, .one (.ptr 3 0)), (22, .one (.int .i64 v0)), (23, .one (.int .i64 v1))] [(2, some (24, [.int .i64 v2, .sl false 41 v3])), (3, some (24, [.int .i64 v4, .sl false 41 v5]))] : St D0) ((fun up => (onN (fun s => zq35.C.tidy 58 s ((onN Kn58 up) .normal)) (onN Kn58 up))) (blockK 0 (onN (fun s => zq35.C.tidy 14 s (fun s' => runC zq35.C (zq35.O N) N zq35.c15 15 s' zq35.K0)) zq35.K0))) = zq35.o2 N v0 v1 v2 v3 v4 v5 ((fun w0 w1 w2 w3 w4 w5 => Kn58 (mkSt [(2, .one (.ptr 2 0)), (3, .one (.ptr 3 0)), (22, .one (.int .i64 w0)), (23, .one (.int .i64 w1))] [(2, some (24, [.int .i64 w2, .sl false 41 w3])), (3, some (24, [.int .i64 w4, .sl false 41 w5]))] : St D0))) := by kernel_rfl
noncomputable def zq35.d2 (N : Nat) (v0 : Int) (v1 : Int) (v2 : Int) (v3 : List S41) (v4 : Int) (v5 : List S41) (c2 : Int → Int → Int → (List S41) → Int → (List S41) → Option zq35.R) : Option zq35.R := zq35.o2 N v0 v1 v2 v3 v4 v5 c2
theorem zq35.d2.run (N : Nat) (Kn58 : St D0 → Option zq35.R) (v0 : Int) (v1 : Int) (v2 : Int) (v3 : List S41) (v4 : Int) (v5 : List S41) : runC zq35.C (zq35.O N) N zq35.c116 116 (mkSt [(2, .one (.ptr 2 0)), (3, .one (.ptr 3 0)), (22, .one (.int .i64 v0)), (23, .one (.int .i64 v1))] [(2, some (24, [.int .i64 v2, .sl false 41 v3])), (3, some (24, [.int .i64 v4, .sl false 41 v5]))] : St D0) (zq35.K116 N Kn58) = zq35.d2 N v0 v1 v2 v3 v4 v5 ((fun w0 w1 w2 w3 w4 w5 => Kn58 (mkSt [(2, .one (.ptr 2 0)), (3, .one (.ptr 3 0)), (22, .one (.int .i64 w0)), (23, .one (.int .i64 w1))] [(2, some (24, [.int .i64 w2, .sl false 41 w3])), (3, some (24, [.int .i64 w4, .sl false 41 w5]))] : St D0))) := by
  exact (zq35.o2.run N Kn58 v0 v1 v2 v3 v4 v5).trans rfl
noncomputable def zq35.K58 (N : Nat) : Ex → St D0 → Option zq35.R := (blockK 0 (onN (fun s => zq35.C.tidy 14 s (fun s' => runC zq35.C (zq35.O N) N zq35.c15 15 s' zq35.K0)) zq35.K0))
noncomputable def zq35.l2 (N : Nat) : Nat → Int → Int → Int → (List S41) → Int → (List S41) → Option zq35.R
  | 0, _, _, _, _, _, _ => none
  | n + 1, v0, v1, v2, v3, v4, v5 => zq35.d2 N v0 v1 v2 v3 v4 v5 ((fun w0 w1 w2 w3 w4 w5 => zq35.l2 N n w0 w1 w2 w3 w4 w5))
theorem zq35.loop58 (N : Nat) : ∀ n, (∀ (v0 : Int) (v1 : Int) (v2 : Int) (v3 : List S41) (v4 : Int) (v5 : List S41), iter (loopF zq35.C (zq35.O N) N zq35.c116 58) n (mkSt [(2, .one (.ptr 2 0)), (3, .one (.ptr 3 0)), (22, .one (.int .i64 v0)), (23, .one (.int .i64 v1))] [(2, some (24, [.int .i64 v2, .sl false 41 v3])), (3, some (24, [.int .i64 v4, .sl false 41 v5]))] : St D0) (zq35.K58 N) = zq35.l2 N n v0 v1 v2 v3 v4 v5)
  | 0 => (fun v0 v1 v2 v3 v4 v5 => rfl)
  | n + 1 => (fun v0 v1 v2 v3 v4 v5 => (zq35.d2.run N (fun s => iter (loopF zq35.C (zq35.O N) N zq35.c116 58) n s (zq35.K58 N)) v0 v1 v2 v3 v4 v5).trans (show _ = zq35.d2 N v0 v1 v2 v3 v4 v5 ((fun w0 w1 w2 w3 w4 w5 => zq35.l2 N n w0 w1 w2 w3 w4 w5)) from (congr rfl (funext fun w0 => funext fun w1 => funext fun w2 => funext fun w3 => funext fun w4 => funext fun w5 => (zq35.loop58 N n) w0 w1 w2 w3 w4 w5))))
noncomputable def zq35.K13 (N : Nat) : Ex → St D0 → Option zq35.R := (onN (fun s => zq35.C.tidy 6 s (fun s' => runC zq35.C (zq35.O N) N zq35.c7 7 s' zq35.K0)) zq35.K0)
noncomputable def zq35.o1 (N : Nat) (v0 : Bool) (v1 : Int) (v2 : List S41) (v3 : Int) (v4 : List S41) (c2 : Int → Int → Int → (List S41) → Int → (List S41) → Option zq35.R) : Option zq35.R :=
 bif v0 then
  some (false)
 else
 c2 (v2.length : Int) 0 v1 v2 v3 v4
theorem zq35.o1.run (N : Nat) (H116 : Code) (v0 : Bool) (v1 : Int) (v2 : List S41) (v3 : Int) (v4 : List S41) : runC zq35.C (zq35.O N) N zq35.c13 13 (mkSt [(2, .one (.ptr 2 0)), (3, .one (.ptr 3 0)), (19, .one (.bool v0))] [(2, some (24, [.int .i64 v1, .sl false 41 v2])), (3, some (24, [.int .i64 v3, .sl false 41 v4]))] : St D0) (onN (fun s => zq35.C.tidy 6 s (fun s' => runC zq35.C (zq35.O N) N (.seq (.seq zq35.c28 (.block 0 (.loop H116))) zq35.c15) 7 s' zq35.K0)) zq35.K0) = zq35.o1 N v0 v1 v2 v3 v4 ((fun w0 w1 w2 w3 w4 w5 => iter (loopF zq35.C (zq35.O N) N H116 58) N (mkSt [(2, .one (.ptr 2 0)), (3, .one (.ptr 3 0)), (22, .one (.int .i64 w0)), (23, .one (.int .i64 w1))] [(2, some (24, [.int .i64 w2, .sl false 41 w3])), (3, some (24, [.int .i64 w4, .sl false 41 w5]))] : St D0) (blockK 0 (onN (fun s => zq35.C.tidy 14 s (fun s' => runC zq35.C (zq35.O N) N zq35.c15 15 s' zq35.K0)) zq35.K0)))) := by kernel_rfl
noncomputable def zq35.d1 (N : Nat) (v0 : Bool) (v1 : Int) (v2 : List S41) (v3 : Int) (v4 : List S41) : Option zq35.R := zq35.o1 N v0 v1 v2 v3 v4 ((fun w0 w1 w2 w3 w4 w5 => zq35.l2 N N w0 w1 w2 w3 w4 w5))
theorem zq35.d1.run (N : Nat) (v0 : Bool) (v1 : Int) (v2 : List S41) (v3 : Int) (v4 : List S41) : runC zq35.C (zq35.O N) N zq35.c13 13 (mkSt [(2, .one (.ptr 2 0)), (3, .one (.ptr 3 0)), (19, .one (.bool v0))] [(2, some (24, [.int .i64 v1, .sl false 41 v2])), (3, some (24, [.int .i64 v3, .sl false 41 v4]))] : St D0) (zq35.K13 N) = zq35.d1 N v0 v1 v2 v3 v4 := by
  unfold zq35.d1; exact (zq35.o1.run N zq35.c116 v0 v1 v2 v3 v4).trans (congr rfl (funext fun w0 => funext fun w1 => funext fun w2 => funext fun w3 => funext fun w4 => funext fun w5 => (zq35.loop58 N N) w0 w1 w2 w3 w4 w5))
noncomputable def zq35.o0 (N : Nat) (a0_0 : Int) (a0_1 : List S41) (a1_0 : Int) (a1_1 : List S41) (c1 : Bool → Int → (List S41) → Int → (List S41) → Option zq35.R) : Option zq35.R :=
 bif (a0_0 != a1_0) then
  c1 true a0_0 a0_1 a1_0 a1_1
 else
 c1 ((a0_1.length : Int) != (a1_1.length : Int)) a0_0 a0_1 a1_0 a1_1
theorem zq35.o0.run (N : Nat) (H13 : Code) (a0_0 : Int) (a0_1 : List S41) (a1_0 : Int) (a1_1 : List S41) : runC zq35.C (zq35.O N) N (.seq zq35.c2 (.seq (.seq zq35.c12 H13) zq35.c7)) 1 (st0 [.agg [.int .i64 a0_0, .sl false 41 a0_1], .agg [.int .i64 a1_0, .sl false 41 a1_1]] [] : St D0) zq35.K0 = zq35.o0 N a0_0 a0_1 a1_0 a1_1 ((fun w0 w1 w2 w3 w4 => runC zq35.C (zq35.O N) N H13 13 (mkSt [(2, .one (.ptr 2 0)), (3, .one (.ptr 3 0)), (19, .one (.bool w0))] [(2, some (24, [.int .i64 w1, .sl false 41 w2])), (3, some (24, [.int .i64 w3, .sl false 41 w4]))] : St D0) (onN (fun s => zq35.C.tidy 6 s (fun s' => runC zq35.C (zq35.O N) N zq35.c7 7 s' zq35.K0)) zq35.K0))) := by kernel_rfl
noncomputable def zq35.B6 (N : Nat) : St D0 → Option zq35.R := fun s' => runC zq35.C (zq35.O N) N zq35.c13 13 s' (zq35.K13 N)
noncomputable def zq35.g (N : Nat) (a0_0 : Int) (a0_1 : List S41) (a1_0 : Int) (a1_1 : List S41) : Option zq35.R := zq35.o0 N a0_0 a0_1 a1_0 a1_1 ((fun w0 w1 w2 w3 w4 => zq35.d1 N w0 w1 w2 w3 w4))
theorem zq35.c1_0 : zq35.c1 = (.seq zq35.c2 (.seq (.seq zq35.c12 zq35.c13) zq35.c7)) := by kernel_rfl
theorem zq35.g.run (N : Nat) (a0_0 : Int) (a0_1 : List S41) (a1_0 : Int) (a1_1 : List S41) : runC zq35.C (zq35.O N) N zq35.c1 1 (st0 [.agg [.int .i64 a0_0, .sl false 41 a0_1], .agg [.int .i64 a1_0, .sl false 41 a1_1]] [] : St D0) zq35.K0 = zq35.g N a0_0 a0_1 a1_0 a1_1 := by
  rw [zq35.c1_0]; unfold zq35.g; exact (zq35.o0.run N zq35.c13 a0_0 a0_1 a1_0 a1_1).trans (congr rfl (funext fun w0 => funext fun w1 => funext fun w2 => funext fun w3 => funext fun w4 => zq35.d1.run N w0 w1 w2 w3 w4))
theorem zq35.good (N : Nat) (a0_0 : Int) (a0_1 : List S41) (a1_0 : Int) (a1_1 : List S41) (r : zq35.R) (h : zq35.g N a0_0 a0_1 a1_0 a1_1 = some r) : Go.PM.Good Go.Proofs.Tryz.prog T0 33 [.agg [.int .i64 a0_0, .sl false 41 a0_1], .agg [.int .i64 a1_0, .sl false 41 a1_1]] [] (zq35.sig.ret r) (zq35.sig.bs r) :=
  good_fn tabOk0 mixed0 zq35.sig (zq35.E N) Go.Proofs.Tryz.func33 (by kernel_rfl) (by kernel_rfl) 68749361215 0 0 [(12, [2, 3, 19], [2, 3]), (58, [2, 3, 22, 23], [2, 3])] 8858370048 false [] [(false, [.any])] (by kernel_rfl) rfl rfl ((zq35.g.run N a0_0 a0_1 a1_0 a1_1).trans h)
noncomputable def zq35.ent (N : Nat) : Ent Go.Proofs.Tryz.prog T0 := mkEnt 33 [(true, [.any, .ro 41]), (true, [.any, .ro 41])] zq35.sig (fun t => zq35.g N t.1 t.2.1 t.2.2.1 t.2.2.2) (fun t r h => zq35.good N t.1 t.2.1 t.2.2.1 t.2.2.2 r h)
end Go.Proofs.YtpeleommbipeaaaGreatDoor.M

namespace Go.Proofs.YtpeleommbipeaaaGreatDoor.M
open Go Go.PM Go.Proofs.YtpeleommbipeaaaGreatDoor.P
set_option linter.unusedVariables false
set_option maxRecDepth 100000
/-! ### zq34 -/
abbrev zq34.R : Type := Bool
abbrev zq34.sig : Sig := ⟨[(false, 1), (false, 1)], [], [.sl false 3, .int .i64], [(false, 1)], [], [.bool]⟩
noncomputable def zq34.C : Cfg D0 := ⟨Go.Proofs.Tryz.prog, T0, 34771, 0, 17, 0, [(26, [1, 7, 8, 9], [])], 24576, false, []⟩
noncomputable def zq34.E (N : Nat) : List (Ent Go.Proofs.Tryz.prog T0) := []
noncomputable def zq34.O (N : Nat) : Orc D0 zq34.R := orcOf (zq34.E N)
noncomputable def zq34.K0 : Ex → St D0 → Option zq34.R := exitK zq34.C Go.Proofs.Tryz.f28.results.toList [(false, [.any])] (decOut zq34.sig)
noncomputable def zq34.c1 : Code := codeAt (Go.Proofs.Tryz.f28.body.getD .skip) []
noncomputable def zq34.c2 : Code := codeAt (Go.Proofs.Tryz.f28.body.getD .skip) [false]
noncomputable def zq34.c7 : Code := codeAt (Go.Proofs.Tryz.f28.body.getD .skip) [true, true]
noncomputable def zq34.c12 : Code := codeAt (Go.Proofs.Tryz.f28.body.getD .skip) [true, false, false]
noncomputable def zq34.c52 : Code := codeAt (Go.Proofs.Tryz.f28.body.getD .skip) [true, false, true, false, false]
noncomputable def zq34.K52 (N : Nat) (Kn26 : St D0 → Option zq34.R) : Ex → St D0 → Option zq34.R := ((fun up => (onN (fun s => zq34.C.tidy 26 s ((onN Kn26 up) .normal)) (onN Kn26 up))) (blockK 0 (onN (fun s => zq34.C.tidy 6 s (fun s' => runC zq34.C (zq34.O N) N zq34.c7 7 s' zq34.K0)) zq34.K0)))
noncomputable def zq34.o1 (N : Nat) (v0 : Int) (v1 : List Int) (v2 : Int) (v3 : Int) (c1 : Int → (List Int) → Int → Int → Option zq34.R) : Option zq34.R :=
 bif (decide (v3 < v2)) then
  bif (decide (0 ≤ v3)) then
   bif (decide (v3 < (v1.length : Int))) then
    (v1[(v3 : Int).toNat]?).bind fun x1 =>
    bif (x1 == v0) then
     some (true)
    else
    c1 v0 v1 v2 (w64 (v3 + 1))
   else
   none
  else
  none
 else
 some (false)
theorem zq34.o1.run (N : Nat) (Kn26 : St D0 → Option zq34.R) (v0 : Int) (v1 : List Int) (v2 : Int) (v3 : Int) : runC zq34.C (zq34.O N) N zq34.c52 52 (mkSt [(1, .one (.int .i64 v0)), (7, .one (.sl false 3 v1)), (8, .one (.int .i64 v2)), (9, .one (.int .i64 v3))] [] : St D0) ((fun up => (onN (fun s => zq34.C.tidy 26 s ((onN Kn26 up) .normal)) (onN Kn26 up))) (blockK 0 (onN (fun s => zq34.C.tidy 6 s (fun s' => runC zq34.C (zq34.O N) N zq34.c7 7 s' zq34.K0)) zq34.K0))) = zq34.o1 N v0 v1 v2 v3 ((fun w0 w1 w2 w3 => Kn26 (mkSt [(1, .one (.int .i64 w0)), (7, .one (.sl false 3 w1)), (8, .one (.int .i64 w2)), (9, .one (.int .i64 w3))] [] : St D0))) := by kernel_rfl
noncomputable def zq34.d1 (N : Nat) (v0 : Int) (v1 : List Int) (v2 : Int) (v3 : Int) (c1 : Int → (List Int) → Int → Int → Option zq34.R) : Option zq34.R := zq34.o1 N v0 v1 v2 v3 c1
theorem zq34.d1.run (N : Nat) (Kn26 : St D0 → Option zq34.R) (v0 : Int) (v1 : List Int) (v2 : Int) (v3 : Int) : runC zq34.C (zq34.O N) N zq34.c52 52 (mkSt [(1, .one (.int .i64 v0)), (7, .one (.sl false 3 v1)), (8, .one (.int .i64 v2)), (9, .one (.int .i64 v3))] [] : St D0) (zq34.K52 N Kn26) = zq34.d1 N v0 v1 v2 v3 ((fun w0 w1 w2 w3 => Kn26 (mkSt [(1, .one (.int .i64 w0)), (7, .one (.sl false 3 w1)), (8, .one (.int .i64 w2)), (9, .one (.int .i64 w3))] [] : St D0))) := by
  exact (zq34.o1.run N Kn26 v0 v1 v2 v3).trans rfl
noncomputable def zq34.K26 (N : Nat) : Ex → St D0 → Option zq34.R := (blockK 0 (onN (fun s => zq34.C.tidy 6 s (fun s' => runC zq34.C (zq34.O N) N zq34.c7 7 s' zq34.K0)) zq34.K0))
noncomputable def zq34.l1 (N : Nat) : Nat → Int → (List Int) → Int → Int → Option zq34.R
  | 0, _, _, _, _ => none
  | n + 1, v0, v1, v2, v3 => zq34.d1 N v0 v1 v2 v3 ((fun w0 w1 w2 w3 => zq34.l1 N n w0 w1 w2 w3))
theorem zq34.loop26 (N : Nat) : ∀ n, (∀ (v0 : Int) (v1 : List Int) (v2 : Int) (v3 : Int), iter (loopF zq34.C (zq34.O N) N zq34.c52 26) n (mkSt [(1, .one (.int .i64 v0)), (7, .one (.sl false 3 v1)), (8, .one (.int .i64 v2)), (9, .one (.int .i64 v3))] [] : St D0) (zq34.K26 N) = zq34.l1 N n v0 v1 v2 v3)
  | 0 => (fun v0 v1 v2 v3 => rfl)
  | n + 1 => (fun v0 v1 v2 v3 => (zq34.d1.run N (fun s => iter (loopF zq34.C (zq34.O N) N zq34.c52 26) n s (zq34.K26 N)) v0 v1 v2 v3).trans (show _ = zq34.d1 N v0 v1 v2 v3 ((fun w0 w1 w2 w3 => zq34.l1 N n w0 w1 w2 w3)) from (congr rfl (funext fun w0 => funext fun w1 => funext fun w2 => funext fun w3 => (zq34.loop26 N n) w0 w1 w2 w3))))
noncomputable def zq34.o0 (N : Nat) (a0 : List Int) (a1 : Int) (c1 : Int → (List Int) → Int → Int → Option zq34.R) : Option zq34.R :=
 c1 a1 a0 (a0.length : Int) 0
theorem zq34.o0.run (N : Nat) (H52 : Code) (a0 : List Int) (a1 : Int) : runC zq34.C (zq34.O N) N (.seq zq34.c2 (.seq (.seq zq34.c12 (.block 0 (.loop H52))) zq34.c7)) 1 (st0 [.one (.sl false 3 a0), .one (.int .i64 a1)] [] : St D0) zq34.K0 = zq34.o0 N a0 a1 ((fun w0 w1 w2 w3 => iter (loopF zq34.C (zq34.O N) N H52 26) N (mkSt [(1, .one (.int .i64 w0)), (7, .one (.sl false 3 w1)), (8, .one (.int .i64 w2)), (9, .one (.int .i64 w3))] [] : St D0) (blockK 0 (onN (fun s => zq34.C.tidy 6 s (fun s' => runC zq34.C (zq34.O N) N zq34.c7 7 s' zq34.K0)) zq34.K0)))) := by kernel_rfl
noncomputable def zq34.g (N : Nat) (a0 : List Int) (a1 : Int) : Option zq34.R := zq34.o0 N a0 a1 ((fun w0 w1 w2 w3 => zq34.l1 N N w0 w1 w2 w3))
theorem zq34.c1_0 : zq34.c1 = (.seq zq34.c2 (.seq (.seq zq34.c12 (.block 0 (.loop zq34.c52))) zq34.c7)) := by kernel_rfl
theorem zq34.g.run (N : Nat) (a0 : List Int) (a1 : Int) : runC zq34.C (zq34.O N) N zq34.c1 1 (st0 [.one (.sl false 3 a0), .one (.int .i64 a1)] [] : St D0) zq34.K0 = zq34.g N a0 a1 := by
  rw [zq34.c1_0]; unfold zq34.g; exact (zq34.o0.run N zq34.c52 a0 a1).trans (congr rfl (funext fun w0 => funext fun w1 => funext fun w2 => funext fun w3 => (zq34.loop26 N N) w0 w1 w2 w3))
theorem zq34.good (N : Nat) (a0 : List Int) (a1 : Int) (r : zq34.R) (h : zq34.g N a0 a1 = some r) : Go.PM.Good Go.Proofs.Tryz.prog T0 28 [.one (.sl false 3 a0), .one (.int .i64 a1)] [] (zq34.sig.ret r) (zq34.sig.bs r) :=
  good_fn tabOk0 mixed0 zq34.sig (zq34.E N) Go.Proofs.Tryz.func28 (by kernel_rfl) (by kernel_rfl) 34771 0 0 [(26, [1, 7, 8, 9], [])] 24576 false [] [(false, [.any])] (by kernel_rfl) rfl rfl ((zq34.g.run N a0 a1).trans h)
noncomputable def zq34.ent (N : Nat) : Ent Go.Proofs.Tryz.prog T0 := mkEnt 28 [(false, [.ro 3]), (false, [.any])] zq34.sig (fun t => zq34.g N t.1 t.2) (fun t r h => zq34.good N t.1 t.2 r h)
end Go.Proofs.YtpeleommbipeaaaGreatDoor.M

namespace Go.Proofs.YtpeleommbipeaaaGreatDoor.M
open Go Go.PM Go.Proofs.YtpeleommbipeaaaGreatDoor.P
set_option linter.unusedVariables false
set_option maxRecDepth 100000
/-! ### zq78 -/
abbrev zq78.R : Type := Int × Int × Int
abbrev zq78.sig : Sig := ⟨[(false, 1), (false, 1), (false, 1), (false, 1)], [], [.int .i64, .int .i64, .int .i64, .int .i64], [(true, 3)], [], [.int .i64, .int .i64, .int .i64]⟩
noncomputable def zq78.C : Cfg D0 := ⟨Go.Proofs.Tryz.prog, T0, 2535473949017871, 0, 62, 0, [], 459464076343388160, false, []⟩
noncomputable def zq78.E (N : Nat) : List (Ent Go.Proofs.Tryz.prog T0) := [zq72.ent N, zq77.ent N, zq58.ent N]
noncomputable def zq78.O (N : Nat) : Orc D0 zq78.R := orcOf (zq78.E N)
noncomputable def zq78.K0 : Ex → St D0 → Option zq78.R := exitK zq78.C Go.Proofs.Tryz.f88.results.toList [(true, [.any, .any, .any])] (decOut zq78.sig)
noncomputable def zq78.c1 : Code := codeAt (Go.Proofs.Tryz.f88.body.getD .skip) []
noncomputable def zq78.o0 (N : Nat) (a0 : Int) (a1 : Int) (a2 : Int) (a3 : Int) : Option zq78.R :=
 bif (a1 == 0) then
  some (0, (w64 (Int.tdiv a3 60)), 0)
 else
 bif (a1 == 1) then
  bif (a2 == 0) then
   none
  else
  some (1, a2, (Int.tmod (Int.tmod a3 60) a2))
 else
 bif (a1 == 2) then
  some (2, (w64 ((w64 ((w64 ((w64 (Int.tdiv (w64 (Int.tdiv a3 60)) 10)) + (Int.tmod (w64 (Int.tdiv a3 60)) 10))) + (w64 (Int.tdiv (Int.tmod a3 60) 10)))) + (Int.tmod (Int.tmod a3 60) 10))), 0)
 else
 bif (a1 == 3) then
  (zq72.g N a0 a3).bind fun r1 =>
  bif (decide (r1 < (w64 (30 * a0)))) then
   some (3, 1, 0)
  else
  some (3, 0, 0)
 else
 bif (a1 == 4) then
  (zq77.g N a0 a3).bind fun r2 =>
  some (4, r2, 0)
 else
 (zq58.g N (w64 ((w64 (Int.tdiv a3 60)) - (Int.tmod a3 60)))).bind fun r3 =>
 some (5, r3, 0)
theorem zq78.o0.run (N : Nat) (a0 : Int) (a1 : Int) (a2 : Int) (a3 : Int) : runC zq78.C (zq78.O N) N zq78.c1 1 (st0 [.one (.int .i64 a0), .one (.int .i64 a1), .one (.int .i64 a2), .one (.int .i64 a3)] [] : St D0) zq78.K0 = zq78.o0 N a0 a1 a2 a3 := by kernel_rfl
noncomputable def zq78.g (N : Nat) (a0 : Int) (a1 : Int) (a2 : Int) (a3 : Int) : Option zq78.R := zq78.o0 N a0 a1 a2 a3
theorem zq78.g.run (N : Nat) (a0 : Int) (a1 : Int) (a2 : Int) (a3 : Int) : runC zq78.C (zq78.O N) N zq78.c1 1 (st0 [.one (.int .i64 a0), .one (.int .i64 a1), .one (.int .i64 a2), .one (.int .i64 a3)] [] : St D0) zq78.K0 = zq78.g N a0 a1 a2 a3 := by
  exact (zq78.o0.run N a0 a1 a2 a3).trans rfl
theorem zq78.good (N : Nat) (a0 : Int) (a1 : Int) (a2 : Int) (a3 : Int) (r : zq78.R) (h : zq78.g N a0 a1 a2 a3 = some r) : Go.PM.Good Go.Proofs.Tryz.prog T0 88 [.one (.int .i64 a0), .one (.int .i64 a1), .one (.int .i64 a2), .one (.int .i64 a3)] [] (zq78.sig.ret r) (zq78.sig.bs r) :=
  good_fn tabOk0 mixed0 zq78.sig (zq78.E N) Go.Proofs.Tryz.func88 (by kernel_rfl) (by kernel_rfl) 2535473949017871 0 0 [] 459464076343388160 false [] [(true, [.any, .any, .any])] (by kernel_rfl) rfl rfl ((zq78.g.run N a0 a1 a2 a3).trans h)
noncomputable def zq78.ent (N : Nat) : Ent Go.Proofs.Tryz.prog T0 := mkEnt 88 [(false, [.any]), (false, [.any]), (false, [.any]), (false, [.any])] zq78.sig (fun t => zq78.g N t.1 t.2.1 t.2.2.1 t.2.2.2) (fun t r h => zq78.good N t.1 t.2.1 t.2.2.1 t.2.2.2 r h)
end Go.Proofs.YtpeleommbipeaaaGreatDoor.M

namespace Go.Proofs.YtpeleommbipeaaaGreatDoor.M
open Go Go.PM Go.Proofs.YtpeleommbipeaaaGreatDoor.P
set_option linter.unusedVariables false
set_option maxRecDepth 100000
/-! ### zq61 -/
abbrev zq61.R : Type := Int × List Int × Int × Int
abbrev zq61.sig : Sig := ⟨[(false, 1)], [(80, 3)], [.ptr 0 0, .sl false 5, .int .i64, .int .u64], [(false, 1)], [(80, 3)], [.int .i64, .sl false 5, .int .i64, .int .u64]⟩
noncomputable def zq61.C : Cfg D0 := ⟨Go.Proofs.Tryz.prog, T0, 9007199254749197, 0, 62, 1, [(14, [0, 3], [0])], 36328151978361104, false, []⟩
noncomputable def zq61.E (N : Nat) : List (Ent Go.Proofs.Tryz.prog T0) := []
noncomputable def zq61.O (N : Nat) : Orc D0 zq61.R := orcOf (zq61.E N)
noncomputable def zq61.K0 : Ex → St D0 → Option zq61.R := exitK zq61.C Go.Proofs.Tryz.f106.results.toList [(false, [.any])] (decOut zq61.sig)
noncomputable def zq61.c1 : Code := codeAt (Go.Proofs.Tryz.f106.body.getD .skip) []
noncomputable def zq61.c2 : Code := codeAt (Go.Proofs.Tryz.f106.body.getD .skip) [false]
noncomputable def zq61.c6 : Code := codeAt (Go.Proofs.Tryz.f106.body.getD .skip) [true, false]
noncomputable def zq61.c14 : Code := codeAt (Go.Proofs.Tryz.f106.body.getD .skip) [true, true, false]
noncomputable def zq61.c15 : Code := codeAt (Go.Proofs.Tryz.f106.body.getD .skip) [true, true, true]
noncomputable def zq61.K15 (N : Nat) : Ex → St D0 → Option zq61.R := zq61.K0
noncomputable def zq61.o1 (N : Nat) (v0 : Int) (v1 : List Int) (v2 : Int) (v3 : Int) : Option zq61.R :=
 bif (decide ((w64 (v2 + 1)) ≤ (v1.length : Int))) then
  some (v0, v1, (w64 (v2 + 1)), ((IntKind.wrap .u64) (((IntKind.wrap .u64) (((IntKind.wrap .u64) (v3 * 6364136223846793005)) + ((IntKind.wrap .u64) v0))) + 1442695040888963407)))
 else
 some ((w64 (andK .u64 (shrK .u64 ((IntKind.wrap .u64) (((IntKind.wrap .u64) (((IntKind.wrap .u64) (v3 * 6364136223846793005)) + ((IntKind.wrap .u64) v0))) + 1442695040888963407)) 40) 255)), v1, (w64 (v2 + 1)), ((IntKind.wrap .u64) (((IntKind.wrap .u64) (((IntKind.wrap .u64) (v3 * 6364136223846793005)) + ((IntKind.wrap .u64) v0))) + 1442695040888963407)))
theorem zq61.o1.run (N : Nat) (v0 : Int) (v1 : List Int) (v2 : Int) (v3 : Int) : runC zq61.C (zq61.O N) N zq61.c15 15 (mkSt [(0, .one (.ptr 0 0)), (3, .one (.int .i64 v0))] [(0, some (80, [.sl false 5 v1, .int .i64 v2, .int .u64 v3]))] : St D0) zq61.K0 = zq61.o1 N v0 v1 v2 v3 := by kernel_rfl
noncomputable def zq61.d1 (N : Nat) (v0 : Int) (v1 : List Int) (v2 : Int) (v3 : Int) : Option zq61.R := zq61.o1 N v0 v1 v2 v3
theorem zq61.d1.run (N : Nat) (v0 : Int) (v1 : List Int) (v2 : Int) (v3 : Int) : runC zq61.C (zq61.O N) N zq61.c15 15 (mkSt [(0, .one (.ptr 0 0)), (3, .one (.int .i64 v0))] [(0, some (80, [.sl false 5 v1, .int .i64 v2, .int .u64 v3]))] : St D0) (zq61.K15 N) = zq61.d1 N v0 v1 v2 v3 := by
  exact (zq61.o1.run N v0 v1 v2 v3).trans rfl
noncomputable def zq61.o0 (N : Nat) (b0_0 : List Int) (b0_1 : Int) (b0_2 : Int) (c1 : Int → (List Int) → Int → Int → Option zq61.R) : Option zq61.R :=
 bif (decide (b0_1 < (b0_0.length : Int))) then
  bif (decide (0 ≤ b0_1)) then
   bif (decide (b0_1 < (b0_0.length : Int))) then
    (b0_0[(b0_1 : Int).toNat]?).bind fun x1 =>
    c1 (w64 x1) b0_0 b0_1 b0_2
   else
   none
  else
  none
 else
 c1 0 b0_0 b0_1 b0_2
theorem zq61.o0.run (N : Nat) (H15 : Code) (b0_0 : List Int) (b0_1 : Int) (b0_2 : Int) : runC zq61.C (zq61.O N) N (.seq zq61.c2 (.seq zq61.c6 (.seq zq61.c14 H15))) 1 (st0 [.one (.ptr 0 0)] [(80, [.sl false 5 b0_0, .int .i64 b0_1, .int .u64 b0_2])] : St D0) zq61.K0 = zq61.o0 N b0_0 b0_1 b0_2 ((fun w0 w1 w2 w3 => runC zq61.C (zq61.O N) N H15 15 (mkSt [(0, .one (.ptr 0 0)), (3, .one (.int .i64 w0))] [(0, some (80, [.sl false 5 w1, .int .i64 w2, .int .u64 w3]))] : St D0) zq61.K0)) := by kernel_rfl
noncomputable def zq61.B7 (N : Nat) : St D0 → Option zq61.R := fun s' => runC zq61.C (zq61.O N) N zq61.c15 15 s' (zq61.K15 N)
noncomputable def zq61.g (N : Nat) (b0_0 : List Int) (b0_1 : Int) (b0_2 : Int) : Option zq61.R := zq61.o0 N b0_0 b0_1 b0_2 ((fun w0 w1 w2 w3 => zq61.d1 N w0 w1 w2 w3))
theorem zq61.c1_0 : zq61.c1 = (.seq zq61.c2 (.seq zq61.c6 (.seq zq61.c14 zq61.c15))) := by kernel_rfl
theorem zq61.g.run (N : Nat) (b0_0 : List Int) (b0_1 : Int) (b0_2 : Int) : runC zq61.C (zq61.O N) N zq61.c1 1 (st0 [.one (.ptr 0 0)] [(80, [.sl false 5 b0_0, .int .i64 b0_1, .int .u64 b0_2])] : St D0) zq61.K0 = zq61.g N b0_0 b0_1 b0_2 := by
  rw [zq61.c1_0]; unfold zq61.g; exact (zq61.o0.run N zq61.c15 b0_0 b0_1 b0_2).trans (congr rfl (funext fun w0 => funext fun w1 => funext fun w2 => funext fun w3 => zq61.d1.run N w0 w1 w2 w3))
theorem zq61.good (N : Nat) (b0_0 : List Int) (b0_1 : Int) (b0_2 : Int) (r : zq61.R) (h : zq61.g N b0_0 b0_1 b0_2 = some r) : Go.PM.Good Go.Proofs.Tryz.prog T0 106 [.one (.ptr 0 0)] [(80, [.sl false 5 b0_0, .int .i64 b0_1, .int .u64 b0_2])] (zq61.sig.ret r) (zq61.sig.bs r) :=
  good_fn tabOk0 mixed0 zq61.sig (zq61.E N) Go.Proofs.Tryz.func106 (by kernel_rfl) (by kernel_rfl) 9007199254749197 0 1 [(14, [0, 3], [0])] 36328151978361104 false [] [(false, [.any])] (by kernel_rfl) rfl rfl ((zq61.g.run N b0_0 b0_1 b0_2).trans h)
noncomputable def zq61.ent (N : Nat) : Ent Go.Proofs.Tryz.prog T0 := mkEnt 106 [(false, [.any])] zq61.sig (fun t => zq61.g N t.2.1 t.2.2.1 t.2.2.2) (fun t r h => zq61.good N t.2.1 t.2.2.1 t.2.2.2 r h)
end Go.Proofs.YtpeleommbipeaaaGreatDoor.M

namespace Go.Proofs.YtpeleommbipeaaaGreatDoor.M
open Go Go.PM Go.Proofs.YtpeleommbipeaaaGreatDoor.P
set_option linter.unusedVariables false
set_option maxRecDepth 100000
/-! ### zq63 -/
abbrev zq63.R : Type := Int × List Int × Int × Int
abbrev zq63.sig : Sig := ⟨[(false, 1), (false, 1)], [(80, 3)], [.ptr 0 0, .int .i64, .sl false 5, .int .i64, .int .u64], [(false, 1)], [(80, 3)], [.int .i64, .sl false 5, .int .i64, .int .u64]⟩
noncomputable def zq63.C : Cfg D0 := ⟨Go.Proofs.Tryz.prog, T0, 2227, 0, 20, 1, [(30, [1, 5], [0])], 415040, false, []⟩
noncomputable def zq63.E (N : Nat) : List (Ent Go.Proofs.Tryz.prog T0) := [zq61.ent N]
noncomputable def zq63.O (N : Nat) : Orc D0 zq63.R := orcOf (zq63.E N)
noncomputable def zq63.K0 : Ex → St D0 → Option zq63.R := exitK zq63.C Go.Proofs.Tryz.f87.results.toList [(false, [.any])] (decOut zq63.sig)
noncomputable def zq63.c1 : Code := codeAt (Go.Proofs.Tryz.f87.body.getD .skip) []
noncomputable def zq63.c2 : Code := codeAt (Go.Proofs.Tryz.f87.body.getD .skip) [false]
noncomputable def zq63.c6 : Code := codeAt (Go.Proofs.Tryz.f87.body.getD .skip) [true, false]
noncomputable def zq63.c14 : Code := codeAt (Go.Proofs.Tryz.f87.body.getD .skip) [true, true, false]
noncomputable def zq63.c30 : Code := codeAt (Go.Proofs.Tryz.f87.body.getD .skip) [true, true, true, false]
noncomputable def zq63.c31 : Code := codeAt (Go.Proofs.Tryz.f87.body.getD .skip) [true, true, true, true]
noncomputable def zq63.K31 (N : Nat) : Ex → St D0 → Option zq63.R := zq63.K0
noncomputable def zq63.o1 (N : Nat) (v0 : Int) (v1 : Int) (v2 : List Int) (v3 : Int) (v4 : Int) : Option zq63.R :=
 bif (v0 == 0) then
  none
 else
 some ((Int.tmod v1 v0), v2, v3, v4)
theorem zq63.o1.run (N : Nat) (v0 : Int) (v1 : Int) (v2 : List Int) (v3 : Int) (v4 : Int) : runC zq63.C (zq63.O N) N zq63.c31 31 (mkSt [(1, .one (.int .i64 v0)), (5, .one (.int .i64 v1))] [(0, some (80, [.sl false 5 v2, .int .i64 v3, .int .u64 v4]))] : St D0) zq63.K0 = zq63.o1 N v0 v1 v2 v3 v4 := by kernel_rfl
noncomputable def zq63.d1 (N : Nat) (v0 : Int) (v1 : Int) (v2 : List Int) (v3 : Int) (v4 : Int) : Option zq63.R := zq63.o1 N v0 v1 v2 v3 v4
theorem zq63.d1.run (N : Nat) (v0 : Int) (v1 : Int) (v2 : List Int) (v3 : Int) (v4 : Int) : runC zq63.C (zq63.O N) N zq63.c31 31 (mkSt [(1, .one (.int .i64 v0)), (5, .one (.int .i64 v1))] [(0, some (80, [.sl false 5 v2, .int .i64 v3, .int .u64 v4]))] : St D0) (zq63.K31 N) = zq63.d1 N v0 v1 v2 v3 v4 := by
  exact (zq63.o1.run N v0 v1 v2 v3 v4).trans rfl
noncomputable def zq63.o0 (N : Nat) (a1 : Int) (b0_0 : List Int) (b0_1 : Int) (b0_2 : Int) (c1 : Int → Int → (List Int) → Int → Int → Option zq63.R) : Option zq63.R :=
 bif (decide (a1 ≤ 1)) then
  some (0, b0_0, b0_1, b0_2)
 else
 (zq61.g N b0_0 b0_1 b0_2).bind fun r1 =>
 bif (decide (a1 > 200)) then
  (zq61.g N r1.2.1 r1.2.2.1 r1.2.2.2).bind fun r2 =>
  c1 a1 (w64 ((w64 (r1.1 * 256)) + r2.1)) r2.2.1 r2.2.2.1 r2.2.2.2
 else
 c1 a1 r1.1 r1.2.1 r1.2.2.1 r1.2.2.2
theorem zq63.o0.run (N : Nat) (H31 : Code) (a1 : Int) (b0_0 : List Int) (b0_1 : Int) (b0_2 : Int) : runC zq63.C (zq63.O N) N (.seq zq63.c2 (.seq zq63.c6 (.seq zq63.c14 (.seq zq63.c30 H31)))) 1 (st0 [.one (.ptr 0 0), .one (.int .i64 a1)] [(80, [.sl false 5 b0_0, .int .i64 b0_1, .int .u64 b0_2])] : St D0) zq63.K0 = zq63.o0 N a1 b0_0 b0_1 b0_2 ((fun w0 w1 w2 w3 w4 => runC zq63.C (zq63.O N) N H31 31 (mkSt [(1, .one (.int .i64 w0)), (5, .one (.int .i64 w1))] [(0, some (80, [.sl false 5 w2, .int .i64 w3, .int .u64 w4]))] : St D0) zq63.K0)) := by kernel_rfl
noncomputable def zq63.B15 (N : Nat) : St D0 → Option zq63.R := fun s' => runC zq63.C (zq63.O N) N zq63.c31 31 s' (zq63.K31 N)
noncomputable def zq63.g (N : Nat) (a1 : Int) (b0_0 : List Int) (b0_1 : Int) (b0_2 : Int) : Option zq63.R := zq63.o0 N a1 b0_0 b0_1 b0_2 ((fun w0 w1 w2 w3 w4 => zq63.d1 N w0 w1 w2 w3 w4))
theorem zq63.c1_0 : zq63.c1 = (.seq zq63.c2 (.seq zq63.c6 (.seq zq63.c14 (.seq zq63.c30 zq63.c31)))) := by kernel_rfl
theorem zq63.g.run (N : Nat) (a1 : Int) (b0_0 : List Int) (b0_1 : Int) (b0_2 : Int) : runC zq63.C (zq63.O N) N zq63.c1 1 (st0 [.one (.ptr 0 0), .one (.int .i64 a1)] [(80, [.sl false 5 b0_0, .int .i64 b0_1, .int .u64 b0_2])] : St D0) zq63.K0 = zq63.g N a1 b0_0 b0_1 b0_2 := by
  rw [zq63.c1_0]; unfold zq63.g; exact (zq63.o0.run N zq63.c31 a1 b0_0 b0_1 b0_2).trans (congr rfl (funext fun w0 => funext fun w1 => funext fun w2 => funext fun w3 => funext fun w4 => zq63.d1.run N w0 w1 w2 w3 w4))
theorem zq63.good (N : Nat) (a1 : Int) (b0_0 : List Int) (b0_1 : Int) (b0_2 : Int) (r : zq63.R) (h : zq63.g N a1 b0_0 b0_1 b0_2 = some r) : Go.PM.Good Go.Proofs.Tryz.prog T0 87 [.one (.ptr 0 0), .one (.int .i64 a1)] [(80, [.sl false 5 b0_0, .int .i64 b0_1, .int .u64 b0_2])] (zq63.sig.ret r) (zq63.sig.bs r) :=
  good_fn tabOk0 mixed0 zq63.sig (zq63.E N) Go.Proofs.Tryz.func87 (by kernel_rfl) (by kernel_rfl) 2227 0 1 [(30, [1, 5], [0])] 415040 false [] [(false, [.any])] (by kernel_rfl) rfl rfl ((zq63.g.run N a1 b0_0 b0_1 b0_2).trans h)
noncomputable def zq63.ent (N : Nat) : Ent Go.Proofs.Tryz.prog T0 := mkEnt 87 [(false, [.any]), (false, [.any])] zq63.sig (fun t => zq63.g N t.2.1 t.2.2.1 t.2.2.2.1 t.2.2.2.2) (fun t r h => zq63.good N t.2.1 t.2.2.1 t.2.2.2.1 t.2.2.2.2 r h)
end Go.Proofs.YtpeleommbipeaaaGreatDoor.M
