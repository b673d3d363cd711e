/- What the program's functions compute, walked by the machine (part 1). No conditions but those stated. -/
import Derived.Test.YtccjoegnkiaibaaGreatDoorPm3
import Derived.Test.YtccjoegnkiaibaaGreatDoorProg
import Derived.Lib.ItoaNum
import Derived.Lib.LaidTab
import Derived.Test.YtccjoegnkiaibaaGreatDoorShelf
import Derived.Shelf.SlSorted.Search
import Derived.Shelf.Strconv.AtoiAll
noncomputable section
namespace Go.Proofs.YtccjoegnkiaibaaGreatDoor.M
open Go Go.PM
set_option linter.unusedVariables false
set_option maxRecDepth 100000
end Go.Proofs.YtccjoegnkiaibaaGreatDoor.M
namespace Go.Proofs.YtccjoegnkiaibaaGreatDoor.P
structure S25 where
  f0 : Int
  f1 : Int
structure S47 where
  f0 : Int
  f1 : Int
  f2 : Int
end Go.Proofs.YtccjoegnkiaibaaGreatDoor.P
namespace Go.Proofs.YtccjoegnkiaibaaGreatDoor.M
open Go Go.PM Go.Proofs.YtccjoegnkiaibaaGreatDoor.P
abbrev D0 : TypeId → Type
  | 3 => Int
  | 4 => Bool
  | 5 => Int
  | 9 => ByteArray
  | 25 => S25
  | 47 => S47
  | 59 => (List Int)
  | _ => Unit
def glE : Obj → Prop := fun o => ∃ tp p t fr, o = .cells #[.iface tp p] t fr
def glT : Obj → Prop := fun o => ∃ t fr, o = .cells ((Lib.pow10Tab.map fun z => Value.int .u64 z).toArray) t fr
def T0 : Tab D0 where
  size := fun e => match e with
    | 3 => 1
    | 4 => 1
    | 5 => 1
    | 9 => 1
    | 25 => 2
    | 47 => 3
    | 59 => 1
    | _ => 0
  out := fun e x => match e, x with
    | 3, x => [.int .i64 x]
    | 4, x => [.bool x]
    | 5, x => [.int .u8 x]
    | 9, x => [.str x]
    | 25, x => [.int .i64 x.f0, .int .i64 x.f1]
    | 47, x => [.int .i64 x.f0, .int .i64 x.f1, .int .i64 x.f2]
    | 59, x => [.sl false 3 x]
    | _, _ => []
  inn := fun e ls => match e, ls with
    | 3, [.int .i64 x0] => some x0
    | 4, [.bool x0] => some x0
    | 5, [.int .u8 x0] => some x0
    | 9, [.str x0] => some x0
    | 25, [.int .i64 x0, .int .i64 x1] => some ⟨x0, x1⟩
    | 47, [.int .i64 x0, .int .i64 x1, .int .i64 x2] => some ⟨x0, x1, x2⟩
    | 59, [.sl _ e' x0] => if h : e' = 3 then some (cast (congrArg (fun t => List (D0 t)) h) x0) else none
    | _, _ => none
  kd := fun e => match e with
    | 3 => [13]
    | 4 => [1]
    | 5 => [14]
    | 9 => [2]
    | 25 => [13, 13]
    | 47 => [13, 13, 13]
    | 59 => [3]
    | _ => []
  gl := [(1, glE), (2, glE), (3, glT)]
theorem tabOk0 : TabOk T0 where
  out_len := by
    intro e x
    simp only [T0]
    split <;> first | rfl | (split <;> first | rfl | (rename_i h _ _ _ _; exact absurd HEq.rfl (fun h' => h _ rfl h')) | simp_all)
  kd_ok := by
    intro e x
    simp only [T0]
    split <;> first | rfl | (split <;> first | rfl | (rename_i h _ _ _ _; exact absurd HEq.rfl (fun h' => h _ rfl h')) | simp_all)
  inn_ok := by
    intro e ls x h C blk vs hF
    simp only [T0] at h
    split at h <;> first | (cases h; done) | (simp only [Option.some.injEq] at h; subst h; exact tab_inn hF rfl) | (split at h <;> first | (cases h; done) | (rename_i he; simp only [Option.some.injEq] at h; subst h; subst he; exact tab_inn_sl rfl hF))
theorem mixed0 : Tryz.prog.follows .mixedOrders = true := by kernel_rfl
/-! ### variables that never change -/
def GlW (w : World) : Prop := ∀ x ∈ T0.gl, ∃ o, w.heap[x.1]? = some o ∧ x.2 o
theorem GlW.below {w W : World} (h : GlW w) (hb : Go.RowKit.Below w.heap.size w W) : GlW W := fun x hx => by
  obtain ⟨o, h1, h2⟩ := h x hx
  exact ⟨o, (hb.block _ (Array.getElem?_eq_some_iff.1 h1).1).trans h1, h2⟩
theorem GlW.errS {w : World} (h : GlW w) : ∃ tp p, w.cell? ⟨1, 0, none⟩ = some (.iface tp p) := by
  obtain ⟨o, h1, tp, p, t, fr, rfl⟩ := h (1, glE) (List.mem_cons_self ..)
  exact ⟨tp, p, by simpa using World.var?_cell (show Tryz.prog.globalNamed "strconv.ErrSyntax" = some 1 by kernel_rfl) (var_blk (by kernel_rfl) h1) 0⟩
theorem GlW.errR {w : World} (h : GlW w) : ∃ tp p, w.cell? ⟨2, 0, none⟩ = some (.iface tp p) := by
  obtain ⟨o, h1, tp, p, t, fr, rfl⟩ := h (2, glE) (List.mem_cons_of_mem _ (List.mem_cons_self ..))
  exact ⟨tp, p, by simpa using World.var?_cell (show Tryz.prog.globalNamed "strconv.ErrRange" = some 2 by kernel_rfl) (var_blk (by kernel_rfl) h1) 0⟩
theorem GlW.tab {w : World} (h : GlW w) : Lib.TabIs Tryz.prog w "internal/strconv.uint64pow10" .u64 Lib.pow10Tab := by
  obtain ⟨o, h1, t, fr, rfl⟩ := h (3, glT) (List.mem_cons_of_mem _ (List.mem_cons_of_mem _ (List.mem_cons_self ..)))
  exact var_blk (by kernel_rfl) h1
theorem GlW.of {w : World} {tp p tp' p'} (h1 : w.var? Tryz.prog "strconv.ErrSyntax" = some #[.iface tp p]) (h2 : w.var? Tryz.prog "strconv.ErrRange" = some #[.iface tp' p'])
    (h3 : Lib.TabIs Tryz.prog w "internal/strconv.uint64pow10" .u64 Lib.pow10Tab) : GlW w := by
  intro x hx
  obtain ⟨t1, f1, e1⟩ := blk_var (g := 1) (by kernel_rfl) h1
  obtain ⟨t2, f2, e2⟩ := blk_var (g := 2) (by kernel_rfl) h2
  obtain ⟨t3, f3, e3⟩ := blk_var (g := 3) (by kernel_rfl) h3
  have hx : x ∈ [(1, glE), (2, glE), (3, glT)] := hx
  simp only [List.mem_cons, List.not_mem_nil, or_false] at hx
  rcases hx with rfl | rfl | rfl
  · exact ⟨_, e1, tp, p, t1, f1, rfl⟩
  · exact ⟨_, e2, tp', p', t2, f2, rfl⟩
  · exact ⟨_, e3, t3, f3, rfl⟩

end Go.Proofs.YtccjoegnkiaibaaGreatDoor.M
namespace Go.Proofs.YtccjoegnkiaibaaGreatDoor.M
open Go Go.PM Go.Proofs.YtccjoegnkiaibaaGreatDoor.P
set_option linter.unusedVariables false
set_option maxRecDepth 100000
/-! ### zq31 -/
abbrev zq31.R : Type := Bool
abbrev zq31.sig : Sig := ⟨[(false, 1), (false, 1), (false, 1)], [], [.int .i64, .int .i64, .int .i64], [(false, 1)], [], [.bool]⟩
def zq31.C : Cfg D0 := ⟨Tryz.prog, T0, 71, 0, 15, 0, [], 6528, false, []⟩
def zq31.E (N : Nat) : List (Ent Tryz.prog T0) := []
def zq31.O (N : Nat) : Orc D0 zq31.R := orcOf (zq31.E N)
def zq31.K0 : Ex → St D0 → Option zq31.R := exitK zq31.C Tryz.f81.results.toList [(false, [.any])] (decOut zq31.sig)
def zq31.c1 : Code := codeAt (Tryz.f81.body.getD .skip) []
def zq31.o0 (N : Nat) (a0 : Int) (a1 : Int) (a2 : Int) : Option zq31.R :=
 bif (decide (a0 ≥ a1)) then
  some ((decide (a0 ≤ a2)))
 else
 some (false)
theorem zq31.o0.run (N : Nat) (a0 : Int) (a1 : Int) (a2 : Int) : runC zq31.C (zq31.O N) N zq31.c1 1 (st0 [.one (.int .i64 a0), .one (.int .i64 a1), .one (.int .i64 a2)] [] : St D0) zq31.K0 = zq31.o0 N a0 a1 a2 := by kernel_rfl
def zq31.g (N : Nat) (a0 : Int) (a1 : Int) (a2 : Int) : Option zq31.R := zq31.o0 N a0 a1 a2
theorem zq31.g.run (N : Nat) (a0 : Int) (a1 : Int) (a2 : Int) : runC zq31.C (zq31.O N) N zq31.c1 1 (st0 [.one (.int .i64 a0), .one (.int .i64 a1), .one (.int .i64 a2)] [] : St D0) zq31.K0 = zq31.g N a0 a1 a2 := by
  exact (zq31.o0.run N a0 a1 a2).trans rfl
theorem zq31.good (N : Nat) (a0 : Int) (a1 : Int) (a2 : Int) (r : zq31.R) (h : zq31.g N a0 a1 a2 = some r) : Go.PM.Good Tryz.prog T0 81 [.one (.int .i64 a0), .one (.int .i64 a1), .one (.int .i64 a2)] [] (zq31.sig.ret r) (zq31.sig.bs r) :=
  good_fn tabOk0 mixed0 zq31.sig (zq31.E N) Tryz.func81 (by kernel_rfl) (by kernel_rfl) 71 0 0 [] 6528 false [] [(false, [.any])] (by kernel_rfl) rfl rfl ((zq31.g.run N a0 a1 a2).trans h)
def zq31.ent (N : Nat) : Ent Tryz.prog T0 := mkEnt 81 [(false, [.any]), (false, [.any]), (false, [.any])] zq31.sig (fun t => zq31.g N t.1 t.2.1 t.2.2) (fun t r h => zq31.good N t.1 t.2.1 t.2.2 r h)
/-! ### zq24 -/
abbrev zq24.R : Type := Bool
abbrev zq24.sig : Sig := ⟨[(false, 1)], [], [.int .i64], [(false, 1)], [], [.bool]⟩
def zq24.C : Cfg D0 := ⟨Tryz.prog, T0, 5, 0, 5, 0, [], 8, false, []⟩
def zq24.E (N : Nat) : List (Ent Tryz.prog T0) := [zq31.ent N]
def zq24.O (N : Nat) : Orc D0 zq24.R := orcOf (zq24.E N)
def zq24.K0 : Ex → St D0 → Option zq24.R := exitK zq24.C Tryz.f77.results.toList [(false, [.any])] (decOut zq24.sig)
def zq24.c1 : Code := codeAt (Tryz.f77.body.getD .skip) []
def zq24.o0 (N : Nat) (a0 : Int) : Option zq24.R :=
 (zq31.g N a0 2 24).bind fun r1 =>
 some (r1)
theorem zq24.o0.run (N : Nat) (a0 : Int) : runC zq24.C (zq24.O N) N zq24.c1 1 (st0 [.one (.int .i64 a0)] [] : St D0) zq24.K0 = zq24.o0 N a0 := by kernel_rfl
def zq24.g (N : Nat) (a0 : Int) : Option zq24.R := zq24.o0 N a0
theorem zq24.g.run (N : Nat) (a0 : Int) : runC zq24.C (zq24.O N) N zq24.c1 1 (st0 [.one (.int .i64 a0)] [] : St D0) zq24.K0 = zq24.g N a0 := by
  exact (zq24.o0.run N a0).trans rfl
theorem zq24.good (N : Nat) (a0 : Int) (r : zq24.R) (h : zq24.g N a0 = some r) : Go.PM.Good Tryz.prog T0 77 [.one (.int .i64 a0)] [] (zq24.sig.ret r) (zq24.sig.bs r) :=
  good_fn tabOk0 mixed0 zq24.sig (zq24.E N) Tryz.func77 (by kernel_rfl) (by kernel_rfl) 5 0 0 [] 8 false [] [(false, [.any])] (by kernel_rfl) rfl rfl ((zq24.g.run N a0).trans h)
def zq24.ent (N : Nat) : Ent Tryz.prog T0 := mkEnt 77 [(false, [.any])] zq24.sig (fun t => zq24.g N t) (fun t r h => zq24.good N t r h)
/-! ### zq71 -/
abbrev zq71.R : Type := Bool
abbrev zq71.sig : Sig := ⟨[(false, 1), (false, 1), (false, 1)], [], [.int .i64, .int .i64, .int .i64], [(false, 1)], [], [.bool]⟩
def zq71.C : Cfg D0 := ⟨Tryz.prog, T0, 71, 0, 15, 0, [], 6528, false, []⟩
def zq71.E (N : Nat) : List (Ent Tryz.prog T0) := []
def zq71.O (N : Nat) : Orc D0 zq71.R := orcOf (zq71.E N)
def zq71.K0 : Ex → St D0 → Option zq71.R := exitK zq71.C Tryz.f84.results.toList [(false, [.any])] (decOut zq71.sig)
def zq71.c1 : Code := codeAt (Tryz.f84.body.getD .skip) []
def zq71.o0 (N : Nat) (a0 : Int) (a1 : Int) (a2 : Int) : Option zq71.R :=
 bif (decide (a0 ≥ a1)) then
  some ((decide (a0 ≤ a2)))
 else
 some (false)
theorem zq71.o0.run (N : Nat) (a0 : Int) (a1 : Int) (a2 : Int) : runC zq71.C (zq71.O N) N zq71.c1 1 (st0 [.one (.int .i64 a0), .one (.int .i64 a1), .one (.int .i64 a2)] [] : St D0) zq71.K0 = zq71.o0 N a0 a1 a2 := by kernel_rfl
def zq71.g (N : Nat) (a0 : Int) (a1 : Int) (a2 : Int) : Option zq71.R := zq71.o0 N a0 a1 a2
theorem zq71.g.run (N : Nat) (a0 : Int) (a1 : Int) (a2 : Int) : runC zq71.C (zq71.O N) N zq71.c1 1 (st0 [.one (.int .i64 a0), .one (.int .i64 a1), .one (.int .i64 a2)] [] : St D0) zq71.K0 = zq71.g N a0 a1 a2 := by
  exact (zq71.o0.run N a0 a1 a2).trans rfl
theorem zq71.good (N : Nat) (a0 : Int) (a1 : Int) (a2 : Int) (r : zq71.R) (h : zq71.g N a0 a1 a2 = some r) : Go.PM.Good Tryz.prog T0 84 [.one (.int .i64 a0), .one (.int .i64 a1), .one (.int .i64 a2)] [] (zq71.sig.ret r) (zq71.sig.bs r) :=
  good_fn tabOk0 mixed0 zq71.sig (zq71.E N) Tryz.func84 (by kernel_rfl) (by kernel_rfl) 71 0 0 [] 6528 false [] [(false, [.any])] (by kernel_rfl) rfl rfl ((zq71.g.run N a0 a1 a2).trans h)
def zq71.ent (N : Nat) : Ent Tryz.prog T0 := mkEnt 84 [(false, [.any]), (false, [.any]), (false, [.any])] zq71.sig (fun t => zq71.g N t.1 t.2.1 t.2.2) (fun t r h => zq71.good N t.1 t.2.1 t.2.2 r h)
/-! ### zq55 -/
abbrev zq55.R : Type := Bool
abbrev zq55.sig : Sig := ⟨[(false, 1)], [], [.int .i64], [(false, 1)], [], [.bool]⟩
def zq55.C : Cfg D0 := ⟨Tryz.prog, T0, 5, 0, 5, 0, [], 8, false, []⟩
def zq55.E (N : Nat) : List (Ent Tryz.prog T0) := [zq71.ent N]
def zq55.O (N : Nat) : Orc D0 zq55.R := orcOf (zq55.E N)
def zq55.K0 : Ex → St D0 → Option zq55.R := exitK zq55.C Tryz.f83.results.toList [(false, [.any])] (decOut zq55.sig)
def zq55.c1 : Code := codeAt (Tryz.f83.body.getD .skip) []
def zq55.o0 (N : Nat) (a0 : Int) : Option zq55.R :=
 (zq71.g N a0 2 24).bind fun r1 =>
 some (r1)
theorem zq55.o0.run (N : Nat) (a0 : Int) : runC zq55.C (zq55.O N) N zq55.c1 1 (st0 [.one (.int .i64 a0)] [] : St D0) zq55.K0 = zq55.o0 N a0 := by kernel_rfl
def zq55.g (N : Nat) (a0 : Int) : Option zq55.R := zq55.o0 N a0
theorem zq55.g.run (N : Nat) (a0 : Int) : runC zq55.C (zq55.O N) N zq55.c1 1 (st0 [.one (.int .i64 a0)] [] : St D0) zq55.K0 = zq55.g N a0 := by
  exact (zq55.o0.run N a0).trans rfl
theorem zq55.good (N : Nat) (a0 : Int) (r : zq55.R) (h : zq55.g N a0 = some r) : Go.PM.Good Tryz.prog T0 83 [.one (.int .i64 a0)] [] (zq55.sig.ret r) (zq55.sig.bs r) :=
  good_fn tabOk0 mixed0 zq55.sig (zq55.E N) Tryz.func83 (by kernel_rfl) (by kernel_rfl) 5 0 0 [] 8 false [] [(false, [.any])] (by kernel_rfl) rfl rfl ((zq55.g.run N a0).trans h)
def zq55.ent (N : Nat) : Ent Tryz.prog T0 := mkEnt 83 [(false, [.any])] zq55.sig (fun t => zq55.g N t) (fun t r h => zq55.good N t r h)
/-! ### zq76 -/
abbrev zq76.R : Type := List ByteArray
abbrev zq76.sig : Sig := ⟨[(false, 1), (false, 1)], [], [.str, .int .u8], [(false, 1)], [], [.sl true 9]⟩
def zq76.C : Cfg D0 := ⟨Tryz.prog, T0, 264435, 0, 34, 0, [(122, [0, 1, 5, 6, 7], []), (978, [0, 1, 5, 6, 7], [])], 1685246720, false, []⟩
def zq76.E (N : Nat) : List (Ent Tryz.prog T0) := []
def zq76.O (N : Nat) : Orc D0 zq76.R := orcOf (zq76.E N)
def zq76.K0 : Ex → St D0 → Option zq76.R := exitK zq76.C Tryz.f118.results.toList [(false, [.own 9])] (decOut zq76.sig)
def zq76.c1 : Code := codeAt (Tryz.f118.body.getD .skip) []
def zq76.c2 : Code := codeAt (Tryz.f118.body.getD .skip) [false]
def zq76.c6 : Code := codeAt (Tryz.f118.body.getD .skip) [true, false]
def zq76.c14 : Code := codeAt (Tryz.f118.body.getD .skip) [true, true, false]
def zq76.c31 : Code := codeAt (Tryz.f118.body.getD .skip) [true, true, true, true]
def zq76.c60 : Code := codeAt (Tryz.f118.body.getD .skip) [true, true, true, false, false]
def zq76.c244 : Code := codeAt (Tryz.f118.body.getD .skip) [true, true, true, false, true, false, false]
def zq76.c488 : Code := codeAt (Tryz.f118.body.getD .skip) [true, true, true, false, true, false, false, false]
def zq76.c978 : Code := codeAt (Tryz.f118.body.getD .skip) [true, true, true, false, true, false, false, true, false]
def zq76.c979 : Code := codeAt (Tryz.f118.body.getD .skip) [true, true, true, false, true, false, false, true, true]
def zq76.K979 (N : Nat) (Kn122 : St D0 → Option zq76.R) : Ex → St D0 → Option zq76.R := ((fun up => (onN (fun s => zq76.C.tidy 122 s ((onN Kn122 up) .normal)) (onN Kn122 up))) (blockK 0 (onN (fun s => zq76.C.tidy 30 s (fun s' => runC zq76.C (zq76.O N) N zq76.c31 31 s' zq76.K0)) zq76.K0)))
def zq76.o2 (N : Nat) (v0 : ByteArray) (v1 : Int) (v2 : List ByteArray) (v3 : Int) (v4 : Int) (c4 : ByteArray → Int → (List ByteArray) → Int → Int → Option zq76.R) : Option zq76.R :=
 c4 v0 v1 v2 v3 (w64 (v4 + 1))
theorem zq76.o2.run (N : Nat) (Kn122 : St D0 → Option zq76.R) (v0 : ByteArray) (v1 : Int) (v2 : List ByteArray) (v3 : Int) (v4 : Int) : runC zq76.C (zq76.O N) N zq76.c979 979 (mkSt [(0, .one (.str v0)), (1, .one (.int .u8 v1)), (5, .one (.sl true 9 v2)), (6, .one (.int .i64 v3)), (7, .one (.int .i64 v4))] [] : St D0) ((fun up => (onN (fun s => zq76.C.tidy 122 s ((onN Kn122 up) .normal)) (onN Kn122 up))) (blockK 0 (onN (fun s => zq76.C.tidy 30 s (fun s' => runC zq76.C (zq76.O N) N zq76.c31 31 s' zq76.K0)) zq76.K0))) = zq76.o2 N v0 v1 v2 v3 v4 ((fun w0 w1 w2 w3 w4 => Kn122 (mkSt [(0, .one (.str w0)), (1, .one (.int .u8 w1)), (5, .one (.sl true 9 w2)), (6, .one (.int .i64 w3)), (7, .one (.int .i64 w4))] [] : St D0))) := by kernel_rfl
def zq76.d2 (N : Nat) (v0 : ByteArray) (v1 : Int) (v2 : List ByteArray) (v3 : Int) (v4 : Int) (c4 : ByteArray → Int → (List ByteArray) → Int → Int → Option zq76.R) : Option zq76.R := zq76.o2 N v0 v1 v2 v3 v4 c4
theorem zq76.d2.run (N : Nat) (Kn122 : St D0 → Option zq76.R) (v0 : ByteArray) (v1 : Int) (v2 : List ByteArray) (v3 : Int) (v4 : Int) : runC zq76.C (zq76.O N) N zq76.c979 979 (mkSt [(0, .one (.str v0)), (1, .one (.int .u8 v1)), (5, .one (.sl true 9 v2)), (6, .one (.int .i64 v3)), (7, .one (.int .i64 v4))] [] : St D0) (zq76.K979 N Kn122) = zq76.d2 N v0 v1 v2 v3 v4 ((fun w0 w1 w2 w3 w4 => Kn122 (mkSt [(0, .one (.str w0)), (1, .one (.int .u8 w1)), (5, .one (.sl true 9 w2)), (6, .one (.int .i64 w3)), (7, .one (.int .i64 w4))] [] : St D0))) := by
  exact (zq76.o2.run N Kn122 v0 v1 v2 v3 v4).trans rfl
def zq76.o3 (N : Nat) (v0 : ByteArray) (v1 : Int) (v2 : Int) (v3 : Int) (c1 : ByteArray → Int → Int → Int → Option zq76.R) : Option zq76.R :=
 c1 v0 v1 v2 (w64 (v3 + 1))
theorem zq76.o3.run (N : Nat) (Kn122 : St D0 → Option zq76.R) (v0 : ByteArray) (v1 : Int) (v2 : Int) (v3 : Int) : runC zq76.C (zq76.O N) N zq76.c979 979 (mkSt [(0, .one (.str v0)), (1, .one (.int .u8 v1)), (5, .one (.nl)), (6, .one (.int .i64 v2)), (7, .one (.int .i64 v3))] [] : St D0) ((fun up => (onN (fun s => zq76.C.tidy 122 s ((onN Kn122 up) .normal)) (onN Kn122 up))) (blockK 0 (onN (fun s => zq76.C.tidy 30 s (fun s' => runC zq76.C (zq76.O N) N zq76.c31 31 s' zq76.K0)) zq76.K0))) = zq76.o3 N v0 v1 v2 v3 ((fun w0 w1 w2 w3 => Kn122 (mkSt [(0, .one (.str w0)), (1, .one (.int .u8 w1)), (5, .one (.nl)), (6, .one (.int .i64 w2)), (7, .one (.int .i64 w3))] [] : St D0))) := by kernel_rfl
def zq76.d3 (N : Nat) (v0 : ByteArray) (v1 : Int) (v2 : Int) (v3 : Int) (c1 : ByteArray → Int → Int → Int → Option zq76.R) : Option zq76.R := zq76.o3 N v0 v1 v2 v3 c1
theorem zq76.d3.run (N : Nat) (Kn122 : St D0 → Option zq76.R) (v0 : ByteArray) (v1 : Int) (v2 : Int) (v3 : Int) : runC zq76.C (zq76.O N) N zq76.c979 979 (mkSt [(0, .one (.str v0)), (1, .one (.int .u8 v1)), (5, .one (.nl)), (6, .one (.int .i64 v2)), (7, .one (.int .i64 v3))] [] : St D0) (zq76.K979 N Kn122) = zq76.d3 N v0 v1 v2 v3 ((fun w0 w1 w2 w3 => Kn122 (mkSt [(0, .one (.str w0)), (1, .one (.int .u8 w1)), (5, .one (.nl)), (6, .one (.int .i64 w2)), (7, .one (.int .i64 w3))] [] : St D0))) := by
  exact (zq76.o3.run N Kn122 v0 v1 v2 v3).trans rfl
def zq76.K244 (N : Nat) (Kn122 : St D0 → Option zq76.R) : Ex → St D0 → Option zq76.R := ((fun up => (onN (fun s => zq76.C.tidy 122 s ((onN Kn122 up) .normal)) (onN Kn122 up))) (blockK 0 (onN (fun s => zq76.C.tidy 30 s (fun s' => runC zq76.C (zq76.O N) N zq76.c31 31 s' zq76.K0)) zq76.K0)))
def zq76.o1 (N : Nat) (v0 : ByteArray) (v1 : Int) (v2 : Int) (v3 : Int) (c2 : ByteArray → Int → (List ByteArray) → Int → Int → Option zq76.R) (c3 : ByteArray → Int → Int → Int → Option zq76.R) : Option zq76.R :=
 bif (decide (v3 < (v0.size : Int))) then
  bif (decide (0 ≤ v3)) then
   bif (decide (v3 < (v0.size : Int))) then
    bif ((bt v0 v3) == v1) then
     bif (decide (0 ≤ v3)) then
      bif (decide (v3 ≤ (v0.size : Int))) then
       bif (decide (0 ≤ v2)) then
        bif (decide (v2 ≤ v3)) then
         bif (Nat.blt (([] : List ByteArray).length + ([(v0.extract (v2 : Int).toNat (v3 : Int).toNat)] : List ByteArray).length) 8796093022208) then
          c2 v0 v1 (([] : List ByteArray) ++ ([(v0.extract (v2 : Int).toNat (v3 : Int).toNat)] : List ByteArray)) (w64 (v3 + 1)) v3
         else
         none
        else
        none
       else
       none
      else
      none
     else
     none
    else
    c3 v0 v1 v2 v3
   else
   none
  else
  none
 else
 bif (decide (0 ≤ (v0.size : Int))) then
  bif (decide ((v0.size : Int) ≤ (v0.size : Int))) then
   bif (decide (0 ≤ v2)) then
    bif (decide (v2 ≤ (v0.size : Int))) then
     bif (Nat.blt (([] : List ByteArray).length + ([(v0.extract (v2 : Int).toNat ((v0.size : Int) : Int).toNat)] : List ByteArray).length) 8796093022208) then
      some ((([] : List ByteArray) ++ ([(v0.extract (v2 : Int).toNat ((v0.size : Int) : Int).toNat)] : List ByteArray)))
     else
     none
    else
    none
   else
   none
  else
  none
 else
 none
theorem zq76.o1.run (N : Nat) (Kn122 : St D0 → Option zq76.R) (H979 : Code) (v0 : ByteArray) (v1 : Int) (v2 : Int) (v3 : Int) : runC zq76.C (zq76.O N) N (.seq zq76.c488 (.seq zq76.c978 H979)) 244 (mkSt [(0, .one (.str v0)), (1, .one (.int .u8 v1)), (5, .one (.nl)), (6, .one (.int .i64 v2)), (7, .one (.int .i64 v3))] [] : St D0) ((fun up => (onN (fun s => zq76.C.tidy 122 s ((onN Kn122 up) .normal)) (onN Kn122 up))) (blockK 0 (onN (fun s => zq76.C.tidy 30 s (fun s' => runC zq76.C (zq76.O N) N zq76.c31 31 s' zq76.K0)) zq76.K0))) = zq76.o1 N v0 v1 v2 v3 ((fun w0 w1 w2 w3 w4 => runC zq76.C (zq76.O N) N H979 979 (mkSt [(0, .one (.str w0)), (1, .one (.int .u8 w1)), (5, .one (.sl true 9 w2)), (6, .one (.int .i64 w3)), (7, .one (.int .i64 w4))] [] : St D0) ((fun up => (onN (fun s => zq76.C.tidy 122 s ((onN Kn122 up) .normal)) (onN Kn122 up))) (blockK 0 (onN (fun s => zq76.C.tidy 30 s (fun s' => runC zq76.C (zq76.O N) N zq76.c31 31 s' zq76.K0)) zq76.K0))))) ((fun w0 w1 w2 w3 => runC zq76.C (zq76.O N) N H979 979 (mkSt [(0, .one (.str w0)), (1, .one (.int .u8 w1)), (5, .one (.nl)), (6, .one (.int .i64 w2)), (7, .one (.int .i64 w3))] [] : St D0) ((fun up => (onN (fun s => zq76.C.tidy 122 s ((onN Kn122 up) .normal)) (onN Kn122 up))) (blockK 0 (onN (fun s => zq76.C.tidy 30 s (fun s' => runC zq76.C (zq76.O N) N zq76.c31 31 s' zq76.K0)) zq76.K0))))) := by kernel_rfl
def zq76.B489 (N : Nat) (Kn122 : St D0 → Option zq76.R) : St D0 → Option zq76.R := fun s' => runC zq76.C (zq76.O N) N zq76.c979 979 s' (zq76.K979 N Kn122)
def zq76.d1 (N : Nat) (v0 : ByteArray) (v1 : Int) (v2 : Int) (v3 : Int) (c1 : ByteArray → Int → Int → Int → Option zq76.R) (c4 : ByteArray → Int → (List ByteArray) → Int → Int → Option zq76.R) : Option zq76.R := zq76.o1 N v0 v1 v2 v3 ((fun w0 w1 w2 w3 w4 => zq76.d2 N w0 w1 w2 w3 w4 c4)) ((fun w0 w1 w2 w3 => zq76.d3 N w0 w1 w2 w3 c1))
theorem zq76.c244_1 : zq76.c244 = (.seq zq76.c488 (.seq zq76.c978 zq76.c979)) := by kernel_rfl
theorem zq76.d1.run (N : Nat) (Kn122 : St D0 → Option zq76.R) (v0 : ByteArray) (v1 : Int) (v2 : Int) (v3 : Int) : runC zq76.C (zq76.O N) N zq76.c244 244 (mkSt [(0, .one (.str v0)), (1, .one (.int .u8 v1)), (5, .one (.nl)), (6, .one (.int .i64 v2)), (7, .one (.int .i64 v3))] [] : St D0) (zq76.K244 N Kn122) = zq76.d1 N v0 v1 v2 v3 ((fun w0 w1 w2 w3 => Kn122 (mkSt [(0, .one (.str w0)), (1, .one (.int .u8 w1)), (5, .one (.nl)), (6, .one (.int .i64 w2)), (7, .one (.int .i64 w3))] [] : St D0))) ((fun w0 w1 w2 w3 w4 => Kn122 (mkSt [(0, .one (.str w0)), (1, .one (.int .u8 w1)), (5, .one (.sl true 9 w2)), (6, .one (.int .i64 w3)), (7, .one (.int .i64 w4))] [] : St D0))) := by
  rw [zq76.c244_1]; unfold zq76.d1; exact (zq76.o1.run N Kn122 zq76.c979 v0 v1 v2 v3).trans (congr (congr rfl (funext fun w0 => funext fun w1 => funext fun w2 => funext fun w3 => funext fun w4 => zq76.d2.run N Kn122 w0 w1 w2 w3 w4)) (funext fun w0 => funext fun w1 => funext fun w2 => funext fun w3 => zq76.d3.run N Kn122 w0 w1 w2 w3))
def zq76.o4 (N : Nat) (v0 : ByteArray) (v1 : Int) (v2 : List ByteArray) (v3 : Int) (v4 : Int) (c2 : ByteArray → Int → (List ByteArray) → Int → Int → Option zq76.R) : Option zq76.R :=
 bif (decide (v4 < (v0.size : Int))) then
  bif (decide (0 ≤ v4)) then
   bif (decide (v4 < (v0.size : Int))) then
    bif ((bt v0 v4) == v1) then
     bif (decide (0 ≤ v4)) then
      bif (decide (v4 ≤ (v0.size : Int))) then
       bif (decide (0 ≤ v3)) then
        bif (decide (v3 ≤ v4)) then
         bif (Nat.blt (v2.length + ([(v0.extract (v3 : Int).toNat (v4 : Int).toNat)] : List ByteArray).length) 8796093022208) then
          c2 v0 v1 (v2 ++ ([(v0.extract (v3 : Int).toNat (v4 : Int).toNat)] : List ByteArray)) (w64 (v4 + 1)) v4
         else
         none
        else
        none
       else
       none
      else
      none
     else
     none
    else
    c2 v0 v1 v2 v3 v4
   else
   none
  else
  none
 else
 bif (decide (0 ≤ (v0.size : Int))) then
  bif (decide ((v0.size : Int) ≤ (v0.size : Int))) then
   bif (decide (0 ≤ v3)) then
    bif (decide (v3 ≤ (v0.size : Int))) then
     bif (Nat.blt (v2.length + ([(v0.extract (v3 : Int).toNat ((v0.size : Int) : Int).toNat)] : List ByteArray).length) 8796093022208) then
      some ((v2 ++ ([(v0.extract (v3 : Int).toNat ((v0.size : Int) : Int).toNat)] : List ByteArray)))
     else
     none
    else
    none
   else
   none
  else
  none
 else
 none
theorem zq76.o4.run (N : Nat) (Kn122 : St D0 → Option zq76.R) (H979 : Code) (v0 : ByteArray) (v1 : Int) (v2 : List ByteArray) (v3 : Int) (v4 : Int) : runC zq76.C (zq76.O N) N (.seq zq76.c488 (.seq zq76.c978 H979)) 244 (mkSt [(0, .one (.str v0)), (1, .one (.int .u8 v1)), (5, .one (.sl true 9 v2)), (6, .one (.int .i64 v3)), (7, .one (.int .i64 v4))] [] : St D0) ((fun up => (onN (fun s => zq76.C.tidy 122 s ((onN Kn122 up) .normal)) (onN Kn122 up))) (blockK 0 (onN (fun s => zq76.C.tidy 30 s (fun s' => runC zq76.C (zq76.O N) N zq76.c31 31 s' zq76.K0)) zq76.K0))) = zq76.o4 N v0 v1 v2 v3 v4 ((fun w0 w1 w2 w3 w4 => runC zq76.C (zq76.O N) N H979 979 (mkSt [(0, .one (.str w0)), (1, .one (.int .u8 w1)), (5, .one (.sl true 9 w2)), (6, .one (.int .i64 w3)), (7, .one (.int .i64 w4))] [] : St D0) ((fun up => (onN (fun s => zq76.C.tidy 122 s ((onN Kn122 up) .normal)) (onN Kn122 up))) (blockK 0 (onN (fun s => zq76.C.tidy 30 s (fun s' => runC zq76.C (zq76.O N) N zq76.c31 31 s' zq76.K0)) zq76.K0))))) := by kernel_rfl
def zq76.d4 (N : Nat) (v0 : ByteArray) (v1 : Int) (v2 : List ByteArray) (v3 : Int) (v4 : Int) (c4 : ByteArray → Int → (List ByteArray) → Int → Int → Option zq76.R) : Option zq76.R := zq76.o4 N v0 v1 v2 v3 v4 ((fun w0 w1 w2 w3 w4 => zq76.d2 N w0 w1 w2 w3 w4 c4))
theorem zq76.c244_4 : zq76.c244 = (.seq zq76.c488 (.seq zq76.c978 zq76.c979)) := by kernel_rfl
theorem zq76.d4.run (N : Nat) (Kn122 : St D0 → Option zq76.R) (v0 : ByteArray) (v1 : Int) (v2 : List ByteArray) (v3 : Int) (v4 : Int) : runC zq76.C (zq76.O N) N zq76.c244 244 (mkSt [(0, .one (.str v0)), (1, .one (.int .u8 v1)), (5, .one (.sl true 9 v2)), (6, .one (.int .i64 v3)), (7, .one (.int .i64 v4))] [] : St D0) (zq76.K244 N Kn122) = zq76.d4 N v0 v1 v2 v3 v4 ((fun w0 w1 w2 w3 w4 => Kn122 (mkSt [(0, .one (.str w0)), (1, .one (.int .u8 w1)), (5, .one (.sl true 9 w2)), (6, .one (.int .i64 w3)), (7, .one (.int .i64 w4))] [] : St D0))) := by
  rw [zq76.c244_4]; unfold zq76.d4; exact (zq76.o4.run N Kn122 zq76.c979 v0 v1 v2 v3 v4).trans (congr rfl (funext fun w0 => funext fun w1 => funext fun w2 => funext fun w3 => funext fun w4 => zq76.d2.run N Kn122 w0 w1 w2 w3 w4))
def zq76.K122 (N : Nat) : Ex → St D0 → Option zq76.R := (blockK 0 (onN (fun s => zq76.C.tidy 30 s (fun s' => runC zq76.C (zq76.O N) N zq76.c31 31 s' zq76.K0)) zq76.K0))
mutual
def zq76.l1 (N : Nat) : Nat → ByteArray → Int → Int → Int → Option zq76.R
  | 0, _, _, _, _ => none
  | n + 1, v0, v1, v2, v3 => zq76.d1 N v0 v1 v2 v3 ((fun w0 w1 w2 w3 => zq76.l1 N n w0 w1 w2 w3)) ((fun w0 w1 w2 w3 w4 => zq76.l4 N n w0 w1 w2 w3 w4))
def zq76.l4 (N : Nat) : Nat → ByteArray → Int → (List ByteArray) → Int → Int → Option zq76.R
  | 0, _, _, _, _, _ => none
  | n + 1, v0, v1, v2, v3, v4 => zq76.d4 N v0 v1 v2 v3 v4 ((fun w0 w1 w2 w3 w4 => zq76.l4 N n w0 w1 w2 w3 w4))
end
theorem zq76.loop122 (N : Nat) : ∀ n, (∀ (v0 : ByteArray) (v1 : Int) (v2 : Int) (v3 : Int), iter (loopF zq76.C (zq76.O N) N zq76.c244 122) n (mkSt [(0, .one (.str v0)), (1, .one (.int .u8 v1)), (5, .one (.nl)), (6, .one (.int .i64 v2)), (7, .one (.int .i64 v3))] [] : St D0) (zq76.K122 N) = zq76.l1 N n v0 v1 v2 v3) ∧ (∀ (v0 : ByteArray) (v1 : Int) (v2 : List ByteArray) (v3 : Int) (v4 : Int), iter (loopF zq76.C (zq76.O N) N zq76.c244 122) n (mkSt [(0, .one (.str v0)), (1, .one (.int .u8 v1)), (5, .one (.sl true 9 v2)), (6, .one (.int .i64 v3)), (7, .one (.int .i64 v4))] [] : St D0) (zq76.K122 N) = zq76.l4 N n v0 v1 v2 v3 v4)
  | 0 => ⟨(fun v0 v1 v2 v3 => rfl), (fun v0 v1 v2 v3 v4 => rfl)⟩
  | n + 1 => ⟨(fun v0 v1 v2 v3 => (zq76.d1.run N (fun s => iter (loopF zq76.C (zq76.O N) N zq76.c244 122) n s (zq76.K122 N)) v0 v1 v2 v3).trans (show _ = zq76.d1 N v0 v1 v2 v3 ((fun w0 w1 w2 w3 => zq76.l1 N n w0 w1 w2 w3)) ((fun w0 w1 w2 w3 w4 => zq76.l4 N n w0 w1 w2 w3 w4)) from (congr (congr rfl (funext fun w0 => funext fun w1 => funext fun w2 => funext fun w3 => (zq76.loop122 N n).1 w0 w1 w2 w3)) (funext fun w0 => funext fun w1 => funext fun w2 => funext fun w3 => funext fun w4 => (zq76.loop122 N n).2 w0 w1 w2 w3 w4)))), (fun v0 v1 v2 v3 v4 => (zq76.d4.run N (fun s => iter (loopF zq76.C (zq76.O N) N zq76.c244 122) n s (zq76.K122 N)) v0 v1 v2 v3 v4).trans (show _ = zq76.d4 N v0 v1 v2 v3 v4 ((fun w0 w1 w2 w3 w4 => zq76.l4 N n w0 w1 w2 w3 w4)) from (congr rfl (funext fun w0 => funext fun w1 => funext fun w2 => funext fun w3 => funext fun w4 => (zq76.loop122 N n).2 w0 w1 w2 w3 w4))))⟩
def zq76.o0 (N : Nat) (a0 : ByteArray) (a1 : Int) (c1 : ByteArray → Int → Int → Int → Option zq76.R) : Option zq76.R :=
 c1 a0 a1 0 0
theorem zq76.o0.run (N : Nat) (H244 : Code) (a0 : ByteArray) (a1 : Int) : runC zq76.C (zq76.O N) N (.seq zq76.c2 (.seq zq76.c6 (.seq zq76.c14 (.seq (.seq zq76.c60 (.block 0 (.loop H244))) zq76.c31)))) 1 (st0 [.one (.str a0), .one (.int .u8 a1)] [] : St D0) zq76.K0 = zq76.o0 N a0 a1 ((fun w0 w1 w2 w3 => iter (loopF zq76.C (zq76.O N) N H244 122) N (mkSt [(0, .one (.str w0)), (1, .one (.int .u8 w1)), (5, .one (.nl)), (6, .one (.int .i64 w2)), (7, .one (.int .i64 w3))] [] : St D0) (blockK 0 (onN (fun s => zq76.C.tidy 30 s (fun s' => runC zq76.C (zq76.O N) N zq76.c31 31 s' zq76.K0)) zq76.K0)))) := by kernel_rfl
def zq76.g (N : Nat) (a0 : ByteArray) (a1 : Int) : Option zq76.R := zq76.o0 N a0 a1 ((fun w0 w1 w2 w3 => zq76.l1 N N w0 w1 w2 w3))
theorem zq76.c1_0 : zq76.c1 = (.seq zq76.c2 (.seq zq76.c6 (.seq zq76.c14 (.seq (.seq zq76.c60 (.block 0 (.loop zq76.c244))) zq76.c31)))) := by kernel_rfl
theorem zq76.g.run (N : Nat) (a0 : ByteArray) (a1 : Int) : runC zq76.C (zq76.O N) N zq76.c1 1 (st0 [.one (.str a0), .one (.int .u8 a1)] [] : St D0) zq76.K0 = zq76.g N a0 a1 := by
  rw [zq76.c1_0]; unfold zq76.g; exact (zq76.o0.run N zq76.c244 a0 a1).trans (congr rfl (funext fun w0 => funext fun w1 => funext fun w2 => funext fun w3 => (zq76.loop122 N N).1 w0 w1 w2 w3))
theorem zq76.good (N : Nat) (a0 : ByteArray) (a1 : Int) (r : zq76.R) (h : zq76.g N a0 a1 = some r) : Go.PM.Good Tryz.prog T0 118 [.one (.str a0), .one (.int .u8 a1)] [] (zq76.sig.ret r) (zq76.sig.bs r) :=
  good_fn tabOk0 mixed0 zq76.sig (zq76.E N) Tryz.func118 (by kernel_rfl) (by kernel_rfl) 264435 0 0 [(122, [0, 1, 5, 6, 7], []), (978, [0, 1, 5, 6, 7], [])] 1685246720 false [] [(false, [.own 9])] (by kernel_rfl) rfl rfl ((zq76.g.run N a0 a1).trans h)
def zq76.ent (N : Nat) : Ent Tryz.prog T0 := mkEnt 118 [(false, [.any]), (false, [.any])] zq76.sig (fun t => zq76.g N t.1 t.2) (fun t r h => zq76.good N t.1 t.2 r h)
/-! ### zq73 -/
abbrev zq73.R : Type := ByteArray
abbrev zq73.sig : Sig := ⟨[(false, 1)], [], [.int .i64], [(false, 1)], [], [.str]⟩
def zq73.C : Cfg D0 := ⟨Tryz.prog, T0, 21, 0, 20, 0, [], 9256, false, []⟩
def zq73.E (N : Nat) (G : Int → Option zq73.R) (hG : ∀ (a0 : Int) (r : zq73.R), G a0 = some r → Go.PM.Good Tryz.prog T0 112 [.one (.int .i64 a0)] [] (zq73.sig.ret r) (zq73.sig.bs r)) : List (Ent Tryz.prog T0) := [mkEnt 112 [(false, [.any])] zq73.sig (fun t => G t) (fun t r h => hG t r h)]
def zq73.O (N : Nat) (G : Int → Option zq73.R) (hG : ∀ (a0 : Int) (r : zq73.R), G a0 = some r → Go.PM.Good Tryz.prog T0 112 [.one (.int .i64 a0)] [] (zq73.sig.ret r) (zq73.sig.bs r)) : Orc D0 zq73.R := orcOf (zq73.E N G hG)
def zq73.K0 : Ex → St D0 → Option zq73.R := exitK zq73.C Tryz.f112.results.toList [(false, [.any])] (decOut zq73.sig)
def zq73.c1 : Code := codeAt (Tryz.f112.body.getD .skip) []
def zq73.o0 (N : Nat) (G : Int → Option zq73.R) (a0 : Int) : Option zq73.R :=
 bif (decide (a0 < 10)) then
  (numsO T0 5 ([((IntKind.wrap .u8) (w64 (48 + a0)))] : List Int)).bind fun r1 =>
  some ((strOfNums r1))
 else
 (G (w64 (Int.tdiv a0 10))).bind fun r2 =>
 (numsO T0 5 ([((IntKind.wrap .u8) (w64 (48 + (Int.tmod a0 10))))] : List Int)).bind fun r3 =>
 bif (Nat.ble (r2.size + (strOfNums r3).size) 9223372036854775807) then
  some ((r2 ++ (strOfNums r3)))
 else
 none
theorem zq73.o0.run (N : Nat) (G : Int → Option zq73.R) (hG : ∀ (a0 : Int) (r : zq73.R), G a0 = some r → Go.PM.Good Tryz.prog T0 112 [.one (.int .i64 a0)] [] (zq73.sig.ret r) (zq73.sig.bs r)) (a0 : Int) : runC zq73.C (zq73.O N G hG) N zq73.c1 1 (st0 [.one (.int .i64 a0)] [] : St D0) zq73.K0 = zq73.o0 N G a0 := by kernel_rfl
def zq73.s (N : Nat) (G : Int → Option zq73.R) (a0 : Int) : Option zq73.R := zq73.o0 N G a0
theorem zq73.s.run (N : Nat) (G : Int → Option zq73.R) (hG : ∀ (a0 : Int) (r : zq73.R), G a0 = some r → Go.PM.Good Tryz.prog T0 112 [.one (.int .i64 a0)] [] (zq73.sig.ret r) (zq73.sig.bs r)) (a0 : Int) : runC zq73.C (zq73.O N G hG) N zq73.c1 1 (st0 [.one (.int .i64 a0)] [] : St D0) zq73.K0 = zq73.s N G a0 := by
  exact (zq73.o0.run N G hG a0).trans rfl
def zq73.gk (N : Nat) : Nat → Int → Option zq73.R
  | 0, _ => none
  | k + 1, a0 => zq73.s N (zq73.gk N k) a0
theorem zq73.goodk (N : Nat) : ∀ (k : Nat) (a0 : Int) (r : zq73.R), zq73.gk N k a0 = some r → Go.PM.Good Tryz.prog T0 112 [.one (.int .i64 a0)] [] (zq73.sig.ret r) (zq73.sig.bs r)
  | 0, _, _, h => by cases h
  | k + 1, a0, r, h => good_fn tabOk0 mixed0 zq73.sig (zq73.E N (zq73.gk N k) (zq73.goodk N k)) Tryz.func112 (by kernel_rfl) (by kernel_rfl) 21 0 0 [] 9256 false [] [(false, [.any])] (by kernel_rfl) rfl rfl ((zq73.s.run N (zq73.gk N k) (zq73.goodk N k) a0).trans h)
def zq73.g (N : Nat) (a0 : Int) : Option zq73.R := zq73.gk N N a0
theorem zq73.good (N : Nat) (a0 : Int) (r : zq73.R) (h : zq73.g N a0 = some r) : Go.PM.Good Tryz.prog T0 112 [.one (.int .i64 a0)] [] (zq73.sig.ret r) (zq73.sig.bs r) := zq73.goodk N N a0 r h
def zq73.ent (N : Nat) : Ent Tryz.prog T0 := mkEnt 112 [(false, [.any])] zq73.sig (fun t => zq73.g N t) (fun t r h => zq73.good N t r h)
/-! ### zq74 -/
abbrev zq74.R : Type := Int
abbrev zq74.sig : Sig := ⟨[(false, 1)], [], [.str], [(false, 1)], [], [.int .i64]⟩
def zq74.C : Cfg D0 := ⟨Tryz.prog, T0, 17184325661, 0, 44, 0, [(12, [0, 18], []), (122, [0, 3, 4], []), (7824, [0, 3, 4, 34], [])], 450008466464, false, []⟩
def zq74.E (N : Nat) : List (Ent Tryz.prog T0) := [zq71.ent N]
def zq74.O (N : Nat) : Orc D0 zq74.R := orcOf (zq74.E N)
def zq74.K0 : Ex → St D0 → Option zq74.R := exitK zq74.C Tryz.f119.results.toList [(false, [.any])] (decOut zq74.sig)
def zq74.c1 : Code := codeAt (Tryz.f119.body.getD .skip) []
def zq74.c2 : Code := codeAt (Tryz.f119.body.getD .skip) [false]
def zq74.c7 : Code := codeAt (Tryz.f119.body.getD .skip) [true, true]
def zq74.c12 : Code := codeAt (Tryz.f119.body.getD .skip) [true, false, false]
def zq74.c13 : Code := codeAt (Tryz.f119.body.getD .skip) [true, false, true]
def zq74.c14 : Code := codeAt (Tryz.f119.body.getD .skip) [true, true, false]
def zq74.c31 : Code := codeAt (Tryz.f119.body.getD .skip) [true, true, true, true]
def zq74.c60 : Code := codeAt (Tryz.f119.body.getD .skip) [true, true, true, false, false]
def zq74.c244 : Code := codeAt (Tryz.f119.body.getD .skip) [true, true, true, false, true, false, false]
def zq74.c488 : Code := codeAt (Tryz.f119.body.getD .skip) [true, true, true, false, true, false, false, false]
def zq74.c979 : Code := codeAt (Tryz.f119.body.getD .skip) [true, true, true, false, true, false, false, true, true]
def zq74.c3913 : Code := codeAt (Tryz.f119.body.getD .skip) [true, true, true, false, true, false, false, true, false, false, true]
def zq74.c7824 : Code := codeAt (Tryz.f119.body.getD .skip) [true, true, true, false, true, false, false, true, false, false, false, false]
def zq74.c7825 : Code := codeAt (Tryz.f119.body.getD .skip) [true, true, true, false, true, false, false, true, false, false, false, true]
def zq74.K7825 (N : Nat) (Kn122 : St D0 → Option zq74.R) : Ex → St D0 → Option zq74.R := ((fun up => (onN (fun s => zq74.C.tidy 3912 s (fun s' => runC zq74.C (zq74.O N) N zq74.c3913 3913 s' up)) up)) (blockK 1 ((fun up => (onN (fun s => zq74.C.tidy 978 s (fun s' => runC zq74.C (zq74.O N) N zq74.c979 979 s' up)) up)) ((fun up => (onN (fun s => zq74.C.tidy 122 s ((onN Kn122 up) .normal)) (onN Kn122 up))) (blockK 0 (onN (fun s => zq74.C.tidy 30 s (fun s' => runC zq74.C (zq74.O N) N zq74.c31 31 s' zq74.K0)) zq74.K0))))))
def zq74.o3 (N : Nat) (v0 : ByteArray) (v1 : Int) (v2 : Int) (v3 : Bool) (c2 : ByteArray → Int → Int → Option zq74.R) : Option zq74.R :=
 bif v3 then
  some ((-1))
 else
 bif (decide (0 ≤ v2)) then
  bif (decide (v2 < (v0.size : Int))) then
   c2 v0 (w64 ((w64 (10 * v1)) + (w64 ((IntKind.wrap .u8) ((bt v0 v2) - 48))))) (w64 (v2 + 1))
  else
  none
 else
 none
theorem zq74.o3.run (N : Nat) (Kn122 : St D0 → Option zq74.R) (v0 : ByteArray) (v1 : Int) (v2 : Int) (v3 : Bool) : runC zq74.C (zq74.O N) N zq74.c7825 7825 (mkSt [(0, .one (.str v0)), (3, .one (.int .i64 v1)), (4, .one (.int .i64 v2)), (34, .one (.bool v3))] [] : St D0) ((fun up => (onN (fun s => zq74.C.tidy 3912 s (fun s' => runC zq74.C (zq74.O N) N zq74.c3913 3913 s' up)) up)) (blockK 1 ((fun up => (onN (fun s => zq74.C.tidy 978 s (fun s' => runC zq74.C (zq74.O N) N zq74.c979 979 s' up)) up)) ((fun up => (onN (fun s => zq74.C.tidy 122 s ((onN Kn122 up) .normal)) (onN Kn122 up))) (blockK 0 (onN (fun s => zq74.C.tidy 30 s (fun s' => runC zq74.C (zq74.O N) N zq74.c31 31 s' zq74.K0)) zq74.K0)))))) = zq74.o3 N v0 v1 v2 v3 ((fun w0 w1 w2 => Kn122 (mkSt [(0, .one (.str w0)), (3, .one (.int .i64 w1)), (4, .one (.int .i64 w2))] [] : St D0))) := by kernel_rfl
def zq74.d3 (N : Nat) (v0 : ByteArray) (v1 : Int) (v2 : Int) (v3 : Bool) (c2 : ByteArray → Int → Int → Option zq74.R) : Option zq74.R := zq74.o3 N v0 v1 v2 v3 c2
theorem zq74.d3.run (N : Nat) (Kn122 : St D0 → Option zq74.R) (v0 : ByteArray) (v1 : Int) (v2 : Int) (v3 : Bool) : runC zq74.C (zq74.O N) N zq74.c7825 7825 (mkSt [(0, .one (.str v0)), (3, .one (.int .i64 v1)), (4, .one (.int .i64 v2)), (34, .one (.bool v3))] [] : St D0) (zq74.K7825 N Kn122) = zq74.d3 N v0 v1 v2 v3 ((fun w0 w1 w2 => Kn122 (mkSt [(0, .one (.str w0)), (3, .one (.int .i64 w1)), (4, .one (.int .i64 w2))] [] : St D0))) := by
  exact (zq74.o3.run N Kn122 v0 v1 v2 v3).trans rfl
def zq74.K244 (N : Nat) (Kn122 : St D0 → Option zq74.R) : Ex → St D0 → Option zq74.R := ((fun up => (onN (fun s => zq74.C.tidy 122 s ((onN Kn122 up) .normal)) (onN Kn122 up))) (blockK 0 (onN (fun s => zq74.C.tidy 30 s (fun s' => runC zq74.C (zq74.O N) N zq74.c31 31 s' zq74.K0)) zq74.K0)))
def zq74.o2 (N : Nat) (v0 : ByteArray) (v1 : Int) (v2 : Int) (c3 : ByteArray → Int → Int → Bool → Option zq74.R) : Option zq74.R :=
 bif (decide (v2 < (v0.size : Int))) then
  bif (decide (0 ≤ v2)) then
   bif (decide (v2 < (v0.size : Int))) then
    bif (decide ((bt v0 v2) < 48)) then
     c3 v0 v1 v2 true
    else
    bif (decide (0 ≤ v2)) then
     bif (decide (v2 < (v0.size : Int))) then
      c3 v0 v1 v2 (decide ((bt v0 v2) > 57))
     else
     none
    else
    none
   else
   none
  else
  none
 else
 some (v1)
theorem zq74.o2.run (N : Nat) (Kn122 : St D0 → Option zq74.R) (H7825 : Code) (v0 : ByteArray) (v1 : Int) (v2 : Int) : runC zq74.C (zq74.O N) N (.seq zq74.c488 (.seq (.block 1 (.seq (.seq zq74.c7824 H7825) zq74.c3913)) zq74.c979)) 244 (mkSt [(0, .one (.str v0)), (3, .one (.int .i64 v1)), (4, .one (.int .i64 v2))] [] : St D0) ((fun up => (onN (fun s => zq74.C.tidy 122 s ((onN Kn122 up) .normal)) (onN Kn122 up))) (blockK 0 (onN (fun s => zq74.C.tidy 30 s (fun s' => runC zq74.C (zq74.O N) N zq74.c31 31 s' zq74.K0)) zq74.K0))) = zq74.o2 N v0 v1 v2 ((fun w0 w1 w2 w3 => runC zq74.C (zq74.O N) N H7825 7825 (mkSt [(0, .one (.str w0)), (3, .one (.int .i64 w1)), (4, .one (.int .i64 w2)), (34, .one (.bool w3))] [] : St D0) ((fun up => (onN (fun s => zq74.C.tidy 3912 s (fun s' => runC zq74.C (zq74.O N) N zq74.c3913 3913 s' up)) up)) (blockK 1 ((fun up => (onN (fun s => zq74.C.tidy 978 s (fun s' => runC zq74.C (zq74.O N) N zq74.c979 979 s' up)) up)) ((fun up => (onN (fun s => zq74.C.tidy 122 s ((onN Kn122 up) .normal)) (onN Kn122 up))) (blockK 0 (onN (fun s => zq74.C.tidy 30 s (fun s' => runC zq74.C (zq74.O N) N zq74.c31 31 s' zq74.K0)) zq74.K0)))))))) := by kernel_rfl
def zq74.d2 (N : Nat) (v0 : ByteArray) (v1 : Int) (v2 : Int) (c2 : ByteArray → Int → Int → Option zq74.R) : Option zq74.R := zq74.o2 N v0 v1 v2 ((fun w0 w1 w2 w3 => zq74.d3 N w0 w1 w2 w3 c2))
theorem zq74.c244_2 : zq74.c244 = (.seq zq74.c488 (.seq (.block 1 (.seq (.seq zq74.c7824 zq74.c7825) zq74.c3913)) zq74.c979)) := by kernel_rfl
theorem zq74.d2.run (N : Nat) (Kn122 : St D0 → Option zq74.R) (v0 : ByteArray) (v1 : Int) (v2 : Int) : runC zq74.C (zq74.O N) N zq74.c244 244 (mkSt [(0, .one (.str v0)), (3, .one (.int .i64 v1)), (4, .one (.int .i64 v2))] [] : St D0) (zq74.K244 N Kn122) = zq74.d2 N v0 v1 v2 ((fun w0 w1 w2 => Kn122 (mkSt [(0, .one (.str w0)), (3, .one (.int .i64 w1)), (4, .one (.int .i64 w2))] [] : St D0))) := by
  rw [zq74.c244_2]; unfold zq74.d2; exact (zq74.o2.run N Kn122 zq74.c7825 v0 v1 v2).trans (congr rfl (funext fun w0 => funext fun w1 => funext fun w2 => funext fun w3 => zq74.d3.run N Kn122 w0 w1 w2 w3))
def zq74.K122 (N : Nat) : Ex → St D0 → Option zq74.R := (blockK 0 (onN (fun s => zq74.C.tidy 30 s (fun s' => runC zq74.C (zq74.O N) N zq74.c31 31 s' zq74.K0)) zq74.K0))
def zq74.l2 (N : Nat) : Nat → ByteArray → Int → Int → Option zq74.R
  | 0, _, _, _ => none
  | n + 1, v0, v1, v2 => zq74.d2 N v0 v1 v2 ((fun w0 w1 w2 => zq74.l2 N n w0 w1 w2))
theorem zq74.loop122 (N : Nat) : ∀ n, (∀ (v0 : ByteArray) (v1 : Int) (v2 : Int), iter (loopF zq74.C (zq74.O N) N zq74.c244 122) n (mkSt [(0, .one (.str v0)), (3, .one (.int .i64 v1)), (4, .one (.int .i64 v2))] [] : St D0) (zq74.K122 N) = zq74.l2 N n v0 v1 v2)
  | 0 => (fun v0 v1 v2 => rfl)
  | n + 1 => (fun v0 v1 v2 => (zq74.d2.run N (fun s => iter (loopF zq74.C (zq74.O N) N zq74.c244 122) n s (zq74.K122 N)) v0 v1 v2).trans (show _ = zq74.d2 N v0 v1 v2 ((fun w0 w1 w2 => zq74.l2 N n w0 w1 w2)) from (congr rfl (funext fun w0 => funext fun w1 => funext fun w2 => (zq74.loop122 N n) w0 w1 w2))))
def zq74.K13 (N : Nat) : Ex → St D0 → Option zq74.R := (onN (fun s => zq74.C.tidy 6 s (fun s' => runC zq74.C (zq74.O N) N zq74.c7 7 s' zq74.K0)) zq74.K0)
def zq74.o1 (N : Nat) (v0 : ByteArray) (v1 : Bool) (c2 : ByteArray → Int → Int → Option zq74.R) : Option zq74.R :=
 bif v1 then
  some ((-1))
 else
 c2 v0 0 0
theorem zq74.o1.run (N : Nat) (H244 : Code) (v0 : ByteArray) (v1 : Bool) : runC zq74.C (zq74.O N) N zq74.c13 13 (mkSt [(0, .one (.str v0)), (18, .one (.bool v1))] [] : St D0) (onN (fun s => zq74.C.tidy 6 s (fun s' => runC zq74.C (zq74.O N) N (.seq zq74.c14 (.seq (.seq zq74.c60 (.block 0 (.loop H244))) zq74.c31)) 7 s' zq74.K0)) zq74.K0) = zq74.o1 N v0 v1 ((fun w0 w1 w2 => iter (loopF zq74.C (zq74.O N) N H244 122) N (mkSt [(0, .one (.str w0)), (3, .one (.int .i64 w1)), (4, .one (.int .i64 w2))] [] : St D0) (blockK 0 (onN (fun s => zq74.C.tidy 30 s (fun s' => runC zq74.C (zq74.O N) N zq74.c31 31 s' zq74.K0)) zq74.K0)))) := by kernel_rfl
def zq74.d1 (N : Nat) (v0 : ByteArray) (v1 : Bool) : Option zq74.R := zq74.o1 N v0 v1 ((fun w0 w1 w2 => zq74.l2 N N w0 w1 w2))
theorem zq74.d1.run (N : Nat) (v0 : ByteArray) (v1 : Bool) : runC zq74.C (zq74.O N) N zq74.c13 13 (mkSt [(0, .one (.str v0)), (18, .one (.bool v1))] [] : St D0) (zq74.K13 N) = zq74.d1 N v0 v1 := by
  unfold zq74.d1; exact (zq74.o1.run N zq74.c244 v0 v1).trans (congr rfl (funext fun w0 => funext fun w1 => funext fun w2 => (zq74.loop122 N N) w0 w1 w2))
def zq74.o0 (N : Nat) (a0 : ByteArray) (c1 : ByteArray → Bool → Option zq74.R) : Option zq74.R :=
 (zq71.g N (a0.size : Int) 1 6).bind fun r1 =>
 bif (!r1) then
  c1 a0 true
 else
 bif (decide (0 < (a0.size : Int))) then
  bif ((bt a0 0) == 48) then
   c1 a0 (decide ((a0.size : Int) > 1))
  else
  c1 a0 false
 else
 none
theorem zq74.o0.run (N : Nat) (H13 : Code) (a0 : ByteArray) : runC zq74.C (zq74.O N) N (.seq zq74.c2 (.seq (.seq zq74.c12 H13) zq74.c7)) 1 (st0 [.one (.str a0)] [] : St D0) zq74.K0 = zq74.o0 N a0 ((fun w0 w1 => runC zq74.C (zq74.O N) N H13 13 (mkSt [(0, .one (.str w0)), (18, .one (.bool w1))] [] : St D0) (onN (fun s => zq74.C.tidy 6 s (fun s' => runC zq74.C (zq74.O N) N zq74.c7 7 s' zq74.K0)) zq74.K0))) := by kernel_rfl
def zq74.g (N : Nat) (a0 : ByteArray) : Option zq74.R := zq74.o0 N a0 ((fun w0 w1 => zq74.d1 N w0 w1))
theorem zq74.c1_0 : zq74.c1 = (.seq zq74.c2 (.seq (.seq zq74.c12 zq74.c13) zq74.c7)) := by kernel_rfl
theorem zq74.g.run (N : Nat) (a0 : ByteArray) : runC zq74.C (zq74.O N) N zq74.c1 1 (st0 [.one (.str a0)] [] : St D0) zq74.K0 = zq74.g N a0 := by
  rw [zq74.c1_0]; unfold zq74.g; exact (zq74.o0.run N zq74.c13 a0).trans (congr rfl (funext fun w0 => funext fun w1 => zq74.d1.run N w0 w1))
theorem zq74.good (N : Nat) (a0 : ByteArray) (r : zq74.R) (h : zq74.g N a0 = some r) : Go.PM.Good Tryz.prog T0 119 [.one (.str a0)] [] (zq74.sig.ret r) (zq74.sig.bs r) :=
  good_fn tabOk0 mixed0 zq74.sig (zq74.E N) Tryz.func119 (by kernel_rfl) (by kernel_rfl) 17184325661 0 0 [(12, [0, 18], []), (122, [0, 3, 4], []), (7824, [0, 3, 4, 34], [])] 450008466464 false [] [(false, [.any])] (by kernel_rfl) rfl rfl ((zq74.g.run N a0).trans h)
def zq74.ent (N : Nat) : Ent Tryz.prog T0 := mkEnt 119 [(false, [.any])] zq74.sig (fun t => zq74.g N t) (fun t r h => zq74.good N t r h)
end Go.Proofs.YtccjoegnkiaibaaGreatDoor.M
namespace Go.Proofs.YtccjoegnkiaibaaGreatDoor.M
open Go Go.PM Go.Proofs.YtccjoegnkiaibaaGreatDoor.P
set_option linter.unusedVariables false
set_option maxRecDepth 100000
open Go.RowKit Go.Lib
/-! ### zq27 -/
abbrev zq27.R : Type := Int × Bool
abbrev zq27.sig : Sig := ⟨[(false, 1), (false, 1)], [], [.str, .int .i64], [(false, 1), (false, 1)], [], [.int .i64, .bool]⟩
theorem zq27.asd {p : Prop} (h : p) : Aside p := h
def zq27.v (a0 : ByteArray) (a1 : Int) : Int × Bool := match Lib.atoiAll a0.data.toList with
  | .ok v => if 0 ≤ v ∧ v ≤ a1 then (if Lib.itoa v = a0.toList then (v, true) else (0, false)) else (0, false)
  | _ => (0, false)
def zq27.g (N : Nat) (a0 : ByteArray) (a1 : Int) : Option zq27.R := bif decide (a0.size ≤ 281474976710656) && decide (a1 ≤ 9223372036854775807) then some (zq27.v a0 a1) else none
theorem zq27.gr {w w2 w3 : World} (hb : Below w.heap.size w w2) (h : ∃ k os, w3 = Go.Sort.grow (w2.drewN k) os) : Below w.heap.size w w3 := by
  obtain ⟨k, os, rfl⟩ := h
  refine ⟨hb.os, hb.tape, hb.output, ?_, fun i hi => ?_⟩
  · show w.heap.size ≤ (w2.heap ++ os).size
    rw [Array.size_append]; have := hb.size; omega
  · show (w2.heap ++ os)[i]? = w.heap[i]?
    rw [Array.getElem?_append_left (by have := hb.size; omega)]
    exact hb.block i hi
theorem zq27.bw (w : World) (t : ByteArray) : Below w.heap.size w (Lib.bytesWorld w 5 t) := ⟨rfl, rfl, rfl, by rw [Lib.bytesWorld_size]; omega, fun i hi => Lib.bytesWorld_at_old w 5 t i (by omega)⟩
theorem zq27.within (v a1 : Int) (w : World) (hG : GlW w) : Calls Tryz.prog 81 #[.int .i64 v, .int .i64 0, .int .i64 a1] w fun e w' => e = .returned (.bool (decide (0 ≤ v ∧ v ≤ a1))) ∧ Below w.heap.size w w' := by
  have hw : zq31.g 0 v 0 a1 = some (decide (0 ≤ v ∧ v ≤ a1)) := by
    unfold zq31.g zq31.o0
    by_cases h : 0 ≤ v
    · rw [decide_eq_true (show v ≥ 0 from h), cond_true]; simp [h]
    · rw [decide_eq_false (show ¬ v ≥ 0 from h), cond_false]; simp [h]
  exact law_calls (zq31.good 0 v 0 a1 _ hw) #[.int .i64 v, .int .i64 0, .int .i64 a1] (.cons (ERep.int _ _) (.cons (ERep.int _ _) (.cons (ERep.int _ _) .nil))) rfl rfl (fun C b u h => inv_bool h) hG
set_option maxHeartbeats 2000000 in
set_option maxRecDepth 100000 in
theorem zq27.walk (a0 : ByteArray) (a1 : Int) (hlim : a0.size ≤ 281474976710656) (h63 : a1 ≤ 9223372036854775807) (r1 : Int) (r2 : Bool) (w : World) (hG : GlW w) (hv : zq27.v a0 a1 = (r1, r2)) :
    Calls Tryz.prog 79 #[.string a0, .int .i64 a1] w fun e w' => e = .returned (.tuple #[.int .i64 r1, .bool r2]) ∧ Below w.heap.size w w' := by
  have HG := zq27.asd hG
  clear hG
  unfold zq27.v at hv
  rcases hat : Lib.atoiAll a0.data.toList with v | _ | _
  · rw [hat] at hv
    have hv2 : (if 0 ≤ v ∧ v ≤ a1 then (if Lib.itoa v = a0.toList then (v, true) else (0, false)) else (0, false)) = (r1, r2) := hv
    clear hv
    have HA := zq27.asd (Tryz.strconv_Atoi_ok a0 (by omega) v hat)
    clear hat
    have hfrom : ∀ w' : World, (w' = w ∨ ∃ t, w' = Lib.bytesWorld w 5 t) → Below w.heap.size w w' := by
      rintro w' (rfl | ⟨t, rfl⟩)
      · exact Below.refl _ _
      · exact zq27.bw w t
    have HF := zq27.asd hfrom
    clear hfrom
    by_cases c1 : 0 ≤ v ∧ v ≤ a1
    · rw [if_pos c1] at hv2
      have HW := zq27.asd (fun (W : World) (hg : GlW W) => by have := zq27.within v a1 W hg; rw [decide_eq_true c1] at this; exact this)
      have HI := zq27.asd (fun (W : World) (hg : GlW W) => Tryz.strconv_Itoa v (by omega) (by omega) W hg.tab)
      clear c1
      by_cases c2 : Lib.itoa v = a0.toList
      · rw [if_pos c2] at hv2
        simp only [Prod.mk.injEq] at hv2
        obtain ⟨rfl, rfl⟩ := hv2
        have c2b0 : (Lib.itoa v == a0.toList) = true := beq_iff_eq.mpr c2
        have c2b1 : (Lib.itoa v != a0.toList) = false := bne_eq_false_iff_eq.mpr c2
        clear c2
        go_enter Tryz.func79, Tryz.ntmps79
        go_wp2_with (first | (go_at_call 80; refine (HA.out _).mono ?_; rintro e w1 ⟨rfl, hw⟩; have HB := zq27.asd (HF.out _ hw); clear hw) | (go_at_call 81; refine (HW.out _ (HG.out.below HB.out)).mono ?_; rintro e w2 ⟨rfl, hb⟩; have HB2 := zq27.asd (HB.out.trans (hb.mono HB.out.size)); clear hb) | (go_at_call 72; refine (HI.out _ (HG.out.below HB2.out)).mono ?_; rintro e w3 ⟨rfl, hk⟩; have HB3 := zq27.asd (zq27.gr HB2.out hk); clear hk))
        go_ret2
        exact ⟨rfl, HB3.out⟩
      · rw [if_neg c2] at hv2
        simp only [Prod.mk.injEq] at hv2
        obtain ⟨rfl, rfl⟩ := hv2
        have c2b0 : (Lib.itoa v == a0.toList) = false := beq_eq_false_iff_ne.mpr c2
        have c2b1 : (Lib.itoa v != a0.toList) = true := bne_iff_ne.mpr c2
        clear c2
        go_enter Tryz.func79, Tryz.ntmps79
        go_wp2_with (first | (go_at_call 80; refine (HA.out _).mono ?_; rintro e w1 ⟨rfl, hw⟩; have HB := zq27.asd (HF.out _ hw); clear hw) | (go_at_call 81; refine (HW.out _ (HG.out.below HB.out)).mono ?_; rintro e w2 ⟨rfl, hb⟩; have HB2 := zq27.asd (HB.out.trans (hb.mono HB.out.size)); clear hb) | (go_at_call 72; refine (HI.out _ (HG.out.below HB2.out)).mono ?_; rintro e w3 ⟨rfl, hk⟩; have HB3 := zq27.asd (zq27.gr HB2.out hk); clear hk))
        go_ret2
        exact ⟨rfl, HB3.out⟩
    · rw [if_neg c1] at hv2
      simp only [Prod.mk.injEq] at hv2
      obtain ⟨rfl, rfl⟩ := hv2
      have HW := zq27.asd (fun (W : World) (hg : GlW W) => by have := zq27.within v a1 W hg; rw [decide_eq_false c1] at this; exact this)
      clear c1
      go_enter Tryz.func79, Tryz.ntmps79
      go_wp2_with (first | (go_at_call 80; refine (HA.out _).mono ?_; rintro e w1 ⟨rfl, hw⟩; have HB := zq27.asd (HF.out _ hw); clear hw) | (go_at_call 81; refine (HW.out _ (HG.out.below HB.out)).mono ?_; rintro e w2 ⟨rfl, hb⟩; have HB2 := zq27.asd (HB.out.trans (hb.mono HB.out.size)); clear hb))
      go_ret2
      exact ⟨rfl, HB2.out⟩
  · rw [hat] at hv
    simp only [Prod.mk.injEq] at hv
    obtain ⟨rfl, rfl⟩ := hv
    obtain ⟨tp, p, hcell⟩ := HG.out.errS
    have HA := zq27.asd (show Calls Tryz.prog 80 #[.string a0] w fun e w' => ∃ N, e = .returned (.tuple #[.int .i64 (0), .iface 131 (.pointer (some ⟨N, 0, none⟩))]) ∧ w.heap.size ≤ N ∧ w'.heap[N]? = some (.cells #[.string ⟨#[65, 116, 111, 105]⟩, .string a0, .iface tp p] 145 (0, 0)) ∧ Below w.heap.size w w' from Go.Proofs.Any.strconv_Atoi_syntax Tryz.laysC172 a0 hlim hat (.iface tp p) w hcell (Or.inr ⟨tp, p, rfl⟩))
    clear hat hcell
    go_enter Tryz.func79, Tryz.ntmps79
    go_wp2_with (go_at_call 80; refine HA.out.mono ?_; rintro e w' ⟨N, rfl, hN, hh, hb⟩; have HB := zq27.asd hb; clear hb hh hN)
    go_ret2
    exact ⟨rfl, HB.out⟩
  · rw [hat] at hv
    simp only [Prod.mk.injEq] at hv
    obtain ⟨rfl, rfl⟩ := hv
    obtain ⟨tp, p, hcell⟩ := HG.out.errR
    have HA := zq27.asd (Tryz.strconv_Atoi_range a0 hlim hat (.iface tp p) w hcell (Or.inr ⟨tp, p, rfl⟩))
    clear hat hcell
    generalize Lib.atoiSat a0.data.toList = sat at HA
    go_enter Tryz.func79, Tryz.ntmps79
    go_wp2_with (go_at_call 80; refine HA.out.mono ?_; rintro e w' ⟨N, rfl, hN, hh, hb⟩; have HB := zq27.asd hb; clear hb hh hN)
    go_ret2
    exact ⟨rfl, HB.out⟩
theorem zq27.good (N : Nat) (a0 : ByteArray) (a1 : Int) (r : zq27.R) (h : zq27.g N a0 a1 = some r) : Go.PM.Good Tryz.prog T0 79 [.one (.str a0), .one (.int .i64 a1)] [] (zq27.sig.ret r) (zq27.sig.bs r) := by
  obtain ⟨hc, h⟩ := bif_some h
  simp only [Bool.and_eq_true, decide_eq_true_eq] at hc
  have hr := Option.some.inj h
  refine good_glob (T := T0) ⟨_, Tryz.func79, by kernel_rfl, rfl⟩ [.one (.str a0), .one (.int .i64 a1)] (ret := zq27.sig.ret r) rfl rfl ?_
  intro w C blk vargs hsz hrep hag hgl
  have ev : vargs = #[.string a0, .int .i64 a1] := (args2 hsz).trans (by rw [rep_str (hrep 0), rep_int (hrep 1)])
  rw [ev]
  refine (zq27.walk a0 a1 hc.1 hc.2 r.1 r.2 w hgl hr).mono ?_
  rintro e w' ⟨rfl, hB⟩
  exact ⟨_, rfl, ⟨_, rfl, .cons (crep1 (ERep.int _ _)) (.cons (crep1 (ERep.bool _)) .nil)⟩, hB⟩
def zq27.ent (N : Nat) : Ent Tryz.prog T0 := mkEnt 79 [(false, [.any]), (false, [.any])] zq27.sig (fun t => zq27.g N t.1 t.2) (fun t r h => zq27.good N t.1 t.2 r h)

/-! ### zq77 -/
abbrev zq77.R : Type := Int × Bool
abbrev zq77.sig : Sig := ⟨[(false, 1)], [], [.str], [(false, 1), (false, 1)], [], [.int .i64, .er]⟩
def zq77.v (a0 : ByteArray) : Int × Bool := match Lib.atoiAll a0.data.toList with
  | .ok v => (v, true)
  | .range => (Lib.atoiSat a0.data.toList, false)
  | _ => (0, false)
def zq77.g (N : Nat) (a0 : ByteArray) : Option zq77.R := bif decide (a0.size ≤ 281474976710656) then some (zq77.v a0) else none
theorem zq77.bw (w : World) (t : ByteArray) : Below w.heap.size w (Lib.bytesWorld w 5 t) := ⟨rfl, rfl, rfl, by rw [Lib.bytesWorld_size]; omega, fun i hi => Lib.bytesWorld_at_old w 5 t i (by omega)⟩
theorem zq77.good (N : Nat) (a0 : ByteArray) (r : zq77.R) (h : zq77.g N a0 = some r) : Go.PM.Good Tryz.prog T0 80 [.one (.str a0)] [] (zq77.sig.ret r) (zq77.sig.bs r) := by
  obtain ⟨hc, h⟩ := bif_some h
  have hlim : a0.size ≤ 281474976710656 := of_decide_eq_true hc
  cases Option.some.inj h
  refine good_glob (T := T0) ⟨_, Tryz.func80, by kernel_rfl, rfl⟩ [.one (.str a0)] (ret := zq77.sig.ret (zq77.v a0)) rfl rfl ?_
  intro w C blk vargs hsz hrep hag hgl
  have ev : vargs = #[.string a0] := (args1 hsz).trans (by rw [rep_str (hrep 0)])
  rw [ev]
  have HG : GlW w := hgl
  rcases hat : Lib.atoiAll a0.data.toList with v | _ | _
  · have hv : zq77.v a0 = (v, true) := by unfold zq77.v; rw [hat]
    rw [hv]
    refine (Tryz.strconv_Atoi_ok a0 (by omega) v hat w).mono ?_
    rintro e w' ⟨rfl, hw⟩
    refine ⟨_, rfl, ⟨_, rfl, .cons (crep1 (ERep.int _ _)) (.cons (crep1 (Or.inl ⟨rfl, rfl⟩)) .nil)⟩, ?_⟩
    rcases hw with rfl | ⟨t, rfl⟩
    · exact Below.refl _ _
    · exact zq77.bw w t
  · have hv : zq77.v a0 = (0, false) := by unfold zq77.v; rw [hat]
    rw [hv]
    obtain ⟨tp, p, hcell⟩ := HG.errS
    refine (show Calls Tryz.prog 80 #[.string a0] w fun e w' => ∃ N, e = .returned (.tuple #[.int .i64 (0), .iface 131 (.pointer (some ⟨N, 0, none⟩))]) ∧ w.heap.size ≤ N ∧ w'.heap[N]? = some (.cells #[.string ⟨#[65, 116, 111, 105]⟩, .string a0, .iface tp p] 145 (0, 0)) ∧ Below w.heap.size w w' from Go.Proofs.Any.strconv_Atoi_syntax Tryz.laysC172 a0 hlim hat (.iface tp p) w hcell (Or.inr ⟨tp, p, rfl⟩)).mono ?_
    rintro e w' ⟨N, rfl, hN, hh, hb⟩
    exact ⟨_, rfl, ⟨_, rfl, .cons (crep1 (ERep.int _ _)) (.cons (crep1 (Or.inr ⟨rfl, _, _, rfl⟩)) .nil)⟩, hb⟩
  · have hv : zq77.v a0 = (Lib.atoiSat a0.data.toList, false) := by unfold zq77.v; rw [hat]
    rw [hv]
    obtain ⟨tp, p, hcell⟩ := HG.errR
    refine (Tryz.strconv_Atoi_range a0 hlim hat (.iface tp p) w hcell (Or.inr ⟨tp, p, rfl⟩)).mono ?_
    rintro e w' ⟨N, rfl, hN, hh, hb⟩
    exact ⟨_, rfl, ⟨_, rfl, .cons (crep1 (ERep.int _ _)) (.cons (crep1 (Or.inr ⟨rfl, _, _, rfl⟩)) .nil)⟩, hb⟩
def zq77.ent (N : Nat) : Ent Tryz.prog T0 := mkEnt 80 [(false, [.any])] zq77.sig (fun t => zq77.g N t) (fun t r h => zq77.good N t r h)

/-! ### zq78 -/
abbrev zq78.R : Type := ByteArray
abbrev zq78.sig : Sig := ⟨[(false, 1)], [], [.int .i64], [(false, 1)], [], [.str]⟩
def zq78.g (N : Nat) (a0 : Int) : Option zq78.R := bif decide (0 ≤ a0) && decide (a0 ≤ 9223372036854775807) then some ⟨(Lib.itoa a0).toArray⟩ else none
theorem zq78.gr {w w2 w3 : World} (hb : Below w.heap.size w w2) (h : ∃ k os, w3 = Go.Sort.grow (w2.drewN k) os) : Below w.heap.size w w3 := by
  obtain ⟨k, os, rfl⟩ := h
  refine ⟨hb.os, hb.tape, hb.output, ?_, fun i hi => ?_⟩
  · show w.heap.size ≤ (w2.heap ++ os).size
    rw [Array.size_append]; have := hb.size; omega
  · show (w2.heap ++ os)[i]? = w.heap[i]?
    rw [Array.getElem?_append_left (by have := hb.size; omega)]
    exact hb.block i hi
theorem zq78.good (N : Nat) (a0 : Int) (r : zq78.R) (h : zq78.g N a0 = some r) : Go.PM.Good Tryz.prog T0 72 [.one (.int .i64 a0)] [] (zq78.sig.ret r) (zq78.sig.bs r) := by
  obtain ⟨hc, h⟩ := bif_some h
  simp only [Bool.and_eq_true, decide_eq_true_eq] at hc
  cases Option.some.inj h
  refine good_glob (T := T0) ⟨_, Tryz.func72, by kernel_rfl, rfl⟩ [.one (.int .i64 a0)] (ret := .one (.str _)) rfl rfl ?_
  intro w C blk vargs hsz hrep hag hgl
  have ev : vargs = #[.int .i64 a0] := (args1 hsz).trans (by rw [rep_int (hrep 0)])
  rw [ev]
  refine (Tryz.strconv_Itoa a0 (by omega) (by omega) w (GlW.tab hgl)).mono ?_
  rintro e w' ⟨rfl, hk⟩
  exact ⟨_, rfl, ERep.str _, zq78.gr (Below.refl _ _) hk⟩
def zq78.ent (N : Nat) : Ent Tryz.prog T0 := mkEnt 72 [(false, [.any])] zq78.sig (fun t => zq78.g N t) (fun t r h => zq78.good N t r h)

end Go.Proofs.YtccjoegnkiaibaaGreatDoor.M
namespace Go.Proofs.YtccjoegnkiaibaaGreatDoor.M
open Go Go.PM Go.Proofs.YtccjoegnkiaibaaGreatDoor.P
set_option linter.unusedVariables false
set_option maxRecDepth 100000
/-! ### zq20 -/
abbrev zq20.R : Type := Int × Int
abbrev zq20.sig : Sig := ⟨[(false, 1), (false, 1)], [], [.int .i64, .int .i64], [(false, 1), (false, 1)], [], [.int .i64, .int .i64]⟩
def zq20.C : Cfg D0 := ⟨Tryz.prog, T0, 33011, 0, 23, 0, [(14, [6, 7], [])], 875264, false, []⟩
def zq20.E (N : Nat) : List (Ent Tryz.prog T0) := []
def zq20.O (N : Nat) : Orc D0 zq20.R := orcOf (zq20.E N)
def zq20.K0 : Ex → St D0 → Option zq20.R := exitK zq20.C Tryz.f108.results.toList [(false, [.any]), (false, [.any])] (decOut zq20.sig)
def zq20.c1 : Code := codeAt (Tryz.f108.body.getD .skip) []
def zq20.c2 : Code := codeAt (Tryz.f108.body.getD .skip) [false]
def zq20.c6 : Code := codeAt (Tryz.f108.body.getD .skip) [true, false]
def zq20.c14 : Code := codeAt (Tryz.f108.body.getD .skip) [true, true, false]
def zq20.c15 : Code := codeAt (Tryz.f108.body.getD .skip) [true, true, true]
def zq20.K15 (N : Nat) : Ex → St D0 → Option zq20.R := zq20.K0
def zq20.o1 (N : Nat) (v0 : Int) (v1 : Int) : Option zq20.R :=
 some (v0, v1)
theorem zq20.o1.run (N : Nat) (v0 : Int) (v1 : Int) : runC zq20.C (zq20.O N) N zq20.c15 15 (mkSt [(6, .one (.int .i64 v0)), (7, .one (.int .i64 v1))] [] : St D0) zq20.K0 = zq20.o1 N v0 v1 := by kernel_rfl
def zq20.d1 (N : Nat) (v0 : Int) (v1 : Int) : Option zq20.R := zq20.o1 N v0 v1
theorem zq20.d1.run (N : Nat) (v0 : Int) (v1 : Int) : runC zq20.C (zq20.O N) N zq20.c15 15 (mkSt [(6, .one (.int .i64 v0)), (7, .one (.int .i64 v1))] [] : St D0) (zq20.K15 N) = zq20.d1 N v0 v1 := by
  exact (zq20.o1.run N v0 v1).trans rfl
def zq20.o0 (N : Nat) (a0 : Int) (a1 : Int) (c1 : Int → Int → Option zq20.R) : Option zq20.R :=
 bif (a1 == 0) then
  none
 else
 bif (a1 == 0) then
  none
 else
 bif (decide ((Int.tmod a0 a1) < 0)) then
  c1 (w64 ((w64 (Int.tdiv a0 a1)) - 1)) (w64 ((Int.tmod a0 a1) + a1))
 else
 c1 (w64 (Int.tdiv a0 a1)) (Int.tmod a0 a1)
theorem zq20.o0.run (N : Nat) (H15 : Code) (a0 : Int) (a1 : Int) : runC zq20.C (zq20.O N) N (.seq zq20.c2 (.seq zq20.c6 (.seq zq20.c14 H15))) 1 (st0 [.one (.int .i64 a0), .one (.int .i64 a1)] [] : St D0) zq20.K0 = zq20.o0 N a0 a1 ((fun w0 w1 => runC zq20.C (zq20.O N) N H15 15 (mkSt [(6, .one (.int .i64 w0)), (7, .one (.int .i64 w1))] [] : St D0) zq20.K0)) := by kernel_rfl
def zq20.g (N : Nat) (a0 : Int) (a1 : Int) : Option zq20.R := zq20.o0 N a0 a1 ((fun w0 w1 => zq20.d1 N w0 w1))
theorem zq20.c1_0 : zq20.c1 = (.seq zq20.c2 (.seq zq20.c6 (.seq zq20.c14 zq20.c15))) := by kernel_rfl
theorem zq20.g.run (N : Nat) (a0 : Int) (a1 : Int) : runC zq20.C (zq20.O N) N zq20.c1 1 (st0 [.one (.int .i64 a0), .one (.int .i64 a1)] [] : St D0) zq20.K0 = zq20.g N a0 a1 := by
  rw [zq20.c1_0]; unfold zq20.g; exact (zq20.o0.run N zq20.c15 a0 a1).trans (congr rfl (funext fun w0 => funext fun w1 => zq20.d1.run N w0 w1))
theorem zq20.good (N : Nat) (a0 : Int) (a1 : Int) (r : zq20.R) (h : zq20.g N a0 a1 = some r) : Go.PM.Good Tryz.prog T0 108 [.one (.int .i64 a0), .one (.int .i64 a1)] [] (zq20.sig.ret r) (zq20.sig.bs r) :=
  good_fn tabOk0 mixed0 zq20.sig (zq20.E N) Tryz.func108 (by kernel_rfl) (by kernel_rfl) 33011 0 0 [(14, [6, 7], [])] 875264 false [] [(false, [.any]), (false, [.any])] (by kernel_rfl) rfl rfl ((zq20.g.run N a0 a1).trans h)
def zq20.ent (N : Nat) : Ent Tryz.prog T0 := mkEnt 108 [(false, [.any]), (false, [.any])] zq20.sig (fun t => zq20.g N t.1 t.2) (fun t r h => zq20.good N t.1 t.2 r h)
/-! ### zq21 -/
abbrev zq21.R : Type := Int
abbrev zq21.sig : Sig := ⟨[(false, 1), (false, 1)], [], [.int .i64, .int .i64], [(false, 1)], [], [.int .i64]⟩
def zq21.C : Cfg D0 := ⟨Tryz.prog, T0, 83, 0, 15, 0, [(12, [0, 1], [])], 6944, false, []⟩
def zq21.E (N : Nat) : List (Ent Tryz.prog T0) := []
def zq21.O (N : Nat) : Orc D0 zq21.R := orcOf (zq21.E N)
def zq21.K0 : Ex → St D0 → Option zq21.R := exitK zq21.C Tryz.f109.results.toList [(false, [.any])] (decOut zq21.sig)
def zq21.c1 : Code := codeAt (Tryz.f109.body.getD .skip) []
def zq21.c2 : Code := codeAt (Tryz.f109.body.getD .skip) [false]
def zq21.c7 : Code := codeAt (Tryz.f109.body.getD .skip) [true, true]
def zq21.c24 : Code := codeAt (Tryz.f109.body.getD .skip) [true, false, false, false]
def zq21.K24 (N : Nat) (Kn12 : St D0 → Option zq21.R) : Ex → St D0 → Option zq21.R := ((fun up => (onN (fun s => zq21.C.tidy 12 s ((onN Kn12 up) .normal)) (onN Kn12 up))) (blockK 0 (onN (fun s => zq21.C.tidy 6 s (fun s' => runC zq21.C (zq21.O N) N zq21.c7 7 s' zq21.K0)) zq21.K0)))
def zq21.o1 (N : Nat) (v0 : Int) (v1 : Int) (c1 : Int → Int → Option zq21.R) : Option zq21.R :=
 bif (v1 != 0) then
  bif (v1 == 0) then
   none
  else
  c1 v1 (Int.tmod v0 v1)
 else
 some ((if (w64 (0 - v0)) > v0 then (w64 (0 - v0)) else v0))
theorem zq21.o1.run (N : Nat) (Kn12 : St D0 → Option zq21.R) (v0 : Int) (v1 : Int) : runC zq21.C (zq21.O N) N zq21.c24 24 (mkSt [(0, .one (.int .i64 v0)), (1, .one (.int .i64 v1))] [] : St D0) ((fun up => (onN (fun s => zq21.C.tidy 12 s ((onN Kn12 up) .normal)) (onN Kn12 up))) (blockK 0 (onN (fun s => zq21.C.tidy 6 s (fun s' => runC zq21.C (zq21.O N) N zq21.c7 7 s' zq21.K0)) zq21.K0))) = zq21.o1 N v0 v1 ((fun w0 w1 => Kn12 (mkSt [(0, .one (.int .i64 w0)), (1, .one (.int .i64 w1))] [] : St D0))) := by kernel_rfl
def zq21.d1 (N : Nat) (v0 : Int) (v1 : Int) (c1 : Int → Int → Option zq21.R) : Option zq21.R := zq21.o1 N v0 v1 c1
theorem zq21.d1.run (N : Nat) (Kn12 : St D0 → Option zq21.R) (v0 : Int) (v1 : Int) : runC zq21.C (zq21.O N) N zq21.c24 24 (mkSt [(0, .one (.int .i64 v0)), (1, .one (.int .i64 v1))] [] : St D0) (zq21.K24 N Kn12) = zq21.d1 N v0 v1 ((fun w0 w1 => Kn12 (mkSt [(0, .one (.int .i64 w0)), (1, .one (.int .i64 w1))] [] : St D0))) := by
  exact (zq21.o1.run N Kn12 v0 v1).trans rfl
def zq21.K12 (N : Nat) : Ex → St D0 → Option zq21.R := (blockK 0 (onN (fun s => zq21.C.tidy 6 s (fun s' => runC zq21.C (zq21.O N) N zq21.c7 7 s' zq21.K0)) zq21.K0))
def zq21.l1 (N : Nat) : Nat → Int → Int → Option zq21.R
  | 0, _, _ => none
  | n + 1, v0, v1 => zq21.d1 N v0 v1 ((fun w0 w1 => zq21.l1 N n w0 w1))
theorem zq21.loop12 (N : Nat) : ∀ n, (∀ (v0 : Int) (v1 : Int), iter (loopF zq21.C (zq21.O N) N zq21.c24 12) n (mkSt [(0, .one (.int .i64 v0)), (1, .one (.int .i64 v1))] [] : St D0) (zq21.K12 N) = zq21.l1 N n v0 v1)
  | 0 => (fun v0 v1 => rfl)
  | n + 1 => (fun v0 v1 => (zq21.d1.run N (fun s => iter (loopF zq21.C (zq21.O N) N zq21.c24 12) n s (zq21.K12 N)) v0 v1).trans (show _ = zq21.d1 N v0 v1 ((fun w0 w1 => zq21.l1 N n w0 w1)) from (congr rfl (funext fun w0 => funext fun w1 => (zq21.loop12 N n) w0 w1))))
def zq21.o0 (N : Nat) (a0 : Int) (a1 : Int) (c1 : Int → Int → Option zq21.R) : Option zq21.R :=
 c1 a0 a1
theorem zq21.o0.run (N : Nat) (H24 : Code) (a0 : Int) (a1 : Int) : runC zq21.C (zq21.O N) N (.seq zq21.c2 (.seq (.block 0 (.loop H24)) zq21.c7)) 1 (st0 [.one (.int .i64 a0), .one (.int .i64 a1)] [] : St D0) zq21.K0 = zq21.o0 N a0 a1 ((fun w0 w1 => iter (loopF zq21.C (zq21.O N) N H24 12) N (mkSt [(0, .one (.int .i64 w0)), (1, .one (.int .i64 w1))] [] : St D0) (blockK 0 (onN (fun s => zq21.C.tidy 6 s (fun s' => runC zq21.C (zq21.O N) N zq21.c7 7 s' zq21.K0)) zq21.K0)))) := by kernel_rfl
def zq21.g (N : Nat) (a0 : Int) (a1 : Int) : Option zq21.R := zq21.o0 N a0 a1 ((fun w0 w1 => zq21.l1 N N w0 w1))
theorem zq21.c1_0 : zq21.c1 = (.seq zq21.c2 (.seq (.block 0 (.loop zq21.c24)) zq21.c7)) := by kernel_rfl
theorem zq21.g.run (N : Nat) (a0 : Int) (a1 : Int) : runC zq21.C (zq21.O N) N zq21.c1 1 (st0 [.one (.int .i64 a0), .one (.int .i64 a1)] [] : St D0) zq21.K0 = zq21.g N a0 a1 := by
  rw [zq21.c1_0]; unfold zq21.g; exact (zq21.o0.run N zq21.c24 a0 a1).trans (congr rfl (funext fun w0 => funext fun w1 => (zq21.loop12 N N) w0 w1))
theorem zq21.good (N : Nat) (a0 : Int) (a1 : Int) (r : zq21.R) (h : zq21.g N a0 a1 = some r) : Go.PM.Good Tryz.prog T0 109 [.one (.int .i64 a0), .one (.int .i64 a1)] [] (zq21.sig.ret r) (zq21.sig.bs r) :=
  good_fn tabOk0 mixed0 zq21.sig (zq21.E N) Tryz.func109 (by kernel_rfl) (by kernel_rfl) 83 0 0 [(12, [0, 1], [])] 6944 false [] [(false, [.any])] (by kernel_rfl) rfl rfl ((zq21.g.run N a0 a1).trans h)
def zq21.ent (N : Nat) : Ent Tryz.prog T0 := mkEnt 109 [(false, [.any]), (false, [.any])] zq21.sig (fun t => zq21.g N t.1 t.2) (fun t r h => zq21.good N t.1 t.2 r h)
/-! ### zq26 -/
abbrev zq26.R : Type := Int × Int
abbrev zq26.sig : Sig := ⟨[(false, 1), (false, 1)], [], [.int .i64, .int .i64], [(true, 2)], [], [.int .i64, .int .i64]⟩
def zq26.C : Cfg D0 := ⟨Tryz.prog, T0, 211, 0, 24, 0, [], 3589632, false, []⟩
def zq26.E (N : Nat) : List (Ent Tryz.prog T0) := [zq20.ent N, zq21.ent N]
def zq26.O (N : Nat) : Orc D0 zq26.R := orcOf (zq26.E N)
def zq26.K0 : Ex → St D0 → Option zq26.R := exitK zq26.C Tryz.f71.results.toList [(true, [.any, .any])] (decOut zq26.sig)
def zq26.c1 : Code := codeAt (Tryz.f71.body.getD .skip) []
def zq26.o0 (N : Nat) (a0 : Int) (a1 : Int) : Option zq26.R :=
 (zq20.g N a0 a1).bind fun r1 =>
 (zq21.g N r1.2 a1).bind fun r2 =>
 bif (r2 == 0) then
  none
 else
 bif (r2 == 0) then
  none
 else
 some ((w64 (Int.tdiv r1.2 r2)), (w64 (Int.tdiv a1 r2)))
theorem zq26.o0.run (N : Nat) (a0 : Int) (a1 : Int) : runC zq26.C (zq26.O N) N zq26.c1 1 (st0 [.one (.int .i64 a0), .one (.int .i64 a1)] [] : St D0) zq26.K0 = zq26.o0 N a0 a1 := by kernel_rfl
def zq26.g (N : Nat) (a0 : Int) (a1 : Int) : Option zq26.R := zq26.o0 N a0 a1
theorem zq26.g.run (N : Nat) (a0 : Int) (a1 : Int) : runC zq26.C (zq26.O N) N zq26.c1 1 (st0 [.one (.int .i64 a0), .one (.int .i64 a1)] [] : St D0) zq26.K0 = zq26.g N a0 a1 := by
  exact (zq26.o0.run N a0 a1).trans rfl
theorem zq26.good (N : Nat) (a0 : Int) (a1 : Int) (r : zq26.R) (h : zq26.g N a0 a1 = some r) : Go.PM.Good Tryz.prog T0 71 [.one (.int .i64 a0), .one (.int .i64 a1)] [] (zq26.sig.ret r) (zq26.sig.bs r) :=
  good_fn tabOk0 mixed0 zq26.sig (zq26.E N) Tryz.func71 (by kernel_rfl) (by kernel_rfl) 211 0 0 [] 3589632 false [] [(true, [.any, .any])] (by kernel_rfl) rfl rfl ((zq26.g.run N a0 a1).trans h)
def zq26.ent (N : Nat) : Ent Tryz.prog T0 := mkEnt 71 [(false, [.any]), (false, [.any])] zq26.sig (fun t => zq26.g N t.1 t.2) (fun t r h => zq26.good N t.1 t.2 r h)
/-! ### zq17 -/
abbrev zq17.R : Type := Int × Int
abbrev zq17.sig : Sig := ⟨[(true, 2), (false, 1)], [], [.int .i64, .int .i64, .int .i64], [(true, 2)], [], [.int .i64, .int .i64]⟩
def zq17.C : Cfg D0 := ⟨Tryz.prog, T0, 23, 0, 12, 0, [], 128, false, []⟩
def zq17.E (N : Nat) : List (Ent Tryz.prog T0) := [zq26.ent N]
def zq17.O (N : Nat) : Orc D0 zq17.R := orcOf (zq17.E N)
def zq17.K0 : Ex → St D0 → Option zq17.R := exitK zq17.C Tryz.f59.results.toList [(true, [.any, .any])] (decOut zq17.sig)
def zq17.c1 : Code := codeAt (Tryz.f59.body.getD .skip) []
def zq17.o0 (N : Nat) (a0_0 : Int) (a0_1 : Int) (a1 : Int) : Option zq17.R :=
 (zq26.g N (w64 (a0_0 * a1)) a0_1).bind fun r1 =>
 some (r1.1, r1.2)
theorem zq17.o0.run (N : Nat) (a0_0 : Int) (a0_1 : Int) (a1 : Int) : runC zq17.C (zq17.O N) N zq17.c1 1 (st0 [.agg [.int .i64 a0_0, .int .i64 a0_1], .one (.int .i64 a1)] [] : St D0) zq17.K0 = zq17.o0 N a0_0 a0_1 a1 := by kernel_rfl
def zq17.g (N : Nat) (a0_0 : Int) (a0_1 : Int) (a1 : Int) : Option zq17.R := zq17.o0 N a0_0 a0_1 a1
theorem zq17.g.run (N : Nat) (a0_0 : Int) (a0_1 : Int) (a1 : Int) : runC zq17.C (zq17.O N) N zq17.c1 1 (st0 [.agg [.int .i64 a0_0, .int .i64 a0_1], .one (.int .i64 a1)] [] : St D0) zq17.K0 = zq17.g N a0_0 a0_1 a1 := by
  exact (zq17.o0.run N a0_0 a0_1 a1).trans rfl
theorem zq17.good (N : Nat) (a0_0 : Int) (a0_1 : Int) (a1 : Int) (r : zq17.R) (h : zq17.g N a0_0 a0_1 a1 = some r) : Go.PM.Good Tryz.prog T0 59 [.agg [.int .i64 a0_0, .int .i64 a0_1], .one (.int .i64 a1)] [] (zq17.sig.ret r) (zq17.sig.bs r) :=
  good_fn tabOk0 mixed0 zq17.sig (zq17.E N) Tryz.func59 (by kernel_rfl) (by kernel_rfl) 23 0 0 [] 128 false [] [(true, [.any, .any])] (by kernel_rfl) rfl rfl ((zq17.g.run N a0_0 a0_1 a1).trans h)
def zq17.ent (N : Nat) : Ent Tryz.prog T0 := mkEnt 59 [(true, [.any, .any]), (false, [.any])] zq17.sig (fun t => zq17.g N t.1 t.2.1 t.2.2) (fun t r h => zq17.good N t.1 t.2.1 t.2.2 r h)
/-! ### zq5 -/
abbrev zq5.R : Type := Bool
abbrev zq5.sig : Sig := ⟨[(true, 2)], [], [.int .i64, .int .i64], [(false, 1)], [], [.bool]⟩
def zq5.C : Cfg D0 := ⟨Tryz.prog, T0, 7, 0, 22, 0, [], 0, false, []⟩
def zq5.E (N : Nat) : List (Ent Tryz.prog T0) := [zq31.ent N, zq21.ent N]
def zq5.O (N : Nat) : Orc D0 zq5.R := orcOf (zq5.E N)
def zq5.K0 : Ex → St D0 → Option zq5.R := exitK zq5.C Tryz.f103.results.toList [(false, [.any])] (decOut zq5.sig)
def zq5.c1 : Code := codeAt (Tryz.f103.body.getD .skip) []
def zq5.o0 (N : Nat) (a0_0 : Int) (a0_1 : Int) : Option zq5.R :=
 (zq31.g N a0_1 1 1000000).bind fun r1 =>
 bif r1 then
  (zq31.g N a0_0 0 (w64 (a0_1 - 1))).bind fun r2 =>
  bif r2 then
   (zq21.g N a0_0 a0_1).bind fun r3 =>
   some ((r3 == 1))
  else
  some (false)
 else
 some (false)
theorem zq5.o0.run (N : Nat) (a0_0 : Int) (a0_1 : Int) : runC zq5.C (zq5.O N) N zq5.c1 1 (st0 [.agg [.int .i64 a0_0, .int .i64 a0_1]] [] : St D0) zq5.K0 = zq5.o0 N a0_0 a0_1 := by kernel_rfl
def zq5.g (N : Nat) (a0_0 : Int) (a0_1 : Int) : Option zq5.R := zq5.o0 N a0_0 a0_1
theorem zq5.g.run (N : Nat) (a0_0 : Int) (a0_1 : Int) : runC zq5.C (zq5.O N) N zq5.c1 1 (st0 [.agg [.int .i64 a0_0, .int .i64 a0_1]] [] : St D0) zq5.K0 = zq5.g N a0_0 a0_1 := by
  exact (zq5.o0.run N a0_0 a0_1).trans rfl
theorem zq5.good (N : Nat) (a0_0 : Int) (a0_1 : Int) (r : zq5.R) (h : zq5.g N a0_0 a0_1 = some r) : Go.PM.Good Tryz.prog T0 103 [.agg [.int .i64 a0_0, .int .i64 a0_1]] [] (zq5.sig.ret r) (zq5.sig.bs r) :=
  good_fn tabOk0 mixed0 zq5.sig (zq5.E N) Tryz.func103 (by kernel_rfl) (by kernel_rfl) 7 0 0 [] 0 false [] [(false, [.any])] (by kernel_rfl) rfl rfl ((zq5.g.run N a0_0 a0_1).trans h)
def zq5.ent (N : Nat) : Ent Tryz.prog T0 := mkEnt 103 [(true, [.any, .any])] zq5.sig (fun t => zq5.g N t.1 t.2) (fun t r h => zq5.good N t.1 t.2 r h)
/-! ### zq25 -/
abbrev zq25.R : Type := Bool
abbrev zq25.sig : Sig := ⟨[(false, 1), (true, 2)], [], [.int .i64, .int .i64, .int .i64], [(false, 1)], [], [.bool]⟩
def zq25.C : Cfg D0 := ⟨Tryz.prog, T0, 27, 0, 11, 0, [], 32, false, []⟩
def zq25.E (N : Nat) : List (Ent Tryz.prog T0) := [zq24.ent N, zq5.ent N]
def zq25.O (N : Nat) : Orc D0 zq25.R := orcOf (zq25.E N)
def zq25.K0 : Ex → St D0 → Option zq25.R := exitK zq25.C Tryz.f58.results.toList [(false, [.any])] (decOut zq25.sig)
def zq25.c1 : Code := codeAt (Tryz.f58.body.getD .skip) []
def zq25.o0 (N : Nat) (a0 : Int) (a1_0 : Int) (a1_1 : Int) : Option zq25.R :=
 (zq24.g N a0).bind fun r1 =>
 bif r1 then
  (zq5.g N a1_0 a1_1).bind fun r2 =>
  some (r2)
 else
 some (false)
theorem zq25.o0.run (N : Nat) (a0 : Int) (a1_0 : Int) (a1_1 : Int) : runC zq25.C (zq25.O N) N zq25.c1 1 (st0 [.one (.int .i64 a0), .agg [.int .i64 a1_0, .int .i64 a1_1]] [] : St D0) zq25.K0 = zq25.o0 N a0 a1_0 a1_1 := by kernel_rfl
def zq25.g (N : Nat) (a0 : Int) (a1_0 : Int) (a1_1 : Int) : Option zq25.R := zq25.o0 N a0 a1_0 a1_1
theorem zq25.g.run (N : Nat) (a0 : Int) (a1_0 : Int) (a1_1 : Int) : runC zq25.C (zq25.O N) N zq25.c1 1 (st0 [.one (.int .i64 a0), .agg [.int .i64 a1_0, .int .i64 a1_1]] [] : St D0) zq25.K0 = zq25.g N a0 a1_0 a1_1 := by
  exact (zq25.o0.run N a0 a1_0 a1_1).trans rfl
theorem zq25.good (N : Nat) (a0 : Int) (a1_0 : Int) (a1_1 : Int) (r : zq25.R) (h : zq25.g N a0 a1_0 a1_1 = some r) : Go.PM.Good Tryz.prog T0 58 [.one (.int .i64 a0), .agg [.int .i64 a1_0, .int .i64 a1_1]] [] (zq25.sig.ret r) (zq25.sig.bs r) :=
  good_fn tabOk0 mixed0 zq25.sig (zq25.E N) Tryz.func58 (by kernel_rfl) (by kernel_rfl) 27 0 0 [] 32 false [] [(false, [.any])] (by kernel_rfl) rfl rfl ((zq25.g.run N a0 a1_0 a1_1).trans h)
def zq25.ent (N : Nat) : Ent Tryz.prog T0 := mkEnt 58 [(false, [.any]), (true, [.any, .any])] zq25.sig (fun t => zq25.g N t.1 t.2.1 t.2.2) (fun t r h => zq25.good N t.1 t.2.1 t.2.2 r h)
/-! ### zq52 -/
abbrev zq52.R : Type := Int
abbrev zq52.sig : Sig := ⟨[(false, 1), (false, 1)], [], [.int .i64, .int .i64], [(false, 1)], [], [.int .i64]⟩
def zq52.C : Cfg D0 := ⟨Tryz.prog, T0, 83, 0, 12, 0, [(12, [0, 1], [])], 800, false, []⟩
def zq52.E (N : Nat) : List (Ent Tryz.prog T0) := []
def zq52.O (N : Nat) : Orc D0 zq52.R := orcOf (zq52.E N)
def zq52.K0 : Ex → St D0 → Option zq52.R := exitK zq52.C Tryz.f107.results.toList [(false, [.any])] (decOut zq52.sig)
def zq52.c1 : Code := codeAt (Tryz.f107.body.getD .skip) []
def zq52.c2 : Code := codeAt (Tryz.f107.body.getD .skip) [false]
def zq52.c7 : Code := codeAt (Tryz.f107.body.getD .skip) [true, true]
def zq52.c24 : Code := codeAt (Tryz.f107.body.getD .skip) [true, false, false, false]
def zq52.K24 (N : Nat) (Kn12 : St D0 → Option zq52.R) : Ex → St D0 → Option zq52.R := ((fun up => (onN (fun s => zq52.C.tidy 12 s ((onN Kn12 up) .normal)) (onN Kn12 up))) (blockK 0 (onN (fun s => zq52.C.tidy 6 s (fun s' => runC zq52.C (zq52.O N) N zq52.c7 7 s' zq52.K0)) zq52.K0)))
def zq52.o1 (N : Nat) (v0 : Int) (v1 : Int) (c1 : Int → Int → Option zq52.R) : Option zq52.R :=
 bif (decide (v1 > 0)) then
  bif (v1 == 0) then
   none
  else
  c1 v1 (Int.tmod v0 v1)
 else
 some (v0)
theorem zq52.o1.run (N : Nat) (Kn12 : St D0 → Option zq52.R) (v0 : Int) (v1 : Int) : runC zq52.C (zq52.O N) N zq52.c24 24 (mkSt [(0, .one (.int .i64 v0)), (1, .one (.int .i64 v1))] [] : St D0) ((fun up => (onN (fun s => zq52.C.tidy 12 s ((onN Kn12 up) .normal)) (onN Kn12 up))) (blockK 0 (onN (fun s => zq52.C.tidy 6 s (fun s' => runC zq52.C (zq52.O N) N zq52.c7 7 s' zq52.K0)) zq52.K0))) = zq52.o1 N v0 v1 ((fun w0 w1 => Kn12 (mkSt [(0, .one (.int .i64 w0)), (1, .one (.int .i64 w1))] [] : St D0))) := by kernel_rfl
def zq52.d1 (N : Nat) (v0 : Int) (v1 : Int) (c1 : Int → Int → Option zq52.R) : Option zq52.R := zq52.o1 N v0 v1 c1
theorem zq52.d1.run (N : Nat) (Kn12 : St D0 → Option zq52.R) (v0 : Int) (v1 : Int) : runC zq52.C (zq52.O N) N zq52.c24 24 (mkSt [(0, .one (.int .i64 v0)), (1, .one (.int .i64 v1))] [] : St D0) (zq52.K24 N Kn12) = zq52.d1 N v0 v1 ((fun w0 w1 => Kn12 (mkSt [(0, .one (.int .i64 w0)), (1, .one (.int .i64 w1))] [] : St D0))) := by
  exact (zq52.o1.run N Kn12 v0 v1).trans rfl
def zq52.K12 (N : Nat) : Ex → St D0 → Option zq52.R := (blockK 0 (onN (fun s => zq52.C.tidy 6 s (fun s' => runC zq52.C (zq52.O N) N zq52.c7 7 s' zq52.K0)) zq52.K0))
def zq52.l1 (N : Nat) : Nat → Int → Int → Option zq52.R
  | 0, _, _ => none
  | n + 1, v0, v1 => zq52.d1 N v0 v1 ((fun w0 w1 => zq52.l1 N n w0 w1))
theorem zq52.loop12 (N : Nat) : ∀ n, (∀ (v0 : Int) (v1 : Int), iter (loopF zq52.C (zq52.O N) N zq52.c24 12) n (mkSt [(0, .one (.int .i64 v0)), (1, .one (.int .i64 v1))] [] : St D0) (zq52.K12 N) = zq52.l1 N n v0 v1)
  | 0 => (fun v0 v1 => rfl)
  | n + 1 => (fun v0 v1 => (zq52.d1.run N (fun s => iter (loopF zq52.C (zq52.O N) N zq52.c24 12) n s (zq52.K12 N)) v0 v1).trans (show _ = zq52.d1 N v0 v1 ((fun w0 w1 => zq52.l1 N n w0 w1)) from (congr rfl (funext fun w0 => funext fun w1 => (zq52.loop12 N n) w0 w1))))
def zq52.o0 (N : Nat) (a0 : Int) (a1 : Int) (c1 : Int → Int → Option zq52.R) : Option zq52.R :=
 c1 a0 a1
theorem zq52.o0.run (N : Nat) (H24 : Code) (a0 : Int) (a1 : Int) : runC zq52.C (zq52.O N) N (.seq zq52.c2 (.seq (.block 0 (.loop H24)) zq52.c7)) 1 (st0 [.one (.int .i64 a0), .one (.int .i64 a1)] [] : St D0) zq52.K0 = zq52.o0 N a0 a1 ((fun w0 w1 => iter (loopF zq52.C (zq52.O N) N H24 12) N (mkSt [(0, .one (.int .i64 w0)), (1, .one (.int .i64 w1))] [] : St D0) (blockK 0 (onN (fun s => zq52.C.tidy 6 s (fun s' => runC zq52.C (zq52.O N) N zq52.c7 7 s' zq52.K0)) zq52.K0)))) := by kernel_rfl
def zq52.g (N : Nat) (a0 : Int) (a1 : Int) : Option zq52.R := zq52.o0 N a0 a1 ((fun w0 w1 => zq52.l1 N N w0 w1))
theorem zq52.c1_0 : zq52.c1 = (.seq zq52.c2 (.seq (.block 0 (.loop zq52.c24)) zq52.c7)) := by kernel_rfl
theorem zq52.g.run (N : Nat) (a0 : Int) (a1 : Int) : runC zq52.C (zq52.O N) N zq52.c1 1 (st0 [.one (.int .i64 a0), .one (.int .i64 a1)] [] : St D0) zq52.K0 = zq52.g N a0 a1 := by
  rw [zq52.c1_0]; unfold zq52.g; exact (zq52.o0.run N zq52.c24 a0 a1).trans (congr rfl (funext fun w0 => funext fun w1 => (zq52.loop12 N N) w0 w1))
theorem zq52.good (N : Nat) (a0 : Int) (a1 : Int) (r : zq52.R) (h : zq52.g N a0 a1 = some r) : Go.PM.Good Tryz.prog T0 107 [.one (.int .i64 a0), .one (.int .i64 a1)] [] (zq52.sig.ret r) (zq52.sig.bs r) :=
  good_fn tabOk0 mixed0 zq52.sig (zq52.E N) Tryz.func107 (by kernel_rfl) (by kernel_rfl) 83 0 0 [(12, [0, 1], [])] 800 false [] [(false, [.any])] (by kernel_rfl) rfl rfl ((zq52.g.run N a0 a1).trans h)
def zq52.ent (N : Nat) : Ent Tryz.prog T0 := mkEnt 107 [(false, [.any]), (false, [.any])] zq52.sig (fun t => zq52.g N t.1 t.2) (fun t r h => zq52.good N t.1 t.2 r h)
/-! ### zq56 -/
abbrev zq56.R : Type := Int × Int × Bool
abbrev zq56.sig : Sig := ⟨[(false, 1), (false, 1)], [], [.int .i64, .int .i64], [(true, 2), (false, 1)], [], [.int .i64, .int .i64, .bool]⟩
def zq56.C : Cfg D0 := ⟨Tryz.prog, T0, 134217971, 0, 30, 0, [], 7187200, false, []⟩
def zq56.E (N : Nat) : List (Ent Tryz.prog T0) := [zq52.ent N]
def zq56.O (N : Nat) : Orc D0 zq56.R := orcOf (zq56.E N)
def zq56.K0 : Ex → St D0 → Option zq56.R := exitK zq56.C Tryz.f69.results.toList [(true, [.any, .any]), (false, [.any])] (decOut zq56.sig)
def zq56.c1 : Code := codeAt (Tryz.f69.body.getD .skip) []
def zq56.o0 (N : Nat) (a0 : Int) (a1 : Int) : Option zq56.R :=
 bif (a1 == 0) then
  none
 else
 bif (a1 == 0) then
  none
 else
 (zq52.g N (Int.tmod (w64 ((Int.tmod a0 a1) + a1)) a1) a1).bind fun r1 =>
 bif (r1 == 0) then
  none
 else
 bif (r1 == 0) then
  none
 else
 bif (decide ((w64 (Int.tdiv a1 r1)) > 1000000)) then
  some (0, 0, false)
 else
 some ((w64 (Int.tdiv (Int.tmod (w64 ((Int.tmod a0 a1) + a1)) a1) r1)), (w64 (Int.tdiv a1 r1)), true)
theorem zq56.o0.run (N : Nat) (a0 : Int) (a1 : Int) : runC zq56.C (zq56.O N) N zq56.c1 1 (st0 [.one (.int .i64 a0), .one (.int .i64 a1)] [] : St D0) zq56.K0 = zq56.o0 N a0 a1 := by kernel_rfl
def zq56.g (N : Nat) (a0 : Int) (a1 : Int) : Option zq56.R := zq56.o0 N a0 a1
theorem zq56.g.run (N : Nat) (a0 : Int) (a1 : Int) : runC zq56.C (zq56.O N) N zq56.c1 1 (st0 [.one (.int .i64 a0), .one (.int .i64 a1)] [] : St D0) zq56.K0 = zq56.g N a0 a1 := by
  exact (zq56.o0.run N a0 a1).trans rfl
theorem zq56.good (N : Nat) (a0 : Int) (a1 : Int) (r : zq56.R) (h : zq56.g N a0 a1 = some r) : Go.PM.Good Tryz.prog T0 69 [.one (.int .i64 a0), .one (.int .i64 a1)] [] (zq56.sig.ret r) (zq56.sig.bs r) :=
  good_fn tabOk0 mixed0 zq56.sig (zq56.E N) Tryz.func69 (by kernel_rfl) (by kernel_rfl) 134217971 0 0 [] 7187200 false [] [(true, [.any, .any]), (false, [.any])] (by kernel_rfl) rfl rfl ((zq56.g.run N a0 a1).trans h)
def zq56.ent (N : Nat) : Ent Tryz.prog T0 := mkEnt 69 [(false, [.any]), (false, [.any])] zq56.sig (fun t => zq56.g N t.1 t.2) (fun t r h => zq56.good N t.1 t.2 r h)
/-! ### zq61 -/
abbrev zq61.R : Type := Int × Int
abbrev zq61.sig : Sig := ⟨[(true, 2), (false, 1)], [], [.int .i64, .int .i64, .int .i64], [(true, 2)], [], [.int .i64, .int .i64]⟩
def zq61.C : Cfg D0 := ⟨Tryz.prog, T0, 55, 0, 18, 0, [], 1024, false, []⟩
def zq61.E (N : Nat) : List (Ent Tryz.prog T0) := [zq56.ent N]
def zq61.O (N : Nat) : Orc D0 zq61.R := orcOf (zq61.E N)
def zq61.K0 : Ex → St D0 → Option zq61.R := exitK zq61.C Tryz.f61.results.toList [(true, [.any, .any])] (decOut zq61.sig)
def zq61.c1 : Code := codeAt (Tryz.f61.body.getD .skip) []
def zq61.o0 (N : Nat) (a0_0 : Int) (a0_1 : Int) (a1 : Int) : Option zq61.R :=
 (zq56.g N (w64 (a0_0 * a1)) a0_1).bind fun r1 =>
 some (r1.1, r1.2.1)
theorem zq61.o0.run (N : Nat) (a0_0 : Int) (a0_1 : Int) (a1 : Int) : runC zq61.C (zq61.O N) N zq61.c1 1 (st0 [.agg [.int .i64 a0_0, .int .i64 a0_1], .one (.int .i64 a1)] [] : St D0) zq61.K0 = zq61.o0 N a0_0 a0_1 a1 := by kernel_rfl
def zq61.g (N : Nat) (a0_0 : Int) (a0_1 : Int) (a1 : Int) : Option zq61.R := zq61.o0 N a0_0 a0_1 a1
theorem zq61.g.run (N : Nat) (a0_0 : Int) (a0_1 : Int) (a1 : Int) : runC zq61.C (zq61.O N) N zq61.c1 1 (st0 [.agg [.int .i64 a0_0, .int .i64 a0_1], .one (.int .i64 a1)] [] : St D0) zq61.K0 = zq61.g N a0_0 a0_1 a1 := by
  exact (zq61.o0.run N a0_0 a0_1 a1).trans rfl
theorem zq61.good (N : Nat) (a0_0 : Int) (a0_1 : Int) (a1 : Int) (r : zq61.R) (h : zq61.g N a0_0 a0_1 a1 = some r) : Go.PM.Good Tryz.prog T0 61 [.agg [.int .i64 a0_0, .int .i64 a0_1], .one (.int .i64 a1)] [] (zq61.sig.ret r) (zq61.sig.bs r) :=
  good_fn tabOk0 mixed0 zq61.sig (zq61.E N) Tryz.func61 (by kernel_rfl) (by kernel_rfl) 55 0 0 [] 1024 false [] [(true, [.any, .any])] (by kernel_rfl) rfl rfl ((zq61.g.run N a0_0 a0_1 a1).trans h)
def zq61.ent (N : Nat) : Ent Tryz.prog T0 := mkEnt 61 [(true, [.any, .any]), (false, [.any])] zq61.sig (fun t => zq61.g N t.1 t.2.1 t.2.2) (fun t r h => zq61.good N t.1 t.2.1 t.2.2 r h)
/-! ### zq54 -/
abbrev zq54.R : Type := Bool
abbrev zq54.sig : Sig := ⟨[(true, 2)], [], [.int .i64, .int .i64], [(false, 1)], [], [.bool]⟩
def zq54.C : Cfg D0 := ⟨Tryz.prog, T0, 7, 0, 22, 0, [], 0, false, []⟩
def zq54.E (N : Nat) : List (Ent Tryz.prog T0) := [zq71.ent N, zq52.ent N]
def zq54.O (N : Nat) : Orc D0 zq54.R := orcOf (zq54.E N)
def zq54.K0 : Ex → St D0 → Option zq54.R := exitK zq54.C Tryz.f104.results.toList [(false, [.any])] (decOut zq54.sig)
def zq54.c1 : Code := codeAt (Tryz.f104.body.getD .skip) []
def zq54.o0 (N : Nat) (a0_0 : Int) (a0_1 : Int) : Option zq54.R :=
 (zq71.g N a0_1 1 1000000).bind fun r1 =>
 bif r1 then
  (zq71.g N a0_0 0 (w64 (a0_1 - 1))).bind fun r2 =>
  bif r2 then
   (zq52.g N a0_0 a0_1).bind fun r3 =>
   some ((r3 == 1))
  else
  some (false)
 else
 some (false)
theorem zq54.o0.run (N : Nat) (a0_0 : Int) (a0_1 : Int) : runC zq54.C (zq54.O N) N zq54.c1 1 (st0 [.agg [.int .i64 a0_0, .int .i64 a0_1]] [] : St D0) zq54.K0 = zq54.o0 N a0_0 a0_1 := by kernel_rfl
def zq54.g (N : Nat) (a0_0 : Int) (a0_1 : Int) : Option zq54.R := zq54.o0 N a0_0 a0_1
theorem zq54.g.run (N : Nat) (a0_0 : Int) (a0_1 : Int) : runC zq54.C (zq54.O N) N zq54.c1 1 (st0 [.agg [.int .i64 a0_0, .int .i64 a0_1]] [] : St D0) zq54.K0 = zq54.g N a0_0 a0_1 := by
  exact (zq54.o0.run N a0_0 a0_1).trans rfl
theorem zq54.good (N : Nat) (a0_0 : Int) (a0_1 : Int) (r : zq54.R) (h : zq54.g N a0_0 a0_1 = some r) : Go.PM.Good Tryz.prog T0 104 [.agg [.int .i64 a0_0, .int .i64 a0_1]] [] (zq54.sig.ret r) (zq54.sig.bs r) :=
  good_fn tabOk0 mixed0 zq54.sig (zq54.E N) Tryz.func104 (by kernel_rfl) (by kernel_rfl) 7 0 0 [] 0 false [] [(false, [.any])] (by kernel_rfl) rfl rfl ((zq54.g.run N a0_0 a0_1).trans h)
def zq54.ent (N : Nat) : Ent Tryz.prog T0 := mkEnt 104 [(true, [.any, .any])] zq54.sig (fun t => zq54.g N t.1 t.2) (fun t r h => zq54.good N t.1 t.2 r h)
/-! ### zq51 -/
abbrev zq51.R : Type := Bool
abbrev zq51.sig : Sig := ⟨[(false, 1), (true, 2)], [], [.int .i64, .int .i64, .int .i64], [(false, 1)], [], [.bool]⟩
def zq51.C : Cfg D0 := ⟨Tryz.prog, T0, 27, 0, 11, 0, [], 32, false, []⟩
def zq51.E (N : Nat) : List (Ent Tryz.prog T0) := [zq55.ent N, zq54.ent N]
def zq51.O (N : Nat) : Orc D0 zq51.R := orcOf (zq51.E N)
def zq51.K0 : Ex → St D0 → Option zq51.R := exitK zq51.C Tryz.f60.results.toList [(false, [.any])] (decOut zq51.sig)
def zq51.c1 : Code := codeAt (Tryz.f60.body.getD .skip) []
def zq51.o0 (N : Nat) (a0 : Int) (a1_0 : Int) (a1_1 : Int) : Option zq51.R :=
 (zq55.g N a0).bind fun r1 =>
 bif r1 then
  (zq54.g N a1_0 a1_1).bind fun r2 =>
  some (r2)
 else
 some (false)
theorem zq51.o0.run (N : Nat) (a0 : Int) (a1_0 : Int) (a1_1 : Int) : runC zq51.C (zq51.O N) N zq51.c1 1 (st0 [.one (.int .i64 a0), .agg [.int .i64 a1_0, .int .i64 a1_1]] [] : St D0) zq51.K0 = zq51.o0 N a0 a1_0 a1_1 := by kernel_rfl
def zq51.g (N : Nat) (a0 : Int) (a1_0 : Int) (a1_1 : Int) : Option zq51.R := zq51.o0 N a0 a1_0 a1_1
theorem zq51.g.run (N : Nat) (a0 : Int) (a1_0 : Int) (a1_1 : Int) : runC zq51.C (zq51.O N) N zq51.c1 1 (st0 [.one (.int .i64 a0), .agg [.int .i64 a1_0, .int .i64 a1_1]] [] : St D0) zq51.K0 = zq51.g N a0 a1_0 a1_1 := by
  exact (zq51.o0.run N a0 a1_0 a1_1).trans rfl
theorem zq51.good (N : Nat) (a0 : Int) (a1_0 : Int) (a1_1 : Int) (r : zq51.R) (h : zq51.g N a0 a1_0 a1_1 = some r) : Go.PM.Good Tryz.prog T0 60 [.one (.int .i64 a0), .agg [.int .i64 a1_0, .int .i64 a1_1]] [] (zq51.sig.ret r) (zq51.sig.bs r) :=
  good_fn tabOk0 mixed0 zq51.sig (zq51.E N) Tryz.func60 (by kernel_rfl) (by kernel_rfl) 27 0 0 [] 32 false [] [(false, [.any])] (by kernel_rfl) rfl rfl ((zq51.g.run N a0 a1_0 a1_1).trans h)
def zq51.ent (N : Nat) : Ent Tryz.prog T0 := mkEnt 60 [(false, [.any]), (true, [.any, .any])] zq51.sig (fun t => zq51.g N t.1 t.2.1 t.2.2) (fun t r h => zq51.good N t.1 t.2.1 t.2.2 r h)
/-! ### zq6 -/
abbrev zq6.R : Type := Int × Int × Bool
abbrev zq6.sig : Sig := ⟨[(false, 1), (true, 2)], [], [.int .i64, .int .i64, .int .i64], [(true, 2), (false, 1)], [], [.int .i64, .int .i64, .bool]⟩
def zq6.C : Cfg D0 := ⟨Tryz.prog, T0, 571, 0, 14, 0, [], 4160, false, []⟩
def zq6.E (N : Nat) : List (Ent Tryz.prog T0) := [zq25.ent N, zq17.ent N]
def zq6.O (N : Nat) : Orc D0 zq6.R := orcOf (zq6.E N)
def zq6.K0 : Ex → St D0 → Option zq6.R := exitK zq6.C Tryz.f7.results.toList [(true, [.any, .any]), (false, [.any])] (decOut zq6.sig)
def zq6.c1 : Code := codeAt (Tryz.f7.body.getD .skip) []
def zq6.o0 (N : Nat) (a0 : Int) (a1_0 : Int) (a1_1 : Int) : Option zq6.R :=
 (zq25.g N a0 a1_0 a1_1).bind fun r1 =>
 bif (!r1) then
  some (0, 0, false)
 else
 (zq17.g N a1_0 a1_1 a0).bind fun r2 =>
 some (r2.1, r2.2, true)
theorem zq6.o0.run (N : Nat) (a0 : Int) (a1_0 : Int) (a1_1 : Int) : runC zq6.C (zq6.O N) N zq6.c1 1 (st0 [.one (.int .i64 a0), .agg [.int .i64 a1_0, .int .i64 a1_1]] [] : St D0) zq6.K0 = zq6.o0 N a0 a1_0 a1_1 := by kernel_rfl
def zq6.g (N : Nat) (a0 : Int) (a1_0 : Int) (a1_1 : Int) : Option zq6.R := zq6.o0 N a0 a1_0 a1_1
theorem zq6.g.run (N : Nat) (a0 : Int) (a1_0 : Int) (a1_1 : Int) : runC zq6.C (zq6.O N) N zq6.c1 1 (st0 [.one (.int .i64 a0), .agg [.int .i64 a1_0, .int .i64 a1_1]] [] : St D0) zq6.K0 = zq6.g N a0 a1_0 a1_1 := by
  exact (zq6.o0.run N a0 a1_0 a1_1).trans rfl
theorem zq6.good (N : Nat) (a0 : Int) (a1_0 : Int) (a1_1 : Int) (r : zq6.R) (h : zq6.g N a0 a1_0 a1_1 = some r) : Go.PM.Good Tryz.prog T0 7 [.one (.int .i64 a0), .agg [.int .i64 a1_0, .int .i64 a1_1]] [] (zq6.sig.ret r) (zq6.sig.bs r) :=
  good_fn tabOk0 mixed0 zq6.sig (zq6.E N) Tryz.func7 (by kernel_rfl) (by kernel_rfl) 571 0 0 [] 4160 false [] [(true, [.any, .any]), (false, [.any])] (by kernel_rfl) rfl rfl ((zq6.g.run N a0 a1_0 a1_1).trans h)
def zq6.ent (N : Nat) : Ent Tryz.prog T0 := mkEnt 7 [(false, [.any]), (true, [.any, .any])] zq6.sig (fun t => zq6.g N t.1 t.2.1 t.2.2) (fun t r h => zq6.good N t.1 t.2.1 t.2.2 r h)
/-! ### zq43 -/
abbrev zq43.R : Type := Int × Int × Bool
abbrev zq43.sig : Sig := ⟨[(false, 1), (true, 2)], [], [.int .i64, .int .i64, .int .i64], [(true, 2), (false, 1)], [], [.int .i64, .int .i64, .bool]⟩
def zq43.C : Cfg D0 := ⟨Tryz.prog, T0, 571, 0, 14, 0, [], 4160, false, []⟩
def zq43.E (N : Nat) : List (Ent Tryz.prog T0) := [zq51.ent N, zq61.ent N]
def zq43.O (N : Nat) : Orc D0 zq43.R := orcOf (zq43.E N)
def zq43.K0 : Ex → St D0 → Option zq43.R := exitK zq43.C Tryz.f8.results.toList [(true, [.any, .any]), (false, [.any])] (decOut zq43.sig)
def zq43.c1 : Code := codeAt (Tryz.f8.body.getD .skip) []
def zq43.o0 (N : Nat) (a0 : Int) (a1_0 : Int) (a1_1 : Int) : Option zq43.R :=
 (zq51.g N a0 a1_0 a1_1).bind fun r1 =>
 bif (!r1) then
  some (0, 0, false)
 else
 (zq61.g N a1_0 a1_1 a0).bind fun r2 =>
 some (r2.1, r2.2, true)
theorem zq43.o0.run (N : Nat) (a0 : Int) (a1_0 : Int) (a1_1 : Int) : runC zq43.C (zq43.O N) N zq43.c1 1 (st0 [.one (.int .i64 a0), .agg [.int .i64 a1_0, .int .i64 a1_1]] [] : St D0) zq43.K0 = zq43.o0 N a0 a1_0 a1_1 := by kernel_rfl
def zq43.g (N : Nat) (a0 : Int) (a1_0 : Int) (a1_1 : Int) : Option zq43.R := zq43.o0 N a0 a1_0 a1_1
theorem zq43.g.run (N : Nat) (a0 : Int) (a1_0 : Int) (a1_1 : Int) : runC zq43.C (zq43.O N) N zq43.c1 1 (st0 [.one (.int .i64 a0), .agg [.int .i64 a1_0, .int .i64 a1_1]] [] : St D0) zq43.K0 = zq43.g N a0 a1_0 a1_1 := by
  exact (zq43.o0.run N a0 a1_0 a1_1).trans rfl
theorem zq43.good (N : Nat) (a0 : Int) (a1_0 : Int) (a1_1 : Int) (r : zq43.R) (h : zq43.g N a0 a1_0 a1_1 = some r) : Go.PM.Good Tryz.prog T0 8 [.one (.int .i64 a0), .agg [.int .i64 a1_0, .int .i64 a1_1]] [] (zq43.sig.ret r) (zq43.sig.bs r) :=
  good_fn tabOk0 mixed0 zq43.sig (zq43.E N) Tryz.func8 (by kernel_rfl) (by kernel_rfl) 571 0 0 [] 4160 false [] [(true, [.any, .any]), (false, [.any])] (by kernel_rfl) rfl rfl ((zq43.g.run N a0 a1_0 a1_1).trans h)
def zq43.ent (N : Nat) : Ent Tryz.prog T0 := mkEnt 8 [(false, [.any]), (true, [.any, .any])] zq43.sig (fun t => zq43.g N t.1 t.2.1 t.2.2) (fun t r h => zq43.good N t.1 t.2.1 t.2.2 r h)
/-! ### zq3 -/
abbrev zq3.R : Type := Int × Int × Bool
abbrev zq3.sig : Sig := ⟨[(false, 1), (true, 2)], [], [.int .i64, .int .i64, .int .i64], [(true, 2), (false, 1)], [], [.int .i64, .int .i64, .bool]⟩
def zq3.C : Cfg D0 := ⟨Tryz.prog, T0, 571, 0, 15, 0, [], 4160, false, []⟩
def zq3.E (N : Nat) : List (Ent Tryz.prog T0) := [zq25.ent N, zq17.ent N]
def zq3.O (N : Nat) : Orc D0 zq3.R := orcOf (zq3.E N)
def zq3.K0 : Ex → St D0 → Option zq3.R := exitK zq3.C Tryz.f9.results.toList [(true, [.any, .any]), (false, [.any])] (decOut zq3.sig)
def zq3.c1 : Code := codeAt (Tryz.f9.body.getD .skip) []
def zq3.o0 (N : Nat) (a0 : Int) (a1_0 : Int) (a1_1 : Int) : Option zq3.R :=
 (zq25.g N a0 a1_0 a1_1).bind fun r1 =>
 bif (!r1) then
  some (0, 0, false)
 else
 (zq17.g N a1_0 a1_1 (w64 (a0 - 1))).bind fun r2 =>
 some (r2.1, r2.2, true)
theorem zq3.o0.run (N : Nat) (a0 : Int) (a1_0 : Int) (a1_1 : Int) : runC zq3.C (zq3.O N) N zq3.c1 1 (st0 [.one (.int .i64 a0), .agg [.int .i64 a1_0, .int .i64 a1_1]] [] : St D0) zq3.K0 = zq3.o0 N a0 a1_0 a1_1 := by kernel_rfl
def zq3.g (N : Nat) (a0 : Int) (a1_0 : Int) (a1_1 : Int) : Option zq3.R := zq3.o0 N a0 a1_0 a1_1
theorem zq3.g.run (N : Nat) (a0 : Int) (a1_0 : Int) (a1_1 : Int) : runC zq3.C (zq3.O N) N zq3.c1 1 (st0 [.one (.int .i64 a0), .agg [.int .i64 a1_0, .int .i64 a1_1]] [] : St D0) zq3.K0 = zq3.g N a0 a1_0 a1_1 := by
  exact (zq3.o0.run N a0 a1_0 a1_1).trans rfl
theorem zq3.good (N : Nat) (a0 : Int) (a1_0 : Int) (a1_1 : Int) (r : zq3.R) (h : zq3.g N a0 a1_0 a1_1 = some r) : Go.PM.Good Tryz.prog T0 9 [.one (.int .i64 a0), .agg [.int .i64 a1_0, .int .i64 a1_1]] [] (zq3.sig.ret r) (zq3.sig.bs r) :=
  good_fn tabOk0 mixed0 zq3.sig (zq3.E N) Tryz.func9 (by kernel_rfl) (by kernel_rfl) 571 0 0 [] 4160 false [] [(true, [.any, .any]), (false, [.any])] (by kernel_rfl) rfl rfl ((zq3.g.run N a0 a1_0 a1_1).trans h)
def zq3.ent (N : Nat) : Ent Tryz.prog T0 := mkEnt 9 [(false, [.any]), (true, [.any, .any])] zq3.sig (fun t => zq3.g N t.1 t.2.1 t.2.2) (fun t r h => zq3.good N t.1 t.2.1 t.2.2 r h)
/-! ### zq38 -/
abbrev zq38.R : Type := Int × Int × Bool
abbrev zq38.sig : Sig := ⟨[(false, 1), (true, 2)], [], [.int .i64, .int .i64, .int .i64], [(true, 2), (false, 1)], [], [.int .i64, .int .i64, .bool]⟩
def zq38.C : Cfg D0 := ⟨Tryz.prog, T0, 571, 0, 15, 0, [], 4160, false, []⟩
def zq38.E (N : Nat) : List (Ent Tryz.prog T0) := [zq51.ent N, zq61.ent N]
def zq38.O (N : Nat) : Orc D0 zq38.R := orcOf (zq38.E N)
def zq38.K0 : Ex → St D0 → Option zq38.R := exitK zq38.C Tryz.f10.results.toList [(true, [.any, .any]), (false, [.any])] (decOut zq38.sig)
def zq38.c1 : Code := codeAt (Tryz.f10.body.getD .skip) []
def zq38.o0 (N : Nat) (a0 : Int) (a1_0 : Int) (a1_1 : Int) : Option zq38.R :=
 (zq51.g N a0 a1_0 a1_1).bind fun r1 =>
 bif (!r1) then
  some (0, 0, false)
 else
 (zq61.g N a1_0 a1_1 (w64 (a0 - 1))).bind fun r2 =>
 some (r2.1, r2.2, true)
theorem zq38.o0.run (N : Nat) (a0 : Int) (a1_0 : Int) (a1_1 : Int) : runC zq38.C (zq38.O N) N zq38.c1 1 (st0 [.one (.int .i64 a0), .agg [.int .i64 a1_0, .int .i64 a1_1]] [] : St D0) zq38.K0 = zq38.o0 N a0 a1_0 a1_1 := by kernel_rfl
def zq38.g (N : Nat) (a0 : Int) (a1_0 : Int) (a1_1 : Int) : Option zq38.R := zq38.o0 N a0 a1_0 a1_1
theorem zq38.g.run (N : Nat) (a0 : Int) (a1_0 : Int) (a1_1 : Int) : runC zq38.C (zq38.O N) N zq38.c1 1 (st0 [.one (.int .i64 a0), .agg [.int .i64 a1_0, .int .i64 a1_1]] [] : St D0) zq38.K0 = zq38.g N a0 a1_0 a1_1 := by
  exact (zq38.o0.run N a0 a1_0 a1_1).trans rfl
theorem zq38.good (N : Nat) (a0 : Int) (a1_0 : Int) (a1_1 : Int) (r : zq38.R) (h : zq38.g N a0 a1_0 a1_1 = some r) : Go.PM.Good Tryz.prog T0 10 [.one (.int .i64 a0), .agg [.int .i64 a1_0, .int .i64 a1_1]] [] (zq38.sig.ret r) (zq38.sig.bs r) :=
  good_fn tabOk0 mixed0 zq38.sig (zq38.E N) Tryz.func10 (by kernel_rfl) (by kernel_rfl) 571 0 0 [] 4160 false [] [(true, [.any, .any]), (false, [.any])] (by kernel_rfl) rfl rfl ((zq38.g.run N a0 a1_0 a1_1).trans h)
def zq38.ent (N : Nat) : Ent Tryz.prog T0 := mkEnt 10 [(false, [.any]), (true, [.any, .any])] zq38.sig (fun t => zq38.g N t.1 t.2.1 t.2.2) (fun t r h => zq38.good N t.1 t.2.1 t.2.2 r h)
/-! ### zq15 -/
abbrev zq15.R : Type := Int × Int
abbrev zq15.sig : Sig := ⟨[(true, 2)], [], [.int .i64, .int .i64], [(true, 2)], [], [.int .i64, .int .i64]⟩
def zq15.C : Cfg D0 := ⟨Tryz.prog, T0, 7, 0, 5, 0, [], 0, false, []⟩
def zq15.E (N : Nat) : List (Ent Tryz.prog T0) := [zq17.ent N]
def zq15.O (N : Nat) : Orc D0 zq15.R := orcOf (zq15.E N)
def zq15.K0 : Ex → St D0 → Option zq15.R := exitK zq15.C Tryz.f62.results.toList [(true, [.any, .any])] (decOut zq15.sig)
def zq15.c1 : Code := codeAt (Tryz.f62.body.getD .skip) []
def zq15.o0 (N : Nat) (a0_0 : Int) (a0_1 : Int) : Option zq15.R :=
 (zq17.g N a0_0 a0_1 (-1)).bind fun r1 =>
 some (r1.1, r1.2)
theorem zq15.o0.run (N : Nat) (a0_0 : Int) (a0_1 : Int) : runC zq15.C (zq15.O N) N zq15.c1 1 (st0 [.agg [.int .i64 a0_0, .int .i64 a0_1]] [] : St D0) zq15.K0 = zq15.o0 N a0_0 a0_1 := by kernel_rfl
def zq15.g (N : Nat) (a0_0 : Int) (a0_1 : Int) : Option zq15.R := zq15.o0 N a0_0 a0_1
theorem zq15.g.run (N : Nat) (a0_0 : Int) (a0_1 : Int) : runC zq15.C (zq15.O N) N zq15.c1 1 (st0 [.agg [.int .i64 a0_0, .int .i64 a0_1]] [] : St D0) zq15.K0 = zq15.g N a0_0 a0_1 := by
  exact (zq15.o0.run N a0_0 a0_1).trans rfl
theorem zq15.good (N : Nat) (a0_0 : Int) (a0_1 : Int) (r : zq15.R) (h : zq15.g N a0_0 a0_1 = some r) : Go.PM.Good Tryz.prog T0 62 [.agg [.int .i64 a0_0, .int .i64 a0_1]] [] (zq15.sig.ret r) (zq15.sig.bs r) :=
  good_fn tabOk0 mixed0 zq15.sig (zq15.E N) Tryz.func62 (by kernel_rfl) (by kernel_rfl) 7 0 0 [] 0 false [] [(true, [.any, .any])] (by kernel_rfl) rfl rfl ((zq15.g.run N a0_0 a0_1).trans h)
def zq15.ent (N : Nat) : Ent Tryz.prog T0 := mkEnt 62 [(true, [.any, .any])] zq15.sig (fun t => zq15.g N t.1 t.2) (fun t r h => zq15.good N t.1 t.2 r h)
/-! ### zq1 -/
abbrev zq1.R : Type := Bool
abbrev zq1.sig : Sig := ⟨[(false, 1)], [], [.int .i64], [(false, 1)], [], [.bool]⟩
def zq1.C : Cfg D0 := ⟨Tryz.prog, T0, 5, 0, 6, 0, [], 24, false, []⟩
def zq1.E (N : Nat) : List (Ent Tryz.prog T0) := []
def zq1.O (N : Nat) : Orc D0 zq1.R := orcOf (zq1.E N)
def zq1.K0 : Ex → St D0 → Option zq1.R := exitK zq1.C Tryz.f126.results.toList [(false, [.any])] (decOut zq1.sig)
def zq1.c1 : Code := codeAt (Tryz.f126.body.getD .skip) []
def zq1.o0 (N : Nat) (a0 : Int) : Option zq1.R :=
 some ((a0 != a0))
theorem zq1.o0.run (N : Nat) (a0 : Int) : runC zq1.C (zq1.O N) N zq1.c1 1 (st0 [.one (.int .i64 a0)] [] : St D0) zq1.K0 = zq1.o0 N a0 := by kernel_rfl
def zq1.g (N : Nat) (a0 : Int) : Option zq1.R := zq1.o0 N a0
theorem zq1.g.run (N : Nat) (a0 : Int) : runC zq1.C (zq1.O N) N zq1.c1 1 (st0 [.one (.int .i64 a0)] [] : St D0) zq1.K0 = zq1.g N a0 := by
  exact (zq1.o0.run N a0).trans rfl
theorem zq1.good (N : Nat) (a0 : Int) (r : zq1.R) (h : zq1.g N a0 = some r) : Go.PM.Good Tryz.prog T0 126 [.one (.int .i64 a0)] [] (zq1.sig.ret r) (zq1.sig.bs r) :=
  good_fn tabOk0 mixed0 zq1.sig (zq1.E N) Tryz.func126 (by kernel_rfl) (by kernel_rfl) 5 0 0 [] 24 false [] [(false, [.any])] (by kernel_rfl) rfl rfl ((zq1.g.run N a0).trans h)
def zq1.ent (N : Nat) : Ent Tryz.prog T0 := mkEnt 126 [(false, [.any])] zq1.sig (fun t => zq1.g N t) (fun t r h => zq1.good N t r h)
/-! ### zq0 -/
abbrev zq0.R : Type := Int
abbrev zq0.sig : Sig := ⟨[(false, 1), (false, 1)], [], [.int .i64, .int .i64], [(false, 1)], [], [.int .i64]⟩
def zq0.C : Cfg D0 := ⟨Tryz.prog, T0, 604275, 0, 20, 0, [], 443008, false, []⟩
def zq0.E (N : Nat) : List (Ent Tryz.prog T0) := [zq1.ent N]
def zq0.O (N : Nat) : Orc D0 zq0.R := orcOf (zq0.E N)
def zq0.K0 : Ex → St D0 → Option zq0.R := exitK zq0.C Tryz.f105.results.toList [(false, [.any])] (decOut zq0.sig)
def zq0.c1 : Code := codeAt (Tryz.f105.body.getD .skip) []
def zq0.o0 (N : Nat) (a0 : Int) (a1 : Int) : Option zq0.R :=
 (zq1.g N a0).bind fun r1 =>
 (zq1.g N a1).bind fun r2 =>
 bif r1 then
  bif r2 then
   some (0)
  else
  some ((-1))
 else
 bif r2 then
  some (1)
 else
 bif (decide (a0 < a1)) then
  some ((-1))
 else
 bif (decide (a0 > a1)) then
  some (1)
 else
 some (0)
theorem zq0.o0.run (N : Nat) (a0 : Int) (a1 : Int) : runC zq0.C (zq0.O N) N zq0.c1 1 (st0 [.one (.int .i64 a0), .one (.int .i64 a1)] [] : St D0) zq0.K0 = zq0.o0 N a0 a1 := by kernel_rfl
def zq0.g (N : Nat) (a0 : Int) (a1 : Int) : Option zq0.R := zq0.o0 N a0 a1
theorem zq0.g.run (N : Nat) (a0 : Int) (a1 : Int) : runC zq0.C (zq0.O N) N zq0.c1 1 (st0 [.one (.int .i64 a0), .one (.int .i64 a1)] [] : St D0) zq0.K0 = zq0.g N a0 a1 := by
  exact (zq0.o0.run N a0 a1).trans rfl
theorem zq0.good (N : Nat) (a0 : Int) (a1 : Int) (r : zq0.R) (h : zq0.g N a0 a1 = some r) : Go.PM.Good Tryz.prog T0 105 [.one (.int .i64 a0), .one (.int .i64 a1)] [] (zq0.sig.ret r) (zq0.sig.bs r) :=
  good_fn tabOk0 mixed0 zq0.sig (zq0.E N) Tryz.func105 (by kernel_rfl) (by kernel_rfl) 604275 0 0 [] 443008 false [] [(false, [.any])] (by kernel_rfl) rfl rfl ((zq0.g.run N a0 a1).trans h)
def zq0.ent (N : Nat) : Ent Tryz.prog T0 := mkEnt 105 [(false, [.any]), (false, [.any])] zq0.sig (fun t => zq0.g N t.1 t.2) (fun t r h => zq0.good N t.1 t.2 r h)
/-! ### zq14 -/
abbrev zq14.R : Type := Int
abbrev zq14.sig : Sig := ⟨[(true, 2), (true, 2)], [], [.int .i64, .int .i64, .int .i64, .int .i64], [(false, 1)], [], [.int .i64]⟩
def zq14.C : Cfg D0 := ⟨Tryz.prog, T0, 31, 0, 16, 0, [], 0, false, []⟩
def zq14.E (N : Nat) : List (Ent Tryz.prog T0) := [zq0.ent N]
def zq14.O (N : Nat) : Orc D0 zq14.R := orcOf (zq14.E N)
def zq14.K0 : Ex → St D0 → Option zq14.R := exitK zq14.C Tryz.f63.results.toList [(false, [.any])] (decOut zq14.sig)
def zq14.c1 : Code := codeAt (Tryz.f63.body.getD .skip) []
def zq14.o0 (N : Nat) (a0_0 : Int) (a0_1 : Int) (a1_0 : Int) (a1_1 : Int) : Option zq14.R :=
 (zq0.g N (w64 (a0_0 * a1_1)) (w64 (a1_0 * a0_1))).bind fun r1 =>
 some (r1)
theorem zq14.o0.run (N : Nat) (a0_0 : Int) (a0_1 : Int) (a1_0 : Int) (a1_1 : Int) : runC zq14.C (zq14.O N) N zq14.c1 1 (st0 [.agg [.int .i64 a0_0, .int .i64 a0_1], .agg [.int .i64 a1_0, .int .i64 a1_1]] [] : St D0) zq14.K0 = zq14.o0 N a0_0 a0_1 a1_0 a1_1 := by kernel_rfl
def zq14.g (N : Nat) (a0_0 : Int) (a0_1 : Int) (a1_0 : Int) (a1_1 : Int) : Option zq14.R := zq14.o0 N a0_0 a0_1 a1_0 a1_1
theorem zq14.g.run (N : Nat) (a0_0 : Int) (a0_1 : Int) (a1_0 : Int) (a1_1 : Int) : runC zq14.C (zq14.O N) N zq14.c1 1 (st0 [.agg [.int .i64 a0_0, .int .i64 a0_1], .agg [.int .i64 a1_0, .int .i64 a1_1]] [] : St D0) zq14.K0 = zq14.g N a0_0 a0_1 a1_0 a1_1 := by
  exact (zq14.o0.run N a0_0 a0_1 a1_0 a1_1).trans rfl
theorem zq14.good (N : Nat) (a0_0 : Int) (a0_1 : Int) (a1_0 : Int) (a1_1 : Int) (r : zq14.R) (h : zq14.g N a0_0 a0_1 a1_0 a1_1 = some r) : Go.PM.Good Tryz.prog T0 63 [.agg [.int .i64 a0_0, .int .i64 a0_1], .agg [.int .i64 a1_0, .int .i64 a1_1]] [] (zq14.sig.ret r) (zq14.sig.bs r) :=
  good_fn tabOk0 mixed0 zq14.sig (zq14.E N) Tryz.func63 (by kernel_rfl) (by kernel_rfl) 31 0 0 [] 0 false [] [(false, [.any])] (by kernel_rfl) rfl rfl ((zq14.g.run N a0_0 a0_1 a1_0 a1_1).trans h)
def zq14.ent (N : Nat) : Ent Tryz.prog T0 := mkEnt 63 [(true, [.any, .any]), (true, [.any, .any])] zq14.sig (fun t => zq14.g N t.1 t.2.1 t.2.2.1 t.2.2.2) (fun t r h => zq14.good N t.1 t.2.1 t.2.2.1 t.2.2.2 r h)
/-! ### zq10 -/
abbrev zq10.R : Type := Int × Int × Bool
abbrev zq10.sig : Sig := ⟨[(false, 1), (true, 2)], [], [.int .i64, .int .i64, .int .i64], [(true, 2), (false, 1)], [], [.int .i64, .int .i64, .bool]⟩
def zq10.C : Cfg D0 := ⟨Tryz.prog, T0, 8454651, 0, 26, 0, [], 33792, false, []⟩
def zq10.E (N : Nat) : List (Ent Tryz.prog T0) := [zq3.ent N, zq15.ent N, zq14.ent N]
def zq10.O (N : Nat) : Orc D0 zq10.R := orcOf (zq10.E N)
def zq10.K0 : Ex → St D0 → Option zq10.R := exitK zq10.C Tryz.f11.results.toList [(true, [.any, .any]), (false, [.any])] (decOut zq10.sig)
def zq10.c1 : Code := codeAt (Tryz.f11.body.getD .skip) []
def zq10.o0 (N : Nat) (a0 : Int) (a1_0 : Int) (a1_1 : Int) : Option zq10.R :=
 (zq3.g N a0 a1_0 a1_1).bind fun r1 =>
 bif (!r1.2.2) then
  some (0, 0, false)
 else
 (zq15.g N r1.1 r1.2.1).bind fun r2 =>
 (zq14.g N r2.1 r2.2 r1.1 r1.2.1).bind fun r3 =>
 bif (decide (r3 < 0)) then
  some (r2.1, r2.2, true)
 else
 some (r1.1, r1.2.1, true)
theorem zq10.o0.run (N : Nat) (a0 : Int) (a1_0 : Int) (a1_1 : Int) : runC zq10.C (zq10.O N) N zq10.c1 1 (st0 [.one (.int .i64 a0), .agg [.int .i64 a1_0, .int .i64 a1_1]] [] : St D0) zq10.K0 = zq10.o0 N a0 a1_0 a1_1 := by kernel_rfl
def zq10.g (N : Nat) (a0 : Int) (a1_0 : Int) (a1_1 : Int) : Option zq10.R := zq10.o0 N a0 a1_0 a1_1
theorem zq10.g.run (N : Nat) (a0 : Int) (a1_0 : Int) (a1_1 : Int) : runC zq10.C (zq10.O N) N zq10.c1 1 (st0 [.one (.int .i64 a0), .agg [.int .i64 a1_0, .int .i64 a1_1]] [] : St D0) zq10.K0 = zq10.g N a0 a1_0 a1_1 := by
  exact (zq10.o0.run N a0 a1_0 a1_1).trans rfl
theorem zq10.good (N : Nat) (a0 : Int) (a1_0 : Int) (a1_1 : Int) (r : zq10.R) (h : zq10.g N a0 a1_0 a1_1 = some r) : Go.PM.Good Tryz.prog T0 11 [.one (.int .i64 a0), .agg [.int .i64 a1_0, .int .i64 a1_1]] [] (zq10.sig.ret r) (zq10.sig.bs r) :=
  good_fn tabOk0 mixed0 zq10.sig (zq10.E N) Tryz.func11 (by kernel_rfl) (by kernel_rfl) 8454651 0 0 [] 33792 false [] [(true, [.any, .any]), (false, [.any])] (by kernel_rfl) rfl rfl ((zq10.g.run N a0 a1_0 a1_1).trans h)
def zq10.ent (N : Nat) : Ent Tryz.prog T0 := mkEnt 11 [(false, [.any]), (true, [.any, .any])] zq10.sig (fun t => zq10.g N t.1 t.2.1 t.2.2) (fun t r h => zq10.good N t.1 t.2.1 t.2.2 r h)
/-! ### zq57 -/
abbrev zq57.R : Type := Int × Int
abbrev zq57.sig : Sig := ⟨[(true, 2)], [], [.int .i64, .int .i64], [(true, 2)], [], [.int .i64, .int .i64]⟩
def zq57.C : Cfg D0 := ⟨Tryz.prog, T0, 7, 0, 5, 0, [], 0, false, []⟩
def zq57.E (N : Nat) : List (Ent Tryz.prog T0) := [zq61.ent N]
def zq57.O (N : Nat) : Orc D0 zq57.R := orcOf (zq57.E N)
def zq57.K0 : Ex → St D0 → Option zq57.R := exitK zq57.C Tryz.f64.results.toList [(true, [.any, .any])] (decOut zq57.sig)
def zq57.c1 : Code := codeAt (Tryz.f64.body.getD .skip) []
def zq57.o0 (N : Nat) (a0_0 : Int) (a0_1 : Int) : Option zq57.R :=
 (zq61.g N a0_0 a0_1 (-1)).bind fun r1 =>
 some (r1.1, r1.2)
theorem zq57.o0.run (N : Nat) (a0_0 : Int) (a0_1 : Int) : runC zq57.C (zq57.O N) N zq57.c1 1 (st0 [.agg [.int .i64 a0_0, .int .i64 a0_1]] [] : St D0) zq57.K0 = zq57.o0 N a0_0 a0_1 := by kernel_rfl
def zq57.g (N : Nat) (a0_0 : Int) (a0_1 : Int) : Option zq57.R := zq57.o0 N a0_0 a0_1
theorem zq57.g.run (N : Nat) (a0_0 : Int) (a0_1 : Int) : runC zq57.C (zq57.O N) N zq57.c1 1 (st0 [.agg [.int .i64 a0_0, .int .i64 a0_1]] [] : St D0) zq57.K0 = zq57.g N a0_0 a0_1 := by
  exact (zq57.o0.run N a0_0 a0_1).trans rfl
theorem zq57.good (N : Nat) (a0_0 : Int) (a0_1 : Int) (r : zq57.R) (h : zq57.g N a0_0 a0_1 = some r) : Go.PM.Good Tryz.prog T0 64 [.agg [.int .i64 a0_0, .int .i64 a0_1]] [] (zq57.sig.ret r) (zq57.sig.bs r) :=
  good_fn tabOk0 mixed0 zq57.sig (zq57.E N) Tryz.func64 (by kernel_rfl) (by kernel_rfl) 7 0 0 [] 0 false [] [(true, [.any, .any])] (by kernel_rfl) rfl rfl ((zq57.g.run N a0_0 a0_1).trans h)
def zq57.ent (N : Nat) : Ent Tryz.prog T0 := mkEnt 64 [(true, [.any, .any])] zq57.sig (fun t => zq57.g N t.1 t.2) (fun t r h => zq57.good N t.1 t.2 r h)
/-! ### zq75 -/
abbrev zq75.R : Type := Int
abbrev zq75.sig : Sig := ⟨[(false, 1)], [], [.int .i64], [(false, 1)], [], [.int .i64]⟩
def zq75.C : Cfg D0 := ⟨Tryz.prog, T0, 77, 0, 9, 0, [], 144, false, []⟩
def zq75.E (N : Nat) : List (Ent Tryz.prog T0) := []
def zq75.O (N : Nat) : Orc D0 zq75.R := orcOf (zq75.E N)
def zq75.K0 : Ex → St D0 → Option zq75.R := exitK zq75.C Tryz.f106.results.toList [(false, [.any])] (decOut zq75.sig)
def zq75.c1 : Code := codeAt (Tryz.f106.body.getD .skip) []
def zq75.o0 (N : Nat) (a0 : Int) : Option zq75.R :=
 bif (decide (a0 > 0)) then
  some (1)
 else
 bif (decide (a0 < 0)) then
  some ((-1))
 else
 some (0)
theorem zq75.o0.run (N : Nat) (a0 : Int) : runC zq75.C (zq75.O N) N zq75.c1 1 (st0 [.one (.int .i64 a0)] [] : St D0) zq75.K0 = zq75.o0 N a0 := by kernel_rfl
def zq75.g (N : Nat) (a0 : Int) : Option zq75.R := zq75.o0 N a0
theorem zq75.g.run (N : Nat) (a0 : Int) : runC zq75.C (zq75.O N) N zq75.c1 1 (st0 [.one (.int .i64 a0)] [] : St D0) zq75.K0 = zq75.g N a0 := by
  exact (zq75.o0.run N a0).trans rfl
theorem zq75.good (N : Nat) (a0 : Int) (r : zq75.R) (h : zq75.g N a0 = some r) : Go.PM.Good Tryz.prog T0 106 [.one (.int .i64 a0)] [] (zq75.sig.ret r) (zq75.sig.bs r) :=
  good_fn tabOk0 mixed0 zq75.sig (zq75.E N) Tryz.func106 (by kernel_rfl) (by kernel_rfl) 77 0 0 [] 144 false [] [(false, [.any])] (by kernel_rfl) rfl rfl ((zq75.g.run N a0).trans h)
def zq75.ent (N : Nat) : Ent Tryz.prog T0 := mkEnt 106 [(false, [.any])] zq75.sig (fun t => zq75.g N t) (fun t r h => zq75.good N t r h)
/-! ### zq53 -/
abbrev zq53.R : Type := Int
abbrev zq53.sig : Sig := ⟨[(true, 2), (true, 2)], [], [.int .i64, .int .i64, .int .i64, .int .i64], [(false, 1)], [], [.int .i64]⟩
def zq53.C : Cfg D0 := ⟨Tryz.prog, T0, 31, 0, 17, 0, [], 0, false, []⟩
def zq53.E (N : Nat) : List (Ent Tryz.prog T0) := [zq75.ent N]
def zq53.O (N : Nat) : Orc D0 zq53.R := orcOf (zq53.E N)
def zq53.K0 : Ex → St D0 → Option zq53.R := exitK zq53.C Tryz.f65.results.toList [(false, [.any])] (decOut zq53.sig)
def zq53.c1 : Code := codeAt (Tryz.f65.body.getD .skip) []
def zq53.o0 (N : Nat) (a0_0 : Int) (a0_1 : Int) (a1_0 : Int) (a1_1 : Int) : Option zq53.R :=
 (zq75.g N (w64 ((w64 (a0_0 * a1_1)) - (w64 (a1_0 * a0_1))))).bind fun r1 =>
 some (r1)
theorem zq53.o0.run (N : Nat) (a0_0 : Int) (a0_1 : Int) (a1_0 : Int) (a1_1 : Int) : runC zq53.C (zq53.O N) N zq53.c1 1 (st0 [.agg [.int .i64 a0_0, .int .i64 a0_1], .agg [.int .i64 a1_0, .int .i64 a1_1]] [] : St D0) zq53.K0 = zq53.o0 N a0_0 a0_1 a1_0 a1_1 := by kernel_rfl
def zq53.g (N : Nat) (a0_0 : Int) (a0_1 : Int) (a1_0 : Int) (a1_1 : Int) : Option zq53.R := zq53.o0 N a0_0 a0_1 a1_0 a1_1
theorem zq53.g.run (N : Nat) (a0_0 : Int) (a0_1 : Int) (a1_0 : Int) (a1_1 : Int) : runC zq53.C (zq53.O N) N zq53.c1 1 (st0 [.agg [.int .i64 a0_0, .int .i64 a0_1], .agg [.int .i64 a1_0, .int .i64 a1_1]] [] : St D0) zq53.K0 = zq53.g N a0_0 a0_1 a1_0 a1_1 := by
  exact (zq53.o0.run N a0_0 a0_1 a1_0 a1_1).trans rfl
theorem zq53.good (N : Nat) (a0_0 : Int) (a0_1 : Int) (a1_0 : Int) (a1_1 : Int) (r : zq53.R) (h : zq53.g N a0_0 a0_1 a1_0 a1_1 = some r) : Go.PM.Good Tryz.prog T0 65 [.agg [.int .i64 a0_0, .int .i64 a0_1], .agg [.int .i64 a1_0, .int .i64 a1_1]] [] (zq53.sig.ret r) (zq53.sig.bs r) :=
  good_fn tabOk0 mixed0 zq53.sig (zq53.E N) Tryz.func65 (by kernel_rfl) (by kernel_rfl) 31 0 0 [] 0 false [] [(false, [.any])] (by kernel_rfl) rfl rfl ((zq53.g.run N a0_0 a0_1 a1_0 a1_1).trans h)
def zq53.ent (N : Nat) : Ent Tryz.prog T0 := mkEnt 65 [(true, [.any, .any]), (true, [.any, .any])] zq53.sig (fun t => zq53.g N t.1 t.2.1 t.2.2.1 t.2.2.2) (fun t r h => zq53.good N t.1 t.2.1 t.2.2.1 t.2.2.2 r h)
/-! ### zq47 -/
abbrev zq47.R : Type := Int × Int × Bool
abbrev zq47.sig : Sig := ⟨[(false, 1), (true, 2)], [], [.int .i64, .int .i64, .int .i64], [(true, 2), (false, 1)], [], [.int .i64, .int .i64, .bool]⟩
def zq47.C : Cfg D0 := ⟨Tryz.prog, T0, 4196603, 0, 25, 0, [], 16640, false, []⟩
def zq47.E (N : Nat) : List (Ent Tryz.prog T0) := [zq51.ent N, zq61.ent N, zq57.ent N, zq53.ent N]
def zq47.O (N : Nat) : Orc D0 zq47.R := orcOf (zq47.E N)
def zq47.K0 : Ex → St D0 → Option zq47.R := exitK zq47.C Tryz.f12.results.toList [(true, [.any, .any]), (false, [.any])] (decOut zq47.sig)
def zq47.c1 : Code := codeAt (Tryz.f12.body.getD .skip) []
def zq47.o0 (N : Nat) (a0 : Int) (a1_0 : Int) (a1_1 : Int) : Option zq47.R :=
 (zq51.g N a0 a1_0 a1_1).bind fun r1 =>
 bif (!r1) then
  some (0, 0, false)
 else
 (zq61.g N a1_0 a1_1 (w64 (a0 - 1))).bind fun r2 =>
 (zq57.g N r2.1 r2.2).bind fun r3 =>
 (zq53.g N r3.1 r3.2 r2.1 r2.2).bind fun r4 =>
 bif (decide (r4 < 0)) then
  some (r3.1, r3.2, true)
 else
 some (r2.1, r2.2, true)
theorem zq47.o0.run (N : Nat) (a0 : Int) (a1_0 : Int) (a1_1 : Int) : runC zq47.C (zq47.O N) N zq47.c1 1 (st0 [.one (.int .i64 a0), .agg [.int .i64 a1_0, .int .i64 a1_1]] [] : St D0) zq47.K0 = zq47.o0 N a0 a1_0 a1_1 := by kernel_rfl
def zq47.g (N : Nat) (a0 : Int) (a1_0 : Int) (a1_1 : Int) : Option zq47.R := zq47.o0 N a0 a1_0 a1_1
theorem zq47.g.run (N : Nat) (a0 : Int) (a1_0 : Int) (a1_1 : Int) : runC zq47.C (zq47.O N) N zq47.c1 1 (st0 [.one (.int .i64 a0), .agg [.int .i64 a1_0, .int .i64 a1_1]] [] : St D0) zq47.K0 = zq47.g N a0 a1_0 a1_1 := by
  exact (zq47.o0.run N a0 a1_0 a1_1).trans rfl
theorem zq47.good (N : Nat) (a0 : Int) (a1_0 : Int) (a1_1 : Int) (r : zq47.R) (h : zq47.g N a0 a1_0 a1_1 = some r) : Go.PM.Good Tryz.prog T0 12 [.one (.int .i64 a0), .agg [.int .i64 a1_0, .int .i64 a1_1]] [] (zq47.sig.ret r) (zq47.sig.bs r) :=
  good_fn tabOk0 mixed0 zq47.sig (zq47.E N) Tryz.func12 (by kernel_rfl) (by kernel_rfl) 4196603 0 0 [] 16640 false [] [(true, [.any, .any]), (false, [.any])] (by kernel_rfl) rfl rfl ((zq47.g.run N a0 a1_0 a1_1).trans h)
def zq47.ent (N : Nat) : Ent Tryz.prog T0 := mkEnt 12 [(false, [.any]), (true, [.any, .any])] zq47.sig (fun t => zq47.g N t.1 t.2.1 t.2.2) (fun t r h => zq47.good N t.1 t.2.1 t.2.2 r h)
/-! ### zq29 -/
abbrev zq29.R : Type := Int × Int × Int × Int
abbrev zq29.sig : Sig := ⟨[(false, 1), (true, 2)], [], [.int .i64, .int .i64, .int .i64], [(false, 1), (false, 1), (true, 2)], [], [.int .i64, .int .i64, .int .i64, .int .i64]⟩
def zq29.C : Cfg D0 := ⟨Tryz.prog, T0, 507, 0, 26, 0, [], 5523456, false, []⟩
def zq29.E (N : Nat) : List (Ent Tryz.prog T0) := [zq26.ent N]
def zq29.O (N : Nat) : Orc D0 zq29.R := orcOf (zq29.E N)
def zq29.K0 : Ex → St D0 → Option zq29.R := exitK zq29.C Tryz.f66.results.toList [(false, [.any]), (false, [.any]), (true, [.any, .any])] (decOut zq29.sig)
def zq29.c1 : Code := codeAt (Tryz.f66.body.getD .skip) []
def zq29.o0 (N : Nat) (a0 : Int) (a1_0 : Int) (a1_1 : Int) : Option zq29.R :=
 bif (a1_1 == 0) then
  none
 else
 (zq26.g N (w64 ((w64 (a1_0 * a0)) * 60)) a1_1).bind fun r1 =>
 some ((w64 (Int.tdiv (w64 (Int.tdiv (w64 ((w64 (a1_0 * a0)) * 60)) a1_1)) 60)), (Int.tmod (w64 (Int.tdiv (w64 ((w64 (a1_0 * a0)) * 60)) a1_1)) 60), r1.1, r1.2)
theorem zq29.o0.run (N : Nat) (a0 : Int) (a1_0 : Int) (a1_1 : Int) : runC zq29.C (zq29.O N) N zq29.c1 1 (st0 [.one (.int .i64 a0), .agg [.int .i64 a1_0, .int .i64 a1_1]] [] : St D0) zq29.K0 = zq29.o0 N a0 a1_0 a1_1 := by kernel_rfl
def zq29.g (N : Nat) (a0 : Int) (a1_0 : Int) (a1_1 : Int) : Option zq29.R := zq29.o0 N a0 a1_0 a1_1
theorem zq29.g.run (N : Nat) (a0 : Int) (a1_0 : Int) (a1_1 : Int) : runC zq29.C (zq29.O N) N zq29.c1 1 (st0 [.one (.int .i64 a0), .agg [.int .i64 a1_0, .int .i64 a1_1]] [] : St D0) zq29.K0 = zq29.g N a0 a1_0 a1_1 := by
  exact (zq29.o0.run N a0 a1_0 a1_1).trans rfl
theorem zq29.good (N : Nat) (a0 : Int) (a1_0 : Int) (a1_1 : Int) (r : zq29.R) (h : zq29.g N a0 a1_0 a1_1 = some r) : Go.PM.Good Tryz.prog T0 66 [.one (.int .i64 a0), .agg [.int .i64 a1_0, .int .i64 a1_1]] [] (zq29.sig.ret r) (zq29.sig.bs r) :=
  good_fn tabOk0 mixed0 zq29.sig (zq29.E N) Tryz.func66 (by kernel_rfl) (by kernel_rfl) 507 0 0 [] 5523456 false [] [(false, [.any]), (false, [.any]), (true, [.any, .any])] (by kernel_rfl) rfl rfl ((zq29.g.run N a0 a1_0 a1_1).trans h)
def zq29.ent (N : Nat) : Ent Tryz.prog T0 := mkEnt 66 [(false, [.any]), (true, [.any, .any])] zq29.sig (fun t => zq29.g N t.1 t.2.1 t.2.2) (fun t r h => zq29.good N t.1 t.2.1 t.2.2 r h)
/-! ### zq4 -/
abbrev zq4.R : Type := Int × Bool
abbrev zq4.sig : Sig := ⟨[(false, 1), (true, 2)], [], [.int .i64, .int .i64, .int .i64], [(false, 1), (false, 1)], [], [.int .i64, .bool]⟩
def zq4.C : Cfg D0 := ⟨Tryz.prog, T0, 4219, 0, 21, 0, [], 16896, false, []⟩
def zq4.E (N : Nat) : List (Ent Tryz.prog T0) := [zq25.ent N, zq29.ent N]
def zq4.O (N : Nat) : Orc D0 zq4.R := orcOf (zq4.E N)
def zq4.K0 : Ex → St D0 → Option zq4.R := exitK zq4.C Tryz.f13.results.toList [(false, [.any]), (false, [.any])] (decOut zq4.sig)
def zq4.c1 : Code := codeAt (Tryz.f13.body.getD .skip) []
def zq4.o0 (N : Nat) (a0 : Int) (a1_0 : Int) (a1_1 : Int) : Option zq4.R :=
 (zq25.g N a0 a1_0 a1_1).bind fun r1 =>
 bif (!r1) then
  some (0, false)
 else
 (zq29.g N a0 a1_0 a1_1).bind fun r2 =>
 some (r2.1, true)
theorem zq4.o0.run (N : Nat) (a0 : Int) (a1_0 : Int) (a1_1 : Int) : runC zq4.C (zq4.O N) N zq4.c1 1 (st0 [.one (.int .i64 a0), .agg [.int .i64 a1_0, .int .i64 a1_1]] [] : St D0) zq4.K0 = zq4.o0 N a0 a1_0 a1_1 := by kernel_rfl
def zq4.g (N : Nat) (a0 : Int) (a1_0 : Int) (a1_1 : Int) : Option zq4.R := zq4.o0 N a0 a1_0 a1_1
theorem zq4.g.run (N : Nat) (a0 : Int) (a1_0 : Int) (a1_1 : Int) : runC zq4.C (zq4.O N) N zq4.c1 1 (st0 [.one (.int .i64 a0), .agg [.int .i64 a1_0, .int .i64 a1_1]] [] : St D0) zq4.K0 = zq4.g N a0 a1_0 a1_1 := by
  exact (zq4.o0.run N a0 a1_0 a1_1).trans rfl
theorem zq4.good (N : Nat) (a0 : Int) (a1_0 : Int) (a1_1 : Int) (r : zq4.R) (h : zq4.g N a0 a1_0 a1_1 = some r) : Go.PM.Good Tryz.prog T0 13 [.one (.int .i64 a0), .agg [.int .i64 a1_0, .int .i64 a1_1]] [] (zq4.sig.ret r) (zq4.sig.bs r) :=
  good_fn tabOk0 mixed0 zq4.sig (zq4.E N) Tryz.func13 (by kernel_rfl) (by kernel_rfl) 4219 0 0 [] 16896 false [] [(false, [.any]), (false, [.any])] (by kernel_rfl) rfl rfl ((zq4.g.run N a0 a1_0 a1_1).trans h)
def zq4.ent (N : Nat) : Ent Tryz.prog T0 := mkEnt 13 [(false, [.any]), (true, [.any, .any])] zq4.sig (fun t => zq4.g N t.1 t.2.1 t.2.2) (fun t r h => zq4.good N t.1 t.2.1 t.2.2 r h)
/-! ### zq42 -/
abbrev zq42.R : Type := Int × Bool
abbrev zq42.sig : Sig := ⟨[(false, 1), (true, 2)], [], [.int .i64, .int .i64, .int .i64], [(false, 1), (false, 1)], [], [.int .i64, .bool]⟩
def zq42.C : Cfg D0 := ⟨Tryz.prog, T0, 571, 0, 17, 0, [], 4160, false, []⟩
def zq42.E (N : Nat) : List (Ent Tryz.prog T0) := [zq51.ent N]
def zq42.O (N : Nat) : Orc D0 zq42.R := orcOf (zq42.E N)
def zq42.K0 : Ex → St D0 → Option zq42.R := exitK zq42.C Tryz.f14.results.toList [(false, [.any]), (false, [.any])] (decOut zq42.sig)
def zq42.c1 : Code := codeAt (Tryz.f14.body.getD .skip) []
def zq42.o0 (N : Nat) (a0 : Int) (a1_0 : Int) (a1_1 : Int) : Option zq42.R :=
 (zq51.g N a0 a1_0 a1_1).bind fun r1 =>
 bif (!r1) then
  some (0, false)
 else
 bif (a1_1 == 0) then
  none
 else
 some ((w64 (Int.tdiv (w64 (a1_0 * a0)) a1_1)), true)
theorem zq42.o0.run (N : Nat) (a0 : Int) (a1_0 : Int) (a1_1 : Int) : runC zq42.C (zq42.O N) N zq42.c1 1 (st0 [.one (.int .i64 a0), .agg [.int .i64 a1_0, .int .i64 a1_1]] [] : St D0) zq42.K0 = zq42.o0 N a0 a1_0 a1_1 := by kernel_rfl
def zq42.g (N : Nat) (a0 : Int) (a1_0 : Int) (a1_1 : Int) : Option zq42.R := zq42.o0 N a0 a1_0 a1_1
theorem zq42.g.run (N : Nat) (a0 : Int) (a1_0 : Int) (a1_1 : Int) : runC zq42.C (zq42.O N) N zq42.c1 1 (st0 [.one (.int .i64 a0), .agg [.int .i64 a1_0, .int .i64 a1_1]] [] : St D0) zq42.K0 = zq42.g N a0 a1_0 a1_1 := by
  exact (zq42.o0.run N a0 a1_0 a1_1).trans rfl
theorem zq42.good (N : Nat) (a0 : Int) (a1_0 : Int) (a1_1 : Int) (r : zq42.R) (h : zq42.g N a0 a1_0 a1_1 = some r) : Go.PM.Good Tryz.prog T0 14 [.one (.int .i64 a0), .agg [.int .i64 a1_0, .int .i64 a1_1]] [] (zq42.sig.ret r) (zq42.sig.bs r) :=
  good_fn tabOk0 mixed0 zq42.sig (zq42.E N) Tryz.func14 (by kernel_rfl) (by kernel_rfl) 571 0 0 [] 4160 false [] [(false, [.any]), (false, [.any])] (by kernel_rfl) rfl rfl ((zq42.g.run N a0 a1_0 a1_1).trans h)
def zq42.ent (N : Nat) : Ent Tryz.prog T0 := mkEnt 14 [(false, [.any]), (true, [.any, .any])] zq42.sig (fun t => zq42.g N t.1 t.2.1 t.2.2) (fun t r h => zq42.good N t.1 t.2.1 t.2.2 r h)
/-! ### zq7 -/
abbrev zq7.R : Type := Int × Bool
abbrev zq7.sig : Sig := ⟨[(false, 1), (true, 2)], [], [.int .i64, .int .i64, .int .i64], [(false, 1), (false, 1)], [], [.int .i64, .bool]⟩
def zq7.C : Cfg D0 := ⟨Tryz.prog, T0, 4283, 0, 21, 0, [], 16896, false, []⟩
def zq7.E (N : Nat) : List (Ent Tryz.prog T0) := [zq25.ent N, zq29.ent N]
def zq7.O (N : Nat) : Orc D0 zq7.R := orcOf (zq7.E N)
def zq7.K0 : Ex → St D0 → Option zq7.R := exitK zq7.C Tryz.f15.results.toList [(false, [.any]), (false, [.any])] (decOut zq7.sig)
def zq7.c1 : Code := codeAt (Tryz.f15.body.getD .skip) []
def zq7.o0 (N : Nat) (a0 : Int) (a1_0 : Int) (a1_1 : Int) : Option zq7.R :=
 (zq25.g N a0 a1_0 a1_1).bind fun r1 =>
 bif (!r1) then
  some (0, false)
 else
 (zq29.g N a0 a1_0 a1_1).bind fun r2 =>
 some (r2.2.1, true)
theorem zq7.o0.run (N : Nat) (a0 : Int) (a1_0 : Int) (a1_1 : Int) : runC zq7.C (zq7.O N) N zq7.c1 1 (st0 [.one (.int .i64 a0), .agg [.int .i64 a1_0, .int .i64 a1_1]] [] : St D0) zq7.K0 = zq7.o0 N a0 a1_0 a1_1 := by kernel_rfl
def zq7.g (N : Nat) (a0 : Int) (a1_0 : Int) (a1_1 : Int) : Option zq7.R := zq7.o0 N a0 a1_0 a1_1
theorem zq7.g.run (N : Nat) (a0 : Int) (a1_0 : Int) (a1_1 : Int) : runC zq7.C (zq7.O N) N zq7.c1 1 (st0 [.one (.int .i64 a0), .agg [.int .i64 a1_0, .int .i64 a1_1]] [] : St D0) zq7.K0 = zq7.g N a0 a1_0 a1_1 := by
  exact (zq7.o0.run N a0 a1_0 a1_1).trans rfl
theorem zq7.good (N : Nat) (a0 : Int) (a1_0 : Int) (a1_1 : Int) (r : zq7.R) (h : zq7.g N a0 a1_0 a1_1 = some r) : Go.PM.Good Tryz.prog T0 15 [.one (.int .i64 a0), .agg [.int .i64 a1_0, .int .i64 a1_1]] [] (zq7.sig.ret r) (zq7.sig.bs r) :=
  good_fn tabOk0 mixed0 zq7.sig (zq7.E N) Tryz.func15 (by kernel_rfl) (by kernel_rfl) 4283 0 0 [] 16896 false [] [(false, [.any]), (false, [.any])] (by kernel_rfl) rfl rfl ((zq7.g.run N a0 a1_0 a1_1).trans h)
def zq7.ent (N : Nat) : Ent Tryz.prog T0 := mkEnt 15 [(false, [.any]), (true, [.any, .any])] zq7.sig (fun t => zq7.g N t.1 t.2.1 t.2.2) (fun t r h => zq7.good N t.1 t.2.1 t.2.2 r h)
/-! ### zq44 -/
abbrev zq44.R : Type := Int × Bool
abbrev zq44.sig : Sig := ⟨[(false, 1), (true, 2)], [], [.int .i64, .int .i64, .int .i64], [(false, 1), (false, 1)], [], [.int .i64, .bool]⟩
def zq44.C : Cfg D0 := ⟨Tryz.prog, T0, 571, 0, 19, 0, [], 4160, false, []⟩
def zq44.E (N : Nat) : List (Ent Tryz.prog T0) := [zq51.ent N]
def zq44.O (N : Nat) : Orc D0 zq44.R := orcOf (zq44.E N)
def zq44.K0 : Ex → St D0 → Option zq44.R := exitK zq44.C Tryz.f16.results.toList [(false, [.any]), (false, [.any])] (decOut zq44.sig)
def zq44.c1 : Code := codeAt (Tryz.f16.body.getD .skip) []
def zq44.o0 (N : Nat) (a0 : Int) (a1_0 : Int) (a1_1 : Int) : Option zq44.R :=
 (zq51.g N a0 a1_0 a1_1).bind fun r1 =>
 bif (!r1) then
  some (0, false)
 else
 bif (a1_1 == 0) then
  none
 else
 some ((Int.tmod (w64 (Int.tdiv (w64 ((w64 (a1_0 * a0)) * 60)) a1_1)) 60), true)
theorem zq44.o0.run (N : Nat) (a0 : Int) (a1_0 : Int) (a1_1 : Int) : runC zq44.C (zq44.O N) N zq44.c1 1 (st0 [.one (.int .i64 a0), .agg [.int .i64 a1_0, .int .i64 a1_1]] [] : St D0) zq44.K0 = zq44.o0 N a0 a1_0 a1_1 := by kernel_rfl
def zq44.g (N : Nat) (a0 : Int) (a1_0 : Int) (a1_1 : Int) : Option zq44.R := zq44.o0 N a0 a1_0 a1_1
theorem zq44.g.run (N : Nat) (a0 : Int) (a1_0 : Int) (a1_1 : Int) : runC zq44.C (zq44.O N) N zq44.c1 1 (st0 [.one (.int .i64 a0), .agg [.int .i64 a1_0, .int .i64 a1_1]] [] : St D0) zq44.K0 = zq44.g N a0 a1_0 a1_1 := by
  exact (zq44.o0.run N a0 a1_0 a1_1).trans rfl
theorem zq44.good (N : Nat) (a0 : Int) (a1_0 : Int) (a1_1 : Int) (r : zq44.R) (h : zq44.g N a0 a1_0 a1_1 = some r) : Go.PM.Good Tryz.prog T0 16 [.one (.int .i64 a0), .agg [.int .i64 a1_0, .int .i64 a1_1]] [] (zq44.sig.ret r) (zq44.sig.bs r) :=
  good_fn tabOk0 mixed0 zq44.sig (zq44.E N) Tryz.func16 (by kernel_rfl) (by kernel_rfl) 571 0 0 [] 4160 false [] [(false, [.any]), (false, [.any])] (by kernel_rfl) rfl rfl ((zq44.g.run N a0 a1_0 a1_1).trans h)
def zq44.ent (N : Nat) : Ent Tryz.prog T0 := mkEnt 16 [(false, [.any]), (true, [.any, .any])] zq44.sig (fun t => zq44.g N t.1 t.2.1 t.2.2) (fun t r h => zq44.good N t.1 t.2.1 t.2.2 r h)
/-! ### zq9 -/
abbrev zq9.R : Type := Int × Int × Bool
abbrev zq9.sig : Sig := ⟨[(false, 1), (true, 2)], [], [.int .i64, .int .i64, .int .i64], [(true, 2), (false, 1)], [], [.int .i64, .int .i64, .bool]⟩
def zq9.C : Cfg D0 := ⟨Tryz.prog, T0, 4411, 0, 22, 0, [], 33280, false, []⟩
def zq9.E (N : Nat) : List (Ent Tryz.prog T0) := [zq25.ent N, zq29.ent N]
def zq9.O (N : Nat) : Orc D0 zq9.R := orcOf (zq9.E N)
def zq9.K0 : Ex → St D0 → Option zq9.R := exitK zq9.C Tryz.f17.results.toList [(true, [.any, .any]), (false, [.any])] (decOut zq9.sig)
def zq9.c1 : Code := codeAt (Tryz.f17.body.getD .skip) []
def zq9.o0 (N : Nat) (a0 : Int) (a1_0 : Int) (a1_1 : Int) : Option zq9.R :=
 (zq25.g N a0 a1_0 a1_1).bind fun r1 =>
 bif (!r1) then
  some (0, 0, false)
 else
 (zq29.g N a0 a1_0 a1_1).bind fun r2 =>
 some (r2.2.2.1, r2.2.2.2, true)
theorem zq9.o0.run (N : Nat) (a0 : Int) (a1_0 : Int) (a1_1 : Int) : runC zq9.C (zq9.O N) N zq9.c1 1 (st0 [.one (.int .i64 a0), .agg [.int .i64 a1_0, .int .i64 a1_1]] [] : St D0) zq9.K0 = zq9.o0 N a0 a1_0 a1_1 := by kernel_rfl
def zq9.g (N : Nat) (a0 : Int) (a1_0 : Int) (a1_1 : Int) : Option zq9.R := zq9.o0 N a0 a1_0 a1_1
theorem zq9.g.run (N : Nat) (a0 : Int) (a1_0 : Int) (a1_1 : Int) : runC zq9.C (zq9.O N) N zq9.c1 1 (st0 [.one (.int .i64 a0), .agg [.int .i64 a1_0, .int .i64 a1_1]] [] : St D0) zq9.K0 = zq9.g N a0 a1_0 a1_1 := by
  exact (zq9.o0.run N a0 a1_0 a1_1).trans rfl
theorem zq9.good (N : Nat) (a0 : Int) (a1_0 : Int) (a1_1 : Int) (r : zq9.R) (h : zq9.g N a0 a1_0 a1_1 = some r) : Go.PM.Good Tryz.prog T0 17 [.one (.int .i64 a0), .agg [.int .i64 a1_0, .int .i64 a1_1]] [] (zq9.sig.ret r) (zq9.sig.bs r) :=
  good_fn tabOk0 mixed0 zq9.sig (zq9.E N) Tryz.func17 (by kernel_rfl) (by kernel_rfl) 4411 0 0 [] 33280 false [] [(true, [.any, .any]), (false, [.any])] (by kernel_rfl) rfl rfl ((zq9.g.run N a0 a1_0 a1_1).trans h)
def zq9.ent (N : Nat) : Ent Tryz.prog T0 := mkEnt 17 [(false, [.any]), (true, [.any, .any])] zq9.sig (fun t => zq9.g N t.1 t.2.1 t.2.2) (fun t r h => zq9.good N t.1 t.2.1 t.2.2 r h)
/-! ### zq46 -/
abbrev zq46.R : Type := Int × Int × Bool
abbrev zq46.sig : Sig := ⟨[(false, 1), (true, 2)], [], [.int .i64, .int .i64, .int .i64], [(true, 2), (false, 1)], [], [.int .i64, .int .i64, .bool]⟩
def zq46.C : Cfg D0 := ⟨Tryz.prog, T0, 571, 0, 15, 0, [], 4160, false, []⟩
def zq46.E (N : Nat) : List (Ent Tryz.prog T0) := [zq51.ent N, zq61.ent N]
def zq46.O (N : Nat) : Orc D0 zq46.R := orcOf (zq46.E N)
def zq46.K0 : Ex → St D0 → Option zq46.R := exitK zq46.C Tryz.f18.results.toList [(true, [.any, .any]), (false, [.any])] (decOut zq46.sig)
def zq46.c1 : Code := codeAt (Tryz.f18.body.getD .skip) []
def zq46.o0 (N : Nat) (a0 : Int) (a1_0 : Int) (a1_1 : Int) : Option zq46.R :=
 (zq51.g N a0 a1_0 a1_1).bind fun r1 =>
 bif (!r1) then
  some (0, 0, false)
 else
 (zq61.g N a1_0 a1_1 (w64 (60 * a0))).bind fun r2 =>
 some (r2.1, r2.2, true)
theorem zq46.o0.run (N : Nat) (a0 : Int) (a1_0 : Int) (a1_1 : Int) : runC zq46.C (zq46.O N) N zq46.c1 1 (st0 [.one (.int .i64 a0), .agg [.int .i64 a1_0, .int .i64 a1_1]] [] : St D0) zq46.K0 = zq46.o0 N a0 a1_0 a1_1 := by kernel_rfl
def zq46.g (N : Nat) (a0 : Int) (a1_0 : Int) (a1_1 : Int) : Option zq46.R := zq46.o0 N a0 a1_0 a1_1
theorem zq46.g.run (N : Nat) (a0 : Int) (a1_0 : Int) (a1_1 : Int) : runC zq46.C (zq46.O N) N zq46.c1 1 (st0 [.one (.int .i64 a0), .agg [.int .i64 a1_0, .int .i64 a1_1]] [] : St D0) zq46.K0 = zq46.g N a0 a1_0 a1_1 := by
  exact (zq46.o0.run N a0 a1_0 a1_1).trans rfl
theorem zq46.good (N : Nat) (a0 : Int) (a1_0 : Int) (a1_1 : Int) (r : zq46.R) (h : zq46.g N a0 a1_0 a1_1 = some r) : Go.PM.Good Tryz.prog T0 18 [.one (.int .i64 a0), .agg [.int .i64 a1_0, .int .i64 a1_1]] [] (zq46.sig.ret r) (zq46.sig.bs r) :=
  good_fn tabOk0 mixed0 zq46.sig (zq46.E N) Tryz.func18 (by kernel_rfl) (by kernel_rfl) 571 0 0 [] 4160 false [] [(true, [.any, .any]), (false, [.any])] (by kernel_rfl) rfl rfl ((zq46.g.run N a0 a1_0 a1_1).trans h)
def zq46.ent (N : Nat) : Ent Tryz.prog T0 := mkEnt 18 [(false, [.any]), (true, [.any, .any])] zq46.sig (fun t => zq46.g N t.1 t.2.1 t.2.2) (fun t r h => zq46.good N t.1 t.2.1 t.2.2 r h)
/-! ### zq19 -/
abbrev zq19.R : Type := Bool
abbrev zq19.sig : Sig := ⟨[(true, 2)], [], [.int .i64, .int .i64], [(false, 1)], [], [.bool]⟩
def zq19.C : Cfg D0 := ⟨Tryz.prog, T0, 7, 0, 6, 0, [], 0, false, []⟩
def zq19.E (N : Nat) : List (Ent Tryz.prog T0) := [zq5.ent N]
def zq19.O (N : Nat) : Orc D0 zq19.R := orcOf (zq19.E N)
def zq19.K0 : Ex → St D0 → Option zq19.R := exitK zq19.C Tryz.f114.results.toList [(false, [.any])] (decOut zq19.sig)
def zq19.c1 : Code := codeAt (Tryz.f114.body.getD .skip) []
def zq19.o0 (N : Nat) (a0_0 : Int) (a0_1 : Int) : Option zq19.R :=
 (zq5.g N a0_0 a0_1).bind fun r1 =>
 some ((!r1))
theorem zq19.o0.run (N : Nat) (a0_0 : Int) (a0_1 : Int) : runC zq19.C (zq19.O N) N zq19.c1 1 (st0 [.agg [.int .i64 a0_0, .int .i64 a0_1]] [] : St D0) zq19.K0 = zq19.o0 N a0_0 a0_1 := by kernel_rfl
def zq19.g (N : Nat) (a0_0 : Int) (a0_1 : Int) : Option zq19.R := zq19.o0 N a0_0 a0_1
theorem zq19.g.run (N : Nat) (a0_0 : Int) (a0_1 : Int) : runC zq19.C (zq19.O N) N zq19.c1 1 (st0 [.agg [.int .i64 a0_0, .int .i64 a0_1]] [] : St D0) zq19.K0 = zq19.g N a0_0 a0_1 := by
  exact (zq19.o0.run N a0_0 a0_1).trans rfl
theorem zq19.good (N : Nat) (a0_0 : Int) (a0_1 : Int) (r : zq19.R) (h : zq19.g N a0_0 a0_1 = some r) : Go.PM.Good Tryz.prog T0 114 [.agg [.int .i64 a0_0, .int .i64 a0_1]] [] (zq19.sig.ret r) (zq19.sig.bs r) :=
  good_fn tabOk0 mixed0 zq19.sig (zq19.E N) Tryz.func114 (by kernel_rfl) (by kernel_rfl) 7 0 0 [] 0 false [] [(false, [.any])] (by kernel_rfl) rfl rfl ((zq19.g.run N a0_0 a0_1).trans h)
def zq19.ent (N : Nat) : Ent Tryz.prog T0 := mkEnt 114 [(true, [.any, .any])] zq19.sig (fun t => zq19.g N t.1 t.2) (fun t r h => zq19.good N t.1 t.2 r h)
/-! ### zq37 -/
abbrev zq37.R : Type := Int
abbrev zq37.sig : Sig := ⟨[(false, 1), (false, 1)], [], [.sl false 25, .fn 114 []], [(false, 1)], [], [.int .i64]⟩
def zq37.C : Cfg D0 := ⟨Tryz.prog, T0, 66483, 0, 19, 0, [(26, [0, 1, 7, 8], [])], 14400, false, []⟩
def zq37.E (N : Nat) : List (Ent Tryz.prog T0) := [zq19.ent N]
def zq37.O (N : Nat) : Orc D0 zq37.R := orcOf (zq37.E N)
def zq37.K0 : Ex → St D0 → Option zq37.R := exitK zq37.C Tryz.f128.results.toList [(false, [.any])] (decOut zq37.sig)
def zq37.c1 : Code := codeAt (Tryz.f128.body.getD .skip) []
def zq37.c2 : Code := codeAt (Tryz.f128.body.getD .skip) [false]
def zq37.c7 : Code := codeAt (Tryz.f128.body.getD .skip) [true, true]
def zq37.c12 : Code := codeAt (Tryz.f128.body.getD .skip) [true, false, false]
def zq37.c52 : Code := codeAt (Tryz.f128.body.getD .skip) [true, false, true, false, false]
def zq37.K52 (N : Nat) (Kn26 : St D0 → Option zq37.R) : Ex → St D0 → Option zq37.R := ((fun up => (onN (fun s => zq37.C.tidy 26 s ((onN Kn26 up) .normal)) (onN Kn26 up))) (blockK 0 (onN (fun s => zq37.C.tidy 6 s (fun s' => runC zq37.C (zq37.O N) N zq37.c7 7 s' zq37.K0)) zq37.K0)))
def zq37.o1 (N : Nat) (v0 : List S25) (v1 : Int) (v2 : Int) (c1 : (List S25) → Int → Int → Option zq37.R) : Option zq37.R :=
 bif (decide (v2 < v1)) then
  bif (decide (0 ≤ v2)) then
   bif (decide (v2 < (v0.length : Int))) then
    (v0[(v2 : Int).toNat]?).bind fun x1 =>
    (zq19.g N x1.f0 x1.f1).bind fun r2 =>
    bif r2 then
     some (v2)
    else
    c1 v0 v1 (w64 (v2 + 1))
   else
   none
  else
  none
 else
 some ((-1))
theorem zq37.o1.run (N : Nat) (Kn26 : St D0 → Option zq37.R) (v0 : List S25) (v1 : Int) (v2 : Int) : runC zq37.C (zq37.O N) N zq37.c52 52 (mkSt [(0, .one (.sl false 25 v0)), (1, .one (.fn 114 [])), (7, .one (.int .i64 v1)), (8, .one (.int .i64 v2))] [] : St D0) ((fun up => (onN (fun s => zq37.C.tidy 26 s ((onN Kn26 up) .normal)) (onN Kn26 up))) (blockK 0 (onN (fun s => zq37.C.tidy 6 s (fun s' => runC zq37.C (zq37.O N) N zq37.c7 7 s' zq37.K0)) zq37.K0))) = zq37.o1 N v0 v1 v2 ((fun w0 w1 w2 => Kn26 (mkSt [(0, .one (.sl false 25 w0)), (1, .one (.fn 114 [])), (7, .one (.int .i64 w1)), (8, .one (.int .i64 w2))] [] : St D0))) := by kernel_rfl
def zq37.d1 (N : Nat) (v0 : List S25) (v1 : Int) (v2 : Int) (c1 : (List S25) → Int → Int → Option zq37.R) : Option zq37.R := zq37.o1 N v0 v1 v2 c1
theorem zq37.d1.run (N : Nat) (Kn26 : St D0 → Option zq37.R) (v0 : List S25) (v1 : Int) (v2 : Int) : runC zq37.C (zq37.O N) N zq37.c52 52 (mkSt [(0, .one (.sl false 25 v0)), (1, .one (.fn 114 [])), (7, .one (.int .i64 v1)), (8, .one (.int .i64 v2))] [] : St D0) (zq37.K52 N Kn26) = zq37.d1 N v0 v1 v2 ((fun w0 w1 w2 => Kn26 (mkSt [(0, .one (.sl false 25 w0)), (1, .one (.fn 114 [])), (7, .one (.int .i64 w1)), (8, .one (.int .i64 w2))] [] : St D0))) := by
  exact (zq37.o1.run N Kn26 v0 v1 v2).trans rfl
def zq37.K26 (N : Nat) : Ex → St D0 → Option zq37.R := (blockK 0 (onN (fun s => zq37.C.tidy 6 s (fun s' => runC zq37.C (zq37.O N) N zq37.c7 7 s' zq37.K0)) zq37.K0))
def zq37.l1 (N : Nat) : Nat → (List S25) → Int → Int → Option zq37.R
  | 0, _, _, _ => none
  | n + 1, v0, v1, v2 => zq37.d1 N v0 v1 v2 ((fun w0 w1 w2 => zq37.l1 N n w0 w1 w2))
theorem zq37.loop26 (N : Nat) : ∀ n, (∀ (v0 : List S25) (v1 : Int) (v2 : Int), iter (loopF zq37.C (zq37.O N) N zq37.c52 26) n (mkSt [(0, .one (.sl false 25 v0)), (1, .one (.fn 114 [])), (7, .one (.int .i64 v1)), (8, .one (.int .i64 v2))] [] : St D0) (zq37.K26 N) = zq37.l1 N n v0 v1 v2)
  | 0 => (fun v0 v1 v2 => rfl)
  | n + 1 => (fun v0 v1 v2 => (zq37.d1.run N (fun s => iter (loopF zq37.C (zq37.O N) N zq37.c52 26) n s (zq37.K26 N)) v0 v1 v2).trans (show _ = zq37.d1 N v0 v1 v2 ((fun w0 w1 w2 => zq37.l1 N n w0 w1 w2)) from (congr rfl (funext fun w0 => funext fun w1 => funext fun w2 => (zq37.loop26 N n) w0 w1 w2))))
def zq37.o0 (N : Nat) (a0 : List S25) (c1 : (List S25) → Int → Int → Option zq37.R) : Option zq37.R :=
 c1 a0 (a0.length : Int) 0
theorem zq37.o0.run (N : Nat) (H52 : Code) (a0 : List S25) : runC zq37.C (zq37.O N) N (.seq zq37.c2 (.seq (.seq zq37.c12 (.block 0 (.loop H52))) zq37.c7)) 1 (st0 [.one (.sl false 25 a0), .one (.fn 114 [])] [] : St D0) zq37.K0 = zq37.o0 N a0 ((fun w0 w1 w2 => iter (loopF zq37.C (zq37.O N) N H52 26) N (mkSt [(0, .one (.sl false 25 w0)), (1, .one (.fn 114 [])), (7, .one (.int .i64 w1)), (8, .one (.int .i64 w2))] [] : St D0) (blockK 0 (onN (fun s => zq37.C.tidy 6 s (fun s' => runC zq37.C (zq37.O N) N zq37.c7 7 s' zq37.K0)) zq37.K0)))) := by kernel_rfl
def zq37.g (N : Nat) (a0 : List S25) : Option zq37.R := zq37.o0 N a0 ((fun w0 w1 w2 => zq37.l1 N N w0 w1 w2))
theorem zq37.c1_0 : zq37.c1 = (.seq zq37.c2 (.seq (.seq zq37.c12 (.block 0 (.loop zq37.c52))) zq37.c7)) := by kernel_rfl
theorem zq37.g.run (N : Nat) (a0 : List S25) : runC zq37.C (zq37.O N) N zq37.c1 1 (st0 [.one (.sl false 25 a0), .one (.fn 114 [])] [] : St D0) zq37.K0 = zq37.g N a0 := by
  rw [zq37.c1_0]; unfold zq37.g; exact (zq37.o0.run N zq37.c52 a0).trans (congr rfl (funext fun w0 => funext fun w1 => funext fun w2 => (zq37.loop26 N N) w0 w1 w2))
theorem zq37.good (N : Nat) (a0 : List S25) (r : zq37.R) (h : zq37.g N a0 = some r) : Go.PM.Good Tryz.prog T0 128 [.one (.sl false 25 a0), .one (.fn 114 [])] [] (zq37.sig.ret r) (zq37.sig.bs r) :=
  good_fn tabOk0 mixed0 zq37.sig (zq37.E N) Tryz.func128 (by kernel_rfl) (by kernel_rfl) 66483 0 0 [(26, [0, 1, 7, 8], [])] 14400 false [] [(false, [.any])] (by kernel_rfl) rfl rfl ((zq37.g.run N a0).trans h)
def zq37.ent (N : Nat) : Ent Tryz.prog T0 := mkEnt 128 [(false, [.ro 25]), (false, [.any])] zq37.sig (fun t => zq37.g N t.1) (fun t r h => zq37.good N t.1 r h)
/-! ### zq36 -/
abbrev zq36.R : Type := Bool
abbrev zq36.sig : Sig := ⟨[(false, 1), (false, 1)], [], [.sl false 25, .fn 114 []], [(false, 1)], [], [.bool]⟩
def zq36.C : Cfg D0 := ⟨Tryz.prog, T0, 19, 0, 9, 0, [], 96, false, []⟩
def zq36.E (N : Nat) : List (Ent Tryz.prog T0) := [zq37.ent N]
def zq36.O (N : Nat) : Orc D0 zq36.R := orcOf (zq36.E N)
def zq36.K0 : Ex → St D0 → Option zq36.R := exitK zq36.C Tryz.f113.results.toList [(false, [.any])] (decOut zq36.sig)
def zq36.c1 : Code := codeAt (Tryz.f113.body.getD .skip) []
def zq36.o0 (N : Nat) (a0 : List S25) : Option zq36.R :=
 (zq37.g N a0).bind fun r1 =>
 some ((decide (r1 ≥ 0)))
theorem zq36.o0.run (N : Nat) (a0 : List S25) : runC zq36.C (zq36.O N) N zq36.c1 1 (st0 [.one (.sl false 25 a0), .one (.fn 114 [])] [] : St D0) zq36.K0 = zq36.o0 N a0 := by kernel_rfl
def zq36.g (N : Nat) (a0 : List S25) : Option zq36.R := zq36.o0 N a0
theorem zq36.g.run (N : Nat) (a0 : List S25) : runC zq36.C (zq36.O N) N zq36.c1 1 (st0 [.one (.sl false 25 a0), .one (.fn 114 [])] [] : St D0) zq36.K0 = zq36.g N a0 := by
  exact (zq36.o0.run N a0).trans rfl
theorem zq36.good (N : Nat) (a0 : List S25) (r : zq36.R) (h : zq36.g N a0 = some r) : Go.PM.Good Tryz.prog T0 113 [.one (.sl false 25 a0), .one (.fn 114 [])] [] (zq36.sig.ret r) (zq36.sig.bs r) :=
  good_fn tabOk0 mixed0 zq36.sig (zq36.E N) Tryz.func113 (by kernel_rfl) (by kernel_rfl) 19 0 0 [] 96 false [] [(false, [.any])] (by kernel_rfl) rfl rfl ((zq36.g.run N a0).trans h)
def zq36.ent (N : Nat) : Ent Tryz.prog T0 := mkEnt 113 [(false, [.ro 25]), (false, [.any])] zq36.sig (fun t => zq36.g N t.1) (fun t r h => zq36.good N t.1 r h)
/-! ### zq18 -/
abbrev zq18.R : Type := Bool
abbrev zq18.sig : Sig := ⟨[(false, 1)], [], [.sl false 25], [(false, 1)], [], [.bool]⟩
def zq18.C : Cfg D0 := ⟨Tryz.prog, T0, 5, 0, 6, 0, [], 8, false, []⟩
def zq18.E (N : Nat) : List (Ent Tryz.prog T0) := [zq36.ent N]
def zq18.O (N : Nat) : Orc D0 zq18.R := orcOf (zq18.E N)
def zq18.K0 : Ex → St D0 → Option zq18.R := exitK zq18.C Tryz.f74.results.toList [(false, [.any])] (decOut zq18.sig)
def zq18.c1 : Code := codeAt (Tryz.f74.body.getD .skip) []
def zq18.o0 (N : Nat) (a0 : List S25) : Option zq18.R :=
 (zq36.g N a0).bind fun r1 =>
 some ((!r1))
theorem zq18.o0.run (N : Nat) (a0 : List S25) : runC zq18.C (zq18.O N) N zq18.c1 1 (st0 [.one (.sl false 25 a0)] [] : St D0) zq18.K0 = zq18.o0 N a0 := by kernel_rfl
def zq18.g (N : Nat) (a0 : List S25) : Option zq18.R := zq18.o0 N a0
theorem zq18.g.run (N : Nat) (a0 : List S25) : runC zq18.C (zq18.O N) N zq18.c1 1 (st0 [.one (.sl false 25 a0)] [] : St D0) zq18.K0 = zq18.g N a0 := by
  exact (zq18.o0.run N a0).trans rfl
theorem zq18.good (N : Nat) (a0 : List S25) (r : zq18.R) (h : zq18.g N a0 = some r) : Go.PM.Good Tryz.prog T0 74 [.one (.sl false 25 a0)] [] (zq18.sig.ret r) (zq18.sig.bs r) :=
  good_fn tabOk0 mixed0 zq18.sig (zq18.E N) Tryz.func74 (by kernel_rfl) (by kernel_rfl) 5 0 0 [] 8 false [] [(false, [.any])] (by kernel_rfl) rfl rfl ((zq18.g.run N a0).trans h)
def zq18.ent (N : Nat) : Ent Tryz.prog T0 := mkEnt 74 [(false, [.ro 25])] zq18.sig (fun t => zq18.g N t) (fun t r h => zq18.good N t r h)
/-! ### zq16 -/
abbrev zq16.R : Type := Int × Int
abbrev zq16.sig : Sig := ⟨[(true, 2), (true, 2)], [], [.int .i64, .int .i64, .int .i64, .int .i64], [(true, 2)], [], [.int .i64, .int .i64]⟩
def zq16.C : Cfg D0 := ⟨Tryz.prog, T0, 31, 0, 22, 0, [], 0, false, []⟩
def zq16.E (N : Nat) : List (Ent Tryz.prog T0) := [zq26.ent N]
def zq16.O (N : Nat) : Orc D0 zq16.R := orcOf (zq16.E N)
def zq16.K0 : Ex → St D0 → Option zq16.R := exitK zq16.C Tryz.f76.results.toList [(true, [.any, .any])] (decOut zq16.sig)
def zq16.c1 : Code := codeAt (Tryz.f76.body.getD .skip) []
def zq16.o0 (N : Nat) (a0_0 : Int) (a0_1 : Int) (a1_0 : Int) (a1_1 : Int) : Option zq16.R :=
 (zq26.g N (w64 ((w64 (a0_0 * a1_1)) + (w64 (a1_0 * a0_1)))) (w64 (a0_1 * a1_1))).bind fun r1 =>
 some (r1.1, r1.2)
theorem zq16.o0.run (N : Nat) (a0_0 : Int) (a0_1 : Int) (a1_0 : Int) (a1_1 : Int) : runC zq16.C (zq16.O N) N zq16.c1 1 (st0 [.agg [.int .i64 a0_0, .int .i64 a0_1], .agg [.int .i64 a1_0, .int .i64 a1_1]] [] : St D0) zq16.K0 = zq16.o0 N a0_0 a0_1 a1_0 a1_1 := by kernel_rfl
def zq16.g (N : Nat) (a0_0 : Int) (a0_1 : Int) (a1_0 : Int) (a1_1 : Int) : Option zq16.R := zq16.o0 N a0_0 a0_1 a1_0 a1_1
theorem zq16.g.run (N : Nat) (a0_0 : Int) (a0_1 : Int) (a1_0 : Int) (a1_1 : Int) : runC zq16.C (zq16.O N) N zq16.c1 1 (st0 [.agg [.int .i64 a0_0, .int .i64 a0_1], .agg [.int .i64 a1_0, .int .i64 a1_1]] [] : St D0) zq16.K0 = zq16.g N a0_0 a0_1 a1_0 a1_1 := by
  exact (zq16.o0.run N a0_0 a0_1 a1_0 a1_1).trans rfl
theorem zq16.good (N : Nat) (a0_0 : Int) (a0_1 : Int) (a1_0 : Int) (a1_1 : Int) (r : zq16.R) (h : zq16.g N a0_0 a0_1 a1_0 a1_1 = some r) : Go.PM.Good Tryz.prog T0 76 [.agg [.int .i64 a0_0, .int .i64 a0_1], .agg [.int .i64 a1_0, .int .i64 a1_1]] [] (zq16.sig.ret r) (zq16.sig.bs r) :=
  good_fn tabOk0 mixed0 zq16.sig (zq16.E N) Tryz.func76 (by kernel_rfl) (by kernel_rfl) 31 0 0 [] 0 false [] [(true, [.any, .any])] (by kernel_rfl) rfl rfl ((zq16.g.run N a0_0 a0_1 a1_0 a1_1).trans h)
def zq16.ent (N : Nat) : Ent Tryz.prog T0 := mkEnt 76 [(true, [.any, .any]), (true, [.any, .any])] zq16.sig (fun t => zq16.g N t.1 t.2.1 t.2.2.1 t.2.2.2) (fun t r h => zq16.good N t.1 t.2.1 t.2.2.1 t.2.2.2 r h)
/-! ### zq22 -/
abbrev zq22.R : Type := Int × Int × Bool
abbrev zq22.sig : Sig := ⟨[(true, 2)], [], [.int .i64, .int .i64], [(true, 2), (false, 1)], [], [.int .i64, .int .i64, .bool]⟩
def zq22.C : Cfg D0 := ⟨Tryz.prog, T0, 79, 0, 9, 0, [], 0, false, []⟩
def zq22.E (N : Nat) : List (Ent Tryz.prog T0) := [zq5.ent N]
def zq22.O (N : Nat) : Orc D0 zq22.R := orcOf (zq22.E N)
def zq22.K0 : Ex → St D0 → Option zq22.R := exitK zq22.C Tryz.f75.results.toList [(true, [.any, .any]), (false, [.any])] (decOut zq22.sig)
def zq22.c1 : Code := codeAt (Tryz.f75.body.getD .skip) []
def zq22.o0 (N : Nat) (a0_0 : Int) (a0_1 : Int) : Option zq22.R :=
 (zq5.g N a0_0 a0_1).bind fun r1 =>
 bif (!r1) then
  some (0, 0, false)
 else
 some (a0_0, a0_1, true)
theorem zq22.o0.run (N : Nat) (a0_0 : Int) (a0_1 : Int) : runC zq22.C (zq22.O N) N zq22.c1 1 (st0 [.agg [.int .i64 a0_0, .int .i64 a0_1]] [] : St D0) zq22.K0 = zq22.o0 N a0_0 a0_1 := by kernel_rfl
def zq22.g (N : Nat) (a0_0 : Int) (a0_1 : Int) : Option zq22.R := zq22.o0 N a0_0 a0_1
theorem zq22.g.run (N : Nat) (a0_0 : Int) (a0_1 : Int) : runC zq22.C (zq22.O N) N zq22.c1 1 (st0 [.agg [.int .i64 a0_0, .int .i64 a0_1]] [] : St D0) zq22.K0 = zq22.g N a0_0 a0_1 := by
  exact (zq22.o0.run N a0_0 a0_1).trans rfl
theorem zq22.good (N : Nat) (a0_0 : Int) (a0_1 : Int) (r : zq22.R) (h : zq22.g N a0_0 a0_1 = some r) : Go.PM.Good Tryz.prog T0 75 [.agg [.int .i64 a0_0, .int .i64 a0_1]] [] (zq22.sig.ret r) (zq22.sig.bs r) :=
  good_fn tabOk0 mixed0 zq22.sig (zq22.E N) Tryz.func75 (by kernel_rfl) (by kernel_rfl) 79 0 0 [] 0 false [] [(true, [.any, .any]), (false, [.any])] (by kernel_rfl) rfl rfl ((zq22.g.run N a0_0 a0_1).trans h)
def zq22.ent (N : Nat) : Ent Tryz.prog T0 := mkEnt 75 [(true, [.any, .any])] zq22.sig (fun t => zq22.g N t.1 t.2) (fun t r h => zq22.good N t.1 t.2 r h)
/-! ### zq2 -/
abbrev zq2.R : Type := Int × Int × Bool
abbrev zq2.sig : Sig := ⟨[(true, 2), (true, 2)], [], [.int .i64, .int .i64, .int .i64, .int .i64], [(true, 2), (false, 1)], [], [.int .i64, .int .i64, .bool]⟩
def zq2.C : Cfg D0 := ⟨Tryz.prog, T0, 1087, 0, 18, 0, [], 0, false, []⟩
def zq2.E (N : Nat) : List (Ent Tryz.prog T0) := [zq18.ent N, zq16.ent N, zq22.ent N]
def zq2.O (N : Nat) : Orc D0 zq2.R := orcOf (zq2.E N)
def zq2.K0 : Ex → St D0 → Option zq2.R := exitK zq2.C Tryz.f24.results.toList [(true, [.any, .any]), (false, [.any])] (decOut zq2.sig)
def zq2.c1 : Code := codeAt (Tryz.f24.body.getD .skip) []
def zq2.o0 (N : Nat) (a0_0 : Int) (a0_1 : Int) (a1_0 : Int) (a1_1 : Int) : Option zq2.R :=
 (zq18.g N ([(⟨a0_0, a0_1⟩ : S25), (⟨a1_0, a1_1⟩ : S25)] : List S25)).bind fun r1 =>
 bif (!r1) then
  some (0, 0, false)
 else
 (zq16.g N a0_0 a0_1 a1_0 a1_1).bind fun r2 =>
 (zq22.g N r2.1 r2.2).bind fun r3 =>
 some (r3.1, r3.2.1, r3.2.2)
theorem zq2.o0.run (N : Nat) (a0_0 : Int) (a0_1 : Int) (a1_0 : Int) (a1_1 : Int) : runC zq2.C (zq2.O N) N zq2.c1 1 (st0 [.agg [.int .i64 a0_0, .int .i64 a0_1], .agg [.int .i64 a1_0, .int .i64 a1_1]] [] : St D0) zq2.K0 = zq2.o0 N a0_0 a0_1 a1_0 a1_1 := by kernel_rfl
def zq2.g (N : Nat) (a0_0 : Int) (a0_1 : Int) (a1_0 : Int) (a1_1 : Int) : Option zq2.R := zq2.o0 N a0_0 a0_1 a1_0 a1_1
theorem zq2.g.run (N : Nat) (a0_0 : Int) (a0_1 : Int) (a1_0 : Int) (a1_1 : Int) : runC zq2.C (zq2.O N) N zq2.c1 1 (st0 [.agg [.int .i64 a0_0, .int .i64 a0_1], .agg [.int .i64 a1_0, .int .i64 a1_1]] [] : St D0) zq2.K0 = zq2.g N a0_0 a0_1 a1_0 a1_1 := by
  exact (zq2.o0.run N a0_0 a0_1 a1_0 a1_1).trans rfl
theorem zq2.good (N : Nat) (a0_0 : Int) (a0_1 : Int) (a1_0 : Int) (a1_1 : Int) (r : zq2.R) (h : zq2.g N a0_0 a0_1 a1_0 a1_1 = some r) : Go.PM.Good Tryz.prog T0 24 [.agg [.int .i64 a0_0, .int .i64 a0_1], .agg [.int .i64 a1_0, .int .i64 a1_1]] [] (zq2.sig.ret r) (zq2.sig.bs r) :=
  good_fn tabOk0 mixed0 zq2.sig (zq2.E N) Tryz.func24 (by kernel_rfl) (by kernel_rfl) 1087 0 0 [] 0 false [] [(true, [.any, .any]), (false, [.any])] (by kernel_rfl) rfl rfl ((zq2.g.run N a0_0 a0_1 a1_0 a1_1).trans h)
def zq2.ent (N : Nat) : Ent Tryz.prog T0 := mkEnt 24 [(true, [.any, .any]), (true, [.any, .any])] zq2.sig (fun t => zq2.g N t.1 t.2.1 t.2.2.1 t.2.2.2) (fun t r h => zq2.good N t.1 t.2.1 t.2.2.1 t.2.2.2 r h)
/-! ### zq28 -/
abbrev zq28.R : Type := List S25 × Bool
abbrev zq28.sig : Sig := ⟨[(true, 2), (false, 1)], [], [.int .i64, .int .i64, .int .i64], [(false, 1), (false, 1)], [], [.sl true 25, .bool]⟩
def zq28.C : Cfg D0 := ⟨Tryz.prog, T0, 3831, 0, 32, 0, [(58, [1, 2, 6, 9, 10], [2])], 1082195968, false, []⟩
def zq28.E (N : Nat) : List (Ent Tryz.prog T0) := [zq26.ent N, zq18.ent N]
def zq28.O (N : Nat) : Orc D0 zq28.R := orcOf (zq28.E N)
def zq28.K0 : Ex → St D0 → Option zq28.R := exitK zq28.C Tryz.f68.results.toList [(false, [.own 25]), (false, [.any])] (decOut zq28.sig)
def zq28.c1 : Code := codeAt (Tryz.f68.body.getD .skip) []
def zq28.c2 : Code := codeAt (Tryz.f68.body.getD .skip) [false]
def zq28.c6 : Code := codeAt (Tryz.f68.body.getD .skip) [true, false]
def zq28.c15 : Code := codeAt (Tryz.f68.body.getD .skip) [true, true, true]
def zq28.c28 : Code := codeAt (Tryz.f68.body.getD .skip) [true, true, false, false]
def zq28.c116 : Code := codeAt (Tryz.f68.body.getD .skip) [true, true, false, true, false, false]
def zq28.K116 (N : Nat) (Kn58 : St D0 → Option zq28.R) : Ex → St D0 → Option zq28.R := ((fun up => (onN (fun s => zq28.C.tidy 58 s ((onN Kn58 up) .normal)) (onN Kn58 up))) (blockK 0 (onN (fun s => zq28.C.tidy 14 s (fun s' => runC zq28.C (zq28.O N) N zq28.c15 15 s' zq28.K0)) zq28.K0)))
def zq28.o1 (N : Nat) (v0 : Int) (v1 : List S25) (v2 : Int) (v3 : Int) (v4 : Int) (v5 : Int) (c1 : Int → (List S25) → Int → Int → Int → Int → Option zq28.R) : Option zq28.R :=
 bif (decide (v3 < v2)) then
  (zq26.g N (w64 (v4 + (w64 (v3 * v5)))) (w64 (v5 * v0))).bind fun r1 =>
  bif (Nat.blt (v1.length + ([(⟨r1.1, r1.2⟩ : S25)] : List S25).length) 8796093022208) then
   c1 v0 (v1 ++ ([(⟨r1.1, r1.2⟩ : S25)] : List S25)) v2 (w64 (v3 + 1)) v4 v5
  else
  none
 else
 (zq18.g N v1).bind fun r2 =>
 some (v1, r2)
theorem zq28.o1.run (N : Nat) (Kn58 : St D0 → Option zq28.R) (v0 : Int) (v1 : List S25) (v2 : Int) (v3 : Int) (v4 : Int) (v5 : Int) : runC zq28.C (zq28.O N) N zq28.c116 116 (mkSt [(1, .one (.int .i64 v0)), (2, .one (.ptr 2 0)), (6, .one (.sl true 25 v1)), (9, .one (.int .i64 v2)), (10, .one (.int .i64 v3))] [(2, some (25, [.int .i64 v4, .int .i64 v5]))] : St D0) ((fun up => (onN (fun s => zq28.C.tidy 58 s ((onN Kn58 up) .normal)) (onN Kn58 up))) (blockK 0 (onN (fun s => zq28.C.tidy 14 s (fun s' => runC zq28.C (zq28.O N) N zq28.c15 15 s' zq28.K0)) zq28.K0))) = zq28.o1 N v0 v1 v2 v3 v4 v5 ((fun w0 w1 w2 w3 w4 w5 => Kn58 (mkSt [(1, .one (.int .i64 w0)), (2, .one (.ptr 2 0)), (6, .one (.sl true 25 w1)), (9, .one (.int .i64 w2)), (10, .one (.int .i64 w3))] [(2, some (25, [.int .i64 w4, .int .i64 w5]))] : St D0))) := by kernel_rfl
def zq28.d1 (N : Nat) (v0 : Int) (v1 : List S25) (v2 : Int) (v3 : Int) (v4 : Int) (v5 : Int) (c1 : Int → (List S25) → Int → Int → Int → Int → Option zq28.R) : Option zq28.R := zq28.o1 N v0 v1 v2 v3 v4 v5 c1
theorem zq28.d1.run (N : Nat) (Kn58 : St D0 → Option zq28.R) (v0 : Int) (v1 : List S25) (v2 : Int) (v3 : Int) (v4 : Int) (v5 : Int) : runC zq28.C (zq28.O N) N zq28.c116 116 (mkSt [(1, .one (.int .i64 v0)), (2, .one (.ptr 2 0)), (6, .one (.sl true 25 v1)), (9, .one (.int .i64 v2)), (10, .one (.int .i64 v3))] [(2, some (25, [.int .i64 v4, .int .i64 v5]))] : St D0) (zq28.K116 N Kn58) = zq28.d1 N v0 v1 v2 v3 v4 v5 ((fun w0 w1 w2 w3 w4 w5 => Kn58 (mkSt [(1, .one (.int .i64 w0)), (2, .one (.ptr 2 0)), (6, .one (.sl true 25 w1)), (9, .one (.int .i64 w2)), (10, .one (.int .i64 w3))] [(2, some (25, [.int .i64 w4, .int .i64 w5]))] : St D0))) := by
  exact (zq28.o1.run N Kn58 v0 v1 v2 v3 v4 v5).trans rfl
def zq28.K58 (N : Nat) : Ex → St D0 → Option zq28.R := (blockK 0 (onN (fun s => zq28.C.tidy 14 s (fun s' => runC zq28.C (zq28.O N) N zq28.c15 15 s' zq28.K0)) zq28.K0))
def zq28.l1 (N : Nat) : Nat → Int → (List S25) → Int → Int → Int → Int → Option zq28.R
  | 0, _, _, _, _, _, _ => none
  | n + 1, v0, v1, v2, v3, v4, v5 => zq28.d1 N v0 v1 v2 v3 v4 v5 ((fun w0 w1 w2 w3 w4 w5 => zq28.l1 N n w0 w1 w2 w3 w4 w5))
theorem zq28.loop58 (N : Nat) : ∀ n, (∀ (v0 : Int) (v1 : List S25) (v2 : Int) (v3 : Int) (v4 : Int) (v5 : Int), iter (loopF zq28.C (zq28.O N) N zq28.c116 58) n (mkSt [(1, .one (.int .i64 v0)), (2, .one (.ptr 2 0)), (6, .one (.sl true 25 v1)), (9, .one (.int .i64 v2)), (10, .one (.int .i64 v3))] [(2, some (25, [.int .i64 v4, .int .i64 v5]))] : St D0) (zq28.K58 N) = zq28.l1 N n v0 v1 v2 v3 v4 v5)
  | 0 => (fun v0 v1 v2 v3 v4 v5 => rfl)
  | n + 1 => (fun v0 v1 v2 v3 v4 v5 => (zq28.d1.run N (fun s => iter (loopF zq28.C (zq28.O N) N zq28.c116 58) n s (zq28.K58 N)) v0 v1 v2 v3 v4 v5).trans (show _ = zq28.d1 N v0 v1 v2 v3 v4 v5 ((fun w0 w1 w2 w3 w4 w5 => zq28.l1 N n w0 w1 w2 w3 w4 w5)) from (congr rfl (funext fun w0 => funext fun w1 => funext fun w2 => funext fun w3 => funext fun w4 => funext fun w5 => (zq28.loop58 N n) w0 w1 w2 w3 w4 w5))))
def zq28.o0 (N : Nat) (a0_0 : Int) (a0_1 : Int) (a1 : Int) (c1 : Int → (List S25) → Int → Int → Int → Int → Option zq28.R) : Option zq28.R :=
 c1 a1 ([] : List S25) a1 0 a0_0 a0_1
theorem zq28.o0.run (N : Nat) (H116 : Code) (a0_0 : Int) (a0_1 : Int) (a1 : Int) : runC zq28.C (zq28.O N) N (.seq zq28.c2 (.seq zq28.c6 (.seq (.seq zq28.c28 (.block 0 (.loop H116))) zq28.c15))) 1 (st0 [.agg [.int .i64 a0_0, .int .i64 a0_1], .one (.int .i64 a1)] [] : St D0) zq28.K0 = zq28.o0 N a0_0 a0_1 a1 ((fun w0 w1 w2 w3 w4 w5 => iter (loopF zq28.C (zq28.O N) N H116 58) N (mkSt [(1, .one (.int .i64 w0)), (2, .one (.ptr 2 0)), (6, .one (.sl true 25 w1)), (9, .one (.int .i64 w2)), (10, .one (.int .i64 w3))] [(2, some (25, [.int .i64 w4, .int .i64 w5]))] : St D0) (blockK 0 (onN (fun s => zq28.C.tidy 14 s (fun s' => runC zq28.C (zq28.O N) N zq28.c15 15 s' zq28.K0)) zq28.K0)))) := by kernel_rfl
def zq28.g (N : Nat) (a0_0 : Int) (a0_1 : Int) (a1 : Int) : Option zq28.R := zq28.o0 N a0_0 a0_1 a1 ((fun w0 w1 w2 w3 w4 w5 => zq28.l1 N N w0 w1 w2 w3 w4 w5))
theorem zq28.c1_0 : zq28.c1 = (.seq zq28.c2 (.seq zq28.c6 (.seq (.seq zq28.c28 (.block 0 (.loop zq28.c116))) zq28.c15))) := by kernel_rfl
theorem zq28.g.run (N : Nat) (a0_0 : Int) (a0_1 : Int) (a1 : Int) : runC zq28.C (zq28.O N) N zq28.c1 1 (st0 [.agg [.int .i64 a0_0, .int .i64 a0_1], .one (.int .i64 a1)] [] : St D0) zq28.K0 = zq28.g N a0_0 a0_1 a1 := by
  rw [zq28.c1_0]; unfold zq28.g; exact (zq28.o0.run N zq28.c116 a0_0 a0_1 a1).trans (congr rfl (funext fun w0 => funext fun w1 => funext fun w2 => funext fun w3 => funext fun w4 => funext fun w5 => (zq28.loop58 N N) w0 w1 w2 w3 w4 w5))
theorem zq28.good (N : Nat) (a0_0 : Int) (a0_1 : Int) (a1 : Int) (r : zq28.R) (h : zq28.g N a0_0 a0_1 a1 = some r) : Go.PM.Good Tryz.prog T0 68 [.agg [.int .i64 a0_0, .int .i64 a0_1], .one (.int .i64 a1)] [] (zq28.sig.ret r) (zq28.sig.bs r) :=
  good_fn tabOk0 mixed0 zq28.sig (zq28.E N) Tryz.func68 (by kernel_rfl) (by kernel_rfl) 3831 0 0 [(58, [1, 2, 6, 9, 10], [2])] 1082195968 false [] [(false, [.own 25]), (false, [.any])] (by kernel_rfl) rfl rfl ((zq28.g.run N a0_0 a0_1 a1).trans h)
def zq28.ent (N : Nat) : Ent Tryz.prog T0 := mkEnt 68 [(true, [.any, .any]), (false, [.any])] zq28.sig (fun t => zq28.g N t.1 t.2.1 t.2.2) (fun t r h => zq28.good N t.1 t.2.1 t.2.2 r h)
/-! ### zq23 -/
abbrev zq23.R : Type := List S25 × Bool
abbrev zq23.sig : Sig := ⟨[(false, 1), (false, 1)], [], [.sl false 25, .bool], [(false, 1), (false, 1)], [], [.sl false 25, .bool]⟩
def zq23.C : Cfg D0 := ⟨Tryz.prog, T0, 4147, 0, 14, 0, [(12, [0, 12], [])], 576, false, []⟩
def zq23.E (N : Nat) : List (Ent Tryz.prog T0) := [zq18.ent N]
def zq23.O (N : Nat) : Orc D0 zq23.R := orcOf (zq23.E N)
def zq23.K0 : Ex → St D0 → Option zq23.R := exitK zq23.C Tryz.f67.results.toList [(false, [.ro 25]), (false, [.any])] (decOut zq23.sig)
def zq23.c1 : Code := codeAt (Tryz.f67.body.getD .skip) []
def zq23.c2 : Code := codeAt (Tryz.f67.body.getD .skip) [false]
def zq23.c7 : Code := codeAt (Tryz.f67.body.getD .skip) [true, true]
def zq23.c12 : Code := codeAt (Tryz.f67.body.getD .skip) [true, false, false]
def zq23.c13 : Code := codeAt (Tryz.f67.body.getD .skip) [true, false, true]
def zq23.K13 (N : Nat) : Ex → St D0 → Option zq23.R := (onN (fun s => zq23.C.tidy 6 s (fun s' => runC zq23.C (zq23.O N) N zq23.c7 7 s' zq23.K0)) zq23.K0)
def zq23.o1 (N : Nat) (v0 : List S25) (v1 : Bool) : Option zq23.R :=
 bif v1 then
  some (([] : List S25), false)
 else
 some (v0, true)
theorem zq23.o1.run (N : Nat) (v0 : List S25) (v1 : Bool) : runC zq23.C (zq23.O N) N zq23.c13 13 (mkSt [(0, .one (.sl false 25 v0)), (12, .one (.bool v1))] [] : St D0) (onN (fun s => zq23.C.tidy 6 s (fun s' => runC zq23.C (zq23.O N) N zq23.c7 7 s' zq23.K0)) zq23.K0) = zq23.o1 N v0 v1 := by kernel_rfl
def zq23.d1 (N : Nat) (v0 : List S25) (v1 : Bool) : Option zq23.R := zq23.o1 N v0 v1
theorem zq23.d1.run (N : Nat) (v0 : List S25) (v1 : Bool) : runC zq23.C (zq23.O N) N zq23.c13 13 (mkSt [(0, .one (.sl false 25 v0)), (12, .one (.bool v1))] [] : St D0) (zq23.K13 N) = zq23.d1 N v0 v1 := by
  exact (zq23.o1.run N v0 v1).trans rfl
def zq23.o0 (N : Nat) (a0 : List S25) (a1 : Bool) (c1 : (List S25) → Bool → Option zq23.R) : Option zq23.R :=
 bif (!a1) then
  c1 a0 true
 else
 (zq18.g N a0).bind fun r1 =>
 c1 a0 (!r1)
theorem zq23.o0.run (N : Nat) (H13 : Code) (a0 : List S25) (a1 : Bool) : runC zq23.C (zq23.O N) N (.seq zq23.c2 (.seq (.seq zq23.c12 H13) zq23.c7)) 1 (st0 [.one (.sl false 25 a0), .one (.bool a1)] [] : St D0) zq23.K0 = zq23.o0 N a0 a1 ((fun w0 w1 => runC zq23.C (zq23.O N) N H13 13 (mkSt [(0, .one (.sl false 25 w0)), (12, .one (.bool w1))] [] : St D0) (onN (fun s => zq23.C.tidy 6 s (fun s' => runC zq23.C (zq23.O N) N zq23.c7 7 s' zq23.K0)) zq23.K0))) := by kernel_rfl
def zq23.g (N : Nat) (a0 : List S25) (a1 : Bool) : Option zq23.R := zq23.o0 N a0 a1 ((fun w0 w1 => zq23.d1 N w0 w1))
theorem zq23.c1_0 : zq23.c1 = (.seq zq23.c2 (.seq (.seq zq23.c12 zq23.c13) zq23.c7)) := by kernel_rfl
theorem zq23.g.run (N : Nat) (a0 : List S25) (a1 : Bool) : runC zq23.C (zq23.O N) N zq23.c1 1 (st0 [.one (.sl false 25 a0), .one (.bool a1)] [] : St D0) zq23.K0 = zq23.g N a0 a1 := by
  rw [zq23.c1_0]; unfold zq23.g; exact (zq23.o0.run N zq23.c13 a0 a1).trans (congr rfl (funext fun w0 => funext fun w1 => zq23.d1.run N w0 w1))
theorem zq23.good (N : Nat) (a0 : List S25) (a1 : Bool) (r : zq23.R) (h : zq23.g N a0 a1 = some r) : Go.PM.Good Tryz.prog T0 67 [.one (.sl false 25 a0), .one (.bool a1)] [] (zq23.sig.ret r) (zq23.sig.bs r) :=
  good_fn tabOk0 mixed0 zq23.sig (zq23.E N) Tryz.func67 (by kernel_rfl) (by kernel_rfl) 4147 0 0 [(12, [0, 12], [])] 576 false [] [(false, [.ro 25]), (false, [.any])] (by kernel_rfl) rfl rfl ((zq23.g.run N a0 a1).trans h)
def zq23.ent (N : Nat) : Ent Tryz.prog T0 := mkEnt 67 [(false, [.ro 25]), (false, [.any])] zq23.sig (fun t => zq23.g N t.1 t.2) (fun t r h => zq23.good N t.1 t.2 r h)
/-! ### zq13 -/
abbrev zq13.R : Type := List S25 × Bool
abbrev zq13.sig : Sig := ⟨[(false, 1), (true, 2)], [], [.int .i64, .int .i64, .int .i64], [(false, 1), (false, 1)], [], [.sl false 25, .bool]⟩
def zq13.C : Cfg D0 := ⟨Tryz.prog, T0, 571, 0, 18, 0, [], 2112, false, []⟩
def zq13.E (N : Nat) : List (Ent Tryz.prog T0) := [zq25.ent N, zq28.ent N, zq23.ent N]
def zq13.O (N : Nat) : Orc D0 zq13.R := orcOf (zq13.E N)
def zq13.K0 : Ex → St D0 → Option zq13.R := exitK zq13.C Tryz.f19.results.toList [(false, [.ro 25]), (false, [.any])] (decOut zq13.sig)
def zq13.c1 : Code := codeAt (Tryz.f19.body.getD .skip) []
def zq13.o0 (N : Nat) (a0 : Int) (a1_0 : Int) (a1_1 : Int) : Option zq13.R :=
 (zq25.g N a0 a1_0 a1_1).bind fun r1 =>
 bif (!r1) then
  some (([] : List S25), false)
 else
 (zq28.g N a1_0 a1_1 a0).bind fun r2 =>
 (zq23.g N r2.1 r2.2).bind fun r3 =>
 some (r3.1, r3.2)
theorem zq13.o0.run (N : Nat) (a0 : Int) (a1_0 : Int) (a1_1 : Int) : runC zq13.C (zq13.O N) N zq13.c1 1 (st0 [.one (.int .i64 a0), .agg [.int .i64 a1_0, .int .i64 a1_1]] [] : St D0) zq13.K0 = zq13.o0 N a0 a1_0 a1_1 := by kernel_rfl
def zq13.g (N : Nat) (a0 : Int) (a1_0 : Int) (a1_1 : Int) : Option zq13.R := zq13.o0 N a0 a1_0 a1_1
theorem zq13.g.run (N : Nat) (a0 : Int) (a1_0 : Int) (a1_1 : Int) : runC zq13.C (zq13.O N) N zq13.c1 1 (st0 [.one (.int .i64 a0), .agg [.int .i64 a1_0, .int .i64 a1_1]] [] : St D0) zq13.K0 = zq13.g N a0 a1_0 a1_1 := by
  exact (zq13.o0.run N a0 a1_0 a1_1).trans rfl
theorem zq13.good (N : Nat) (a0 : Int) (a1_0 : Int) (a1_1 : Int) (r : zq13.R) (h : zq13.g N a0 a1_0 a1_1 = some r) : Go.PM.Good Tryz.prog T0 19 [.one (.int .i64 a0), .agg [.int .i64 a1_0, .int .i64 a1_1]] [] (zq13.sig.ret r) (zq13.sig.bs r) :=
  good_fn tabOk0 mixed0 zq13.sig (zq13.E N) Tryz.func19 (by kernel_rfl) (by kernel_rfl) 571 0 0 [] 2112 false [] [(false, [.ro 25]), (false, [.any])] (by kernel_rfl) rfl rfl ((zq13.g.run N a0 a1_0 a1_1).trans h)
def zq13.ent (N : Nat) : Ent Tryz.prog T0 := mkEnt 19 [(false, [.any]), (true, [.any, .any])] zq13.sig (fun t => zq13.g N t.1 t.2.1 t.2.2) (fun t r h => zq13.good N t.1 t.2.1 t.2.2 r h)
/-! ### zq50 -/
abbrev zq50.R : Type := List S25 × Bool
abbrev zq50.sig : Sig := ⟨[(false, 1), (true, 2)], [], [.int .i64, .int .i64, .int .i64], [(false, 1), (false, 1)], [], [.sl true 25, .bool]⟩
def zq50.C : Cfg D0 := ⟨Tryz.prog, T0, 34359813115, 0, 41, 0, [(122, [0, 3, 6, 7], [3])], 17721115648, false, []⟩
def zq50.E (N : Nat) : List (Ent Tryz.prog T0) := [zq51.ent N, zq56.ent N]
def zq50.O (N : Nat) : Orc D0 zq50.R := orcOf (zq50.E N)
def zq50.K0 : Ex → St D0 → Option zq50.R := exitK zq50.C Tryz.f20.results.toList [(false, [.own 25]), (false, [.any])] (decOut zq50.sig)
def zq50.c1 : Code := codeAt (Tryz.f20.body.getD .skip) []
def zq50.c2 : Code := codeAt (Tryz.f20.body.getD .skip) [false]
def zq50.c6 : Code := codeAt (Tryz.f20.body.getD .skip) [true, false]
def zq50.c14 : Code := codeAt (Tryz.f20.body.getD .skip) [true, true, false]
def zq50.c31 : Code := codeAt (Tryz.f20.body.getD .skip) [true, true, true, true]
def zq50.c60 : Code := codeAt (Tryz.f20.body.getD .skip) [true, true, true, false, false]
def zq50.c244 : Code := codeAt (Tryz.f20.body.getD .skip) [true, true, true, false, true, false, false]
def zq50.K244 (N : Nat) (Kn122 : St D0 → Option zq50.R) : Ex → St D0 → Option zq50.R := ((fun up => (onN (fun s => zq50.C.tidy 122 s ((onN Kn122 up) .normal)) (onN Kn122 up))) (blockK 0 (onN (fun s => zq50.C.tidy 30 s (fun s' => runC zq50.C (zq50.O N) N zq50.c31 31 s' zq50.K0)) zq50.K0)))
def zq50.o1 (N : Nat) (v0 : Int) (v1 : Int) (v2 : Int) (v3 : Int) (c2 : Int → (List S25) → Int → Int → Int → Option zq50.R) : Option zq50.R :=
 bif (decide (v1 < v0)) then
  (zq56.g N (w64 (v2 + (w64 (v1 * v3)))) (w64 (v3 * v0))).bind fun r1 =>
  bif (!r1.2.2) then
   some (([] : List S25), false)
  else
  bif (Nat.blt (([] : List S25).length + ([(⟨r1.1, r1.2.1⟩ : S25)] : List S25).length) 8796093022208) then
   c2 v0 (([] : List S25) ++ ([(⟨r1.1, r1.2.1⟩ : S25)] : List S25)) (w64 (v1 + 1)) v2 v3
  else
  none
 else
 some (([] : List S25), true)
theorem zq50.o1.run (N : Nat) (Kn122 : St D0 → Option zq50.R) (v0 : Int) (v1 : Int) (v2 : Int) (v3 : Int) : runC zq50.C (zq50.O N) N zq50.c244 244 (mkSt [(0, .one (.int .i64 v0)), (3, .one (.ptr 3 0)), (6, .one (.nl)), (7, .one (.int .i64 v1))] [(3, some (25, [.int .i64 v2, .int .i64 v3]))] : St D0) ((fun up => (onN (fun s => zq50.C.tidy 122 s ((onN Kn122 up) .normal)) (onN Kn122 up))) (blockK 0 (onN (fun s => zq50.C.tidy 30 s (fun s' => runC zq50.C (zq50.O N) N zq50.c31 31 s' zq50.K0)) zq50.K0))) = zq50.o1 N v0 v1 v2 v3 ((fun w0 w1 w2 w3 w4 => Kn122 (mkSt [(0, .one (.int .i64 w0)), (3, .one (.ptr 3 0)), (6, .one (.sl true 25 w1)), (7, .one (.int .i64 w2))] [(3, some (25, [.int .i64 w3, .int .i64 w4]))] : St D0))) := by kernel_rfl
def zq50.d1 (N : Nat) (v0 : Int) (v1 : Int) (v2 : Int) (v3 : Int) (c2 : Int → (List S25) → Int → Int → Int → Option zq50.R) : Option zq50.R := zq50.o1 N v0 v1 v2 v3 c2
theorem zq50.d1.run (N : Nat) (Kn122 : St D0 → Option zq50.R) (v0 : Int) (v1 : Int) (v2 : Int) (v3 : Int) : runC zq50.C (zq50.O N) N zq50.c244 244 (mkSt [(0, .one (.int .i64 v0)), (3, .one (.ptr 3 0)), (6, .one (.nl)), (7, .one (.int .i64 v1))] [(3, some (25, [.int .i64 v2, .int .i64 v3]))] : St D0) (zq50.K244 N Kn122) = zq50.d1 N v0 v1 v2 v3 ((fun w0 w1 w2 w3 w4 => Kn122 (mkSt [(0, .one (.int .i64 w0)), (3, .one (.ptr 3 0)), (6, .one (.sl true 25 w1)), (7, .one (.int .i64 w2))] [(3, some (25, [.int .i64 w3, .int .i64 w4]))] : St D0))) := by
  exact (zq50.o1.run N Kn122 v0 v1 v2 v3).trans rfl
def zq50.o2 (N : Nat) (v0 : Int) (v1 : List S25) (v2 : Int) (v3 : Int) (v4 : Int) (c2 : Int → (List S25) → Int → Int → Int → Option zq50.R) : Option zq50.R :=
 bif (decide (v2 < v0)) then
  (zq56.g N (w64 (v3 + (w64 (v2 * v4)))) (w64 (v4 * v0))).bind fun r1 =>
  bif (!r1.2.2) then
   some (([] : List S25), false)
  else
  bif (Nat.blt (v1.length + ([(⟨r1.1, r1.2.1⟩ : S25)] : List S25).length) 8796093022208) then
   c2 v0 (v1 ++ ([(⟨r1.1, r1.2.1⟩ : S25)] : List S25)) (w64 (v2 + 1)) v3 v4
  else
  none
 else
 some (v1, true)
theorem zq50.o2.run (N : Nat) (Kn122 : St D0 → Option zq50.R) (v0 : Int) (v1 : List S25) (v2 : Int) (v3 : Int) (v4 : Int) : runC zq50.C (zq50.O N) N zq50.c244 244 (mkSt [(0, .one (.int .i64 v0)), (3, .one (.ptr 3 0)), (6, .one (.sl true 25 v1)), (7, .one (.int .i64 v2))] [(3, some (25, [.int .i64 v3, .int .i64 v4]))] : St D0) ((fun up => (onN (fun s => zq50.C.tidy 122 s ((onN Kn122 up) .normal)) (onN Kn122 up))) (blockK 0 (onN (fun s => zq50.C.tidy 30 s (fun s' => runC zq50.C (zq50.O N) N zq50.c31 31 s' zq50.K0)) zq50.K0))) = zq50.o2 N v0 v1 v2 v3 v4 ((fun w0 w1 w2 w3 w4 => Kn122 (mkSt [(0, .one (.int .i64 w0)), (3, .one (.ptr 3 0)), (6, .one (.sl true 25 w1)), (7, .one (.int .i64 w2))] [(3, some (25, [.int .i64 w3, .int .i64 w4]))] : St D0))) := by kernel_rfl
def zq50.d2 (N : Nat) (v0 : Int) (v1 : List S25) (v2 : Int) (v3 : Int) (v4 : Int) (c2 : Int → (List S25) → Int → Int → Int → Option zq50.R) : Option zq50.R := zq50.o2 N v0 v1 v2 v3 v4 c2
theorem zq50.d2.run (N : Nat) (Kn122 : St D0 → Option zq50.R) (v0 : Int) (v1 : List S25) (v2 : Int) (v3 : Int) (v4 : Int) : runC zq50.C (zq50.O N) N zq50.c244 244 (mkSt [(0, .one (.int .i64 v0)), (3, .one (.ptr 3 0)), (6, .one (.sl true 25 v1)), (7, .one (.int .i64 v2))] [(3, some (25, [.int .i64 v3, .int .i64 v4]))] : St D0) (zq50.K244 N Kn122) = zq50.d2 N v0 v1 v2 v3 v4 ((fun w0 w1 w2 w3 w4 => Kn122 (mkSt [(0, .one (.int .i64 w0)), (3, .one (.ptr 3 0)), (6, .one (.sl true 25 w1)), (7, .one (.int .i64 w2))] [(3, some (25, [.int .i64 w3, .int .i64 w4]))] : St D0))) := by
  exact (zq50.o2.run N Kn122 v0 v1 v2 v3 v4).trans rfl
def zq50.K122 (N : Nat) : Ex → St D0 → Option zq50.R := (blockK 0 (onN (fun s => zq50.C.tidy 30 s (fun s' => runC zq50.C (zq50.O N) N zq50.c31 31 s' zq50.K0)) zq50.K0))
mutual
def zq50.l1 (N : Nat) : Nat → Int → Int → Int → Int → Option zq50.R
  | 0, _, _, _, _ => none
  | n + 1, v0, v1, v2, v3 => zq50.d1 N v0 v1 v2 v3 ((fun w0 w1 w2 w3 w4 => zq50.l2 N n w0 w1 w2 w3 w4))
def zq50.l2 (N : Nat) : Nat → Int → (List S25) → Int → Int → Int → Option zq50.R
  | 0, _, _, _, _, _ => none
  | n + 1, v0, v1, v2, v3, v4 => zq50.d2 N v0 v1 v2 v3 v4 ((fun w0 w1 w2 w3 w4 => zq50.l2 N n w0 w1 w2 w3 w4))
end
theorem zq50.loop122 (N : Nat) : ∀ n, (∀ (v0 : Int) (v1 : Int) (v2 : Int) (v3 : Int), iter (loopF zq50.C (zq50.O N) N zq50.c244 122) n (mkSt [(0, .one (.int .i64 v0)), (3, .one (.ptr 3 0)), (6, .one (.nl)), (7, .one (.int .i64 v1))] [(3, some (25, [.int .i64 v2, .int .i64 v3]))] : St D0) (zq50.K122 N) = zq50.l1 N n v0 v1 v2 v3) ∧ (∀ (v0 : Int) (v1 : List S25) (v2 : Int) (v3 : Int) (v4 : Int), iter (loopF zq50.C (zq50.O N) N zq50.c244 122) n (mkSt [(0, .one (.int .i64 v0)), (3, .one (.ptr 3 0)), (6, .one (.sl true 25 v1)), (7, .one (.int .i64 v2))] [(3, some (25, [.int .i64 v3, .int .i64 v4]))] : St D0) (zq50.K122 N) = zq50.l2 N n v0 v1 v2 v3 v4)
  | 0 => ⟨(fun v0 v1 v2 v3 => rfl), (fun v0 v1 v2 v3 v4 => rfl)⟩
  | n + 1 => ⟨(fun v0 v1 v2 v3 => (zq50.d1.run N (fun s => iter (loopF zq50.C (zq50.O N) N zq50.c244 122) n s (zq50.K122 N)) v0 v1 v2 v3).trans (show _ = zq50.d1 N v0 v1 v2 v3 ((fun w0 w1 w2 w3 w4 => zq50.l2 N n w0 w1 w2 w3 w4)) from (congr rfl (funext fun w0 => funext fun w1 => funext fun w2 => funext fun w3 => funext fun w4 => (zq50.loop122 N n).2 w0 w1 w2 w3 w4)))), (fun v0 v1 v2 v3 v4 => (zq50.d2.run N (fun s => iter (loopF zq50.C (zq50.O N) N zq50.c244 122) n s (zq50.K122 N)) v0 v1 v2 v3 v4).trans (show _ = zq50.d2 N v0 v1 v2 v3 v4 ((fun w0 w1 w2 w3 w4 => zq50.l2 N n w0 w1 w2 w3 w4)) from (congr rfl (funext fun w0 => funext fun w1 => funext fun w2 => funext fun w3 => funext fun w4 => (zq50.loop122 N n).2 w0 w1 w2 w3 w4))))⟩
def zq50.o0 (N : Nat) (a0 : Int) (a1_0 : Int) (a1_1 : Int) (c1 : Int → Int → Int → Int → Option zq50.R) : Option zq50.R :=
 (zq51.g N a0 a1_0 a1_1).bind fun r1 =>
 bif (!r1) then
  some (([] : List S25), false)
 else
 c1 a0 0 a1_0 a1_1
theorem zq50.o0.run (N : Nat) (H244 : Code) (a0 : Int) (a1_0 : Int) (a1_1 : Int) : runC zq50.C (zq50.O N) N (.seq zq50.c2 (.seq zq50.c6 (.seq zq50.c14 (.seq (.seq zq50.c60 (.block 0 (.loop H244))) zq50.c31)))) 1 (st0 [.one (.int .i64 a0), .agg [.int .i64 a1_0, .int .i64 a1_1]] [] : St D0) zq50.K0 = zq50.o0 N a0 a1_0 a1_1 ((fun w0 w1 w2 w3 => iter (loopF zq50.C (zq50.O N) N H244 122) N (mkSt [(0, .one (.int .i64 w0)), (3, .one (.ptr 3 0)), (6, .one (.nl)), (7, .one (.int .i64 w1))] [(3, some (25, [.int .i64 w2, .int .i64 w3]))] : St D0) (blockK 0 (onN (fun s => zq50.C.tidy 30 s (fun s' => runC zq50.C (zq50.O N) N zq50.c31 31 s' zq50.K0)) zq50.K0)))) := by kernel_rfl
def zq50.g (N : Nat) (a0 : Int) (a1_0 : Int) (a1_1 : Int) : Option zq50.R := zq50.o0 N a0 a1_0 a1_1 ((fun w0 w1 w2 w3 => zq50.l1 N N w0 w1 w2 w3))
theorem zq50.c1_0 : zq50.c1 = (.seq zq50.c2 (.seq zq50.c6 (.seq zq50.c14 (.seq (.seq zq50.c60 (.block 0 (.loop zq50.c244))) zq50.c31)))) := by kernel_rfl
theorem zq50.g.run (N : Nat) (a0 : Int) (a1_0 : Int) (a1_1 : Int) : runC zq50.C (zq50.O N) N zq50.c1 1 (st0 [.one (.int .i64 a0), .agg [.int .i64 a1_0, .int .i64 a1_1]] [] : St D0) zq50.K0 = zq50.g N a0 a1_0 a1_1 := by
  rw [zq50.c1_0]; unfold zq50.g; exact (zq50.o0.run N zq50.c244 a0 a1_0 a1_1).trans (congr rfl (funext fun w0 => funext fun w1 => funext fun w2 => funext fun w3 => (zq50.loop122 N N).1 w0 w1 w2 w3))
theorem zq50.good (N : Nat) (a0 : Int) (a1_0 : Int) (a1_1 : Int) (r : zq50.R) (h : zq50.g N a0 a1_0 a1_1 = some r) : Go.PM.Good Tryz.prog T0 20 [.one (.int .i64 a0), .agg [.int .i64 a1_0, .int .i64 a1_1]] [] (zq50.sig.ret r) (zq50.sig.bs r) :=
  good_fn tabOk0 mixed0 zq50.sig (zq50.E N) Tryz.func20 (by kernel_rfl) (by kernel_rfl) 34359813115 0 0 [(122, [0, 3, 6, 7], [3])] 17721115648 false [] [(false, [.own 25]), (false, [.any])] (by kernel_rfl) rfl rfl ((zq50.g.run N a0 a1_0 a1_1).trans h)
def zq50.ent (N : Nat) : Ent Tryz.prog T0 := mkEnt 20 [(false, [.any]), (true, [.any, .any])] zq50.sig (fun t => zq50.g N t.1 t.2.1 t.2.2) (fun t r h => zq50.good N t.1 t.2.1 t.2.2 r h)
/-! ### zq30 -/
abbrev zq30.R : Type := ByteArray
abbrev zq30.sig : Sig := ⟨[(false, 1)], [], [.int .i64], [(false, 1)], [], [.str]⟩
def zq30.C : Cfg D0 := ⟨Tryz.prog, T0, 21, 0, 10, 0, [], 296, false, []⟩
def zq30.E (N : Nat) : List (Ent Tryz.prog T0) := [zq78.ent N]
def zq30.O (N : Nat) : Orc D0 zq30.R := orcOf (zq30.E N)
def zq30.K0 : Ex → St D0 → Option zq30.R := exitK zq30.C Tryz.f70.results.toList [(false, [.any])] (decOut zq30.sig)
def zq30.c1 : Code := codeAt (Tryz.f70.body.getD .skip) []
def zq30.o0 (N : Nat) (a0 : Int) : Option zq30.R :=
 bif (decide (a0 < 10)) then
  (zq78.g N a0).bind fun r1 =>
  bif (Nat.ble ((⟨#[48]⟩ : ByteArray).size + r1.size) 9223372036854775807) then
   some (((⟨#[48]⟩ : ByteArray) ++ r1))
  else
  none
 else
 (zq78.g N a0).bind fun r2 =>
 some (r2)
theorem zq30.o0.run (N : Nat) (a0 : Int) : runC zq30.C (zq30.O N) N zq30.c1 1 (st0 [.one (.int .i64 a0)] [] : St D0) zq30.K0 = zq30.o0 N a0 := by kernel_rfl
def zq30.g (N : Nat) (a0 : Int) : Option zq30.R := zq30.o0 N a0
theorem zq30.g.run (N : Nat) (a0 : Int) : runC zq30.C (zq30.O N) N zq30.c1 1 (st0 [.one (.int .i64 a0)] [] : St D0) zq30.K0 = zq30.g N a0 := by
  exact (zq30.o0.run N a0).trans rfl
theorem zq30.good (N : Nat) (a0 : Int) (r : zq30.R) (h : zq30.g N a0 = some r) : Go.PM.Good Tryz.prog T0 70 [.one (.int .i64 a0)] [] (zq30.sig.ret r) (zq30.sig.bs r) :=
  good_fn tabOk0 mixed0 zq30.sig (zq30.E N) Tryz.func70 (by kernel_rfl) (by kernel_rfl) 21 0 0 [] 296 false [] [(false, [.any])] (by kernel_rfl) rfl rfl ((zq30.g.run N a0).trans h)
def zq30.ent (N : Nat) : Ent Tryz.prog T0 := mkEnt 70 [(false, [.any])] zq30.sig (fun t => zq30.g N t) (fun t r h => zq30.good N t r h)
/-! ### zq12 -/
abbrev zq12.R : Type := ByteArray × Bool
abbrev zq12.sig : Sig := ⟨[(false, 1), (true, 2)], [], [.int .i64, .int .i64, .int .i64], [(false, 1), (false, 1)], [], [.str, .bool]⟩
def zq12.C : Cfg D0 := ⟨Tryz.prog, T0, 35184372125691, 0, 58, 0, [(126, [10], [])], 70927694041088, false, []⟩
def zq12.E (N : Nat) : List (Ent Tryz.prog T0) := [zq25.ent N, zq29.ent N, zq30.ent N, zq26.ent N, zq78.ent N]
def zq12.O (N : Nat) : Orc D0 zq12.R := orcOf (zq12.E N)
def zq12.K0 : Ex → St D0 → Option zq12.R := exitK zq12.C Tryz.f21.results.toList [(false, [.any]), (false, [.any])] (decOut zq12.sig)
def zq12.c1 : Code := codeAt (Tryz.f21.body.getD .skip) []
def zq12.c2 : Code := codeAt (Tryz.f21.body.getD .skip) [false]
def zq12.c6 : Code := codeAt (Tryz.f21.body.getD .skip) [true, false]
def zq12.c14 : Code := codeAt (Tryz.f21.body.getD .skip) [true, true, false]
def zq12.c30 : Code := codeAt (Tryz.f21.body.getD .skip) [true, true, true, false]
def zq12.c62 : Code := codeAt (Tryz.f21.body.getD .skip) [true, true, true, true, false]
def zq12.c126 : Code := codeAt (Tryz.f21.body.getD .skip) [true, true, true, true, true, false]
def zq12.c127 : Code := codeAt (Tryz.f21.body.getD .skip) [true, true, true, true, true, true]
def zq12.K127 (N : Nat) : Ex → St D0 → Option zq12.R := zq12.K0
def zq12.o1 (N : Nat) (v0 : ByteArray) : Option zq12.R :=
 some (v0, true)
theorem zq12.o1.run (N : Nat) (v0 : ByteArray) : runC zq12.C (zq12.O N) N zq12.c127 127 (mkSt [(10, .one (.str v0))] [] : St D0) zq12.K0 = zq12.o1 N v0 := by kernel_rfl
def zq12.d1 (N : Nat) (v0 : ByteArray) : Option zq12.R := zq12.o1 N v0
theorem zq12.d1.run (N : Nat) (v0 : ByteArray) : runC zq12.C (zq12.O N) N zq12.c127 127 (mkSt [(10, .one (.str v0))] [] : St D0) (zq12.K127 N) = zq12.d1 N v0 := by
  exact (zq12.o1.run N v0).trans rfl
def zq12.o0 (N : Nat) (a0 : Int) (a1_0 : Int) (a1_1 : Int) (c1 : ByteArray → Option zq12.R) : Option zq12.R :=
 (zq25.g N a0 a1_0 a1_1).bind fun r1 =>
 bif (!r1) then
  some ((⟨#[]⟩ : ByteArray), false)
 else
 (zq29.g N a0 a1_0 a1_1).bind fun r2 =>
 (zq30.g N r2.1).bind fun r3 =>
 bif (Nat.ble (r3.size + (⟨#[58]⟩ : ByteArray).size) 9223372036854775807) then
  (zq30.g N r2.2.1).bind fun r4 =>
  bif (Nat.ble ((r3 ++ (⟨#[58]⟩ : ByteArray)).size + r4.size) 9223372036854775807) then
   bif (Nat.ble (((r3 ++ (⟨#[58]⟩ : ByteArray)) ++ r4).size + (⟨#[58]⟩ : ByteArray).size) 9223372036854775807) then
    bif (r2.2.2.2 == 0) then
     none
    else
    (zq30.g N (w64 (Int.tdiv (w64 (r2.2.2.1 * 60)) r2.2.2.2))).bind fun r5 =>
    bif (Nat.ble ((((r3 ++ (⟨#[58]⟩ : ByteArray)) ++ r4) ++ (⟨#[58]⟩ : ByteArray)).size + r5.size) 9223372036854775807) then
     (zq26.g N (w64 (r2.2.2.1 * 60)) r2.2.2.2).bind fun r6 =>
     bif (decide (r6.1 > 0)) then
      (zq78.g N r6.1).bind fun r7 =>
      bif (Nat.ble ((⟨#[43]⟩ : ByteArray).size + r7.size) 9223372036854775807) then
       bif (Nat.ble (((⟨#[43]⟩ : ByteArray) ++ r7).size + (⟨#[47]⟩ : ByteArray).size) 9223372036854775807) then
        (zq78.g N r6.2).bind fun r8 =>
        bif (Nat.ble ((((⟨#[43]⟩ : ByteArray) ++ r7) ++ (⟨#[47]⟩ : ByteArray)).size + r8.size) 9223372036854775807) then
         bif (Nat.ble (((((r3 ++ (⟨#[58]⟩ : ByteArray)) ++ r4) ++ (⟨#[58]⟩ : ByteArray)) ++ r5).size + ((((⟨#[43]⟩ : ByteArray) ++ r7) ++ (⟨#[47]⟩ : ByteArray)) ++ r8).size) 9223372036854775807) then
          c1 (((((r3 ++ (⟨#[58]⟩ : ByteArray)) ++ r4) ++ (⟨#[58]⟩ : ByteArray)) ++ r5) ++ ((((⟨#[43]⟩ : ByteArray) ++ r7) ++ (⟨#[47]⟩ : ByteArray)) ++ r8))
         else
         none
        else
        none
       else
       none
      else
      none
     else
     c1 ((((r3 ++ (⟨#[58]⟩ : ByteArray)) ++ r4) ++ (⟨#[58]⟩ : ByteArray)) ++ r5)
    else
    none
   else
   none
  else
  none
 else
 none
theorem zq12.o0.run (N : Nat) (H127 : Code) (a0 : Int) (a1_0 : Int) (a1_1 : Int) : runC zq12.C (zq12.O N) N (.seq zq12.c2 (.seq zq12.c6 (.seq zq12.c14 (.seq zq12.c30 (.seq zq12.c62 (.seq zq12.c126 H127)))))) 1 (st0 [.one (.int .i64 a0), .agg [.int .i64 a1_0, .int .i64 a1_1]] [] : St D0) zq12.K0 = zq12.o0 N a0 a1_0 a1_1 ((fun w0 => runC zq12.C (zq12.O N) N H127 127 (mkSt [(10, .one (.str w0))] [] : St D0) zq12.K0)) := by kernel_rfl
def zq12.g (N : Nat) (a0 : Int) (a1_0 : Int) (a1_1 : Int) : Option zq12.R := zq12.o0 N a0 a1_0 a1_1 ((fun w0 => zq12.d1 N w0))
theorem zq12.c1_0 : zq12.c1 = (.seq zq12.c2 (.seq zq12.c6 (.seq zq12.c14 (.seq zq12.c30 (.seq zq12.c62 (.seq zq12.c126 zq12.c127)))))) := by kernel_rfl
theorem zq12.g.run (N : Nat) (a0 : Int) (a1_0 : Int) (a1_1 : Int) : runC zq12.C (zq12.O N) N zq12.c1 1 (st0 [.one (.int .i64 a0), .agg [.int .i64 a1_0, .int .i64 a1_1]] [] : St D0) zq12.K0 = zq12.g N a0 a1_0 a1_1 := by
  rw [zq12.c1_0]; unfold zq12.g; exact (zq12.o0.run N zq12.c127 a0 a1_0 a1_1).trans (congr rfl (funext fun w0 => zq12.d1.run N w0))
theorem zq12.good (N : Nat) (a0 : Int) (a1_0 : Int) (a1_1 : Int) (r : zq12.R) (h : zq12.g N a0 a1_0 a1_1 = some r) : Go.PM.Good Tryz.prog T0 21 [.one (.int .i64 a0), .agg [.int .i64 a1_0, .int .i64 a1_1]] [] (zq12.sig.ret r) (zq12.sig.bs r) :=
  good_fn tabOk0 mixed0 zq12.sig (zq12.E N) Tryz.func21 (by kernel_rfl) (by kernel_rfl) 35184372125691 0 0 [(126, [10], [])] 70927694041088 false [] [(false, [.any]), (false, [.any])] (by kernel_rfl) rfl rfl ((zq12.g.run N a0 a1_0 a1_1).trans h)
def zq12.ent (N : Nat) : Ent Tryz.prog T0 := mkEnt 21 [(false, [.any]), (true, [.any, .any])] zq12.sig (fun t => zq12.g N t.1 t.2.1 t.2.2) (fun t r h => zq12.good N t.1 t.2.1 t.2.2 r h)
/-! ### zq62 -/
abbrev zq62.R : Type := ByteArray
abbrev zq62.sig : Sig := ⟨[(false, 1)], [], [.int .i64], [(false, 1)], [], [.str]⟩
def zq62.C : Cfg D0 := ⟨Tryz.prog, T0, 21, 0, 10, 0, [], 296, false, []⟩
def zq62.E (N : Nat) : List (Ent Tryz.prog T0) := [zq73.ent N]
def zq62.O (N : Nat) : Orc D0 zq62.R := orcOf (zq62.E N)
def zq62.K0 : Ex → St D0 → Option zq62.R := exitK zq62.C Tryz.f111.results.toList [(false, [.any])] (decOut zq62.sig)
def zq62.c1 : Code := codeAt (Tryz.f111.body.getD .skip) []
def zq62.o0 (N : Nat) (a0 : Int) : Option zq62.R :=
 bif (decide (a0 < 10)) then
  (zq73.g N a0).bind fun r1 =>
  bif (Nat.ble ((⟨#[48]⟩ : ByteArray).size + r1.size) 9223372036854775807) then
   some (((⟨#[48]⟩ : ByteArray) ++ r1))
  else
  none
 else
 (zq73.g N a0).bind fun r2 =>
 some (r2)
theorem zq62.o0.run (N : Nat) (a0 : Int) : runC zq62.C (zq62.O N) N zq62.c1 1 (st0 [.one (.int .i64 a0)] [] : St D0) zq62.K0 = zq62.o0 N a0 := by kernel_rfl
def zq62.g (N : Nat) (a0 : Int) : Option zq62.R := zq62.o0 N a0
theorem zq62.g.run (N : Nat) (a0 : Int) : runC zq62.C (zq62.O N) N zq62.c1 1 (st0 [.one (.int .i64 a0)] [] : St D0) zq62.K0 = zq62.g N a0 := by
  exact (zq62.o0.run N a0).trans rfl
theorem zq62.good (N : Nat) (a0 : Int) (r : zq62.R) (h : zq62.g N a0 = some r) : Go.PM.Good Tryz.prog T0 111 [.one (.int .i64 a0)] [] (zq62.sig.ret r) (zq62.sig.bs r) :=
  good_fn tabOk0 mixed0 zq62.sig (zq62.E N) Tryz.func111 (by kernel_rfl) (by kernel_rfl) 21 0 0 [] 296 false [] [(false, [.any])] (by kernel_rfl) rfl rfl ((zq62.g.run N a0).trans h)
def zq62.ent (N : Nat) : Ent Tryz.prog T0 := mkEnt 111 [(false, [.any])] zq62.sig (fun t => zq62.g N t) (fun t r h => zq62.good N t r h)
/-! ### zq59 -/
abbrev zq59.R : Type := ByteArray
abbrev zq59.sig : Sig := ⟨[(false, 1), (true, 2)], [], [.int .i64, .int .i64, .int .i64], [(false, 1)], [], [.str]⟩
def zq59.C : Cfg D0 := ⟨Tryz.prog, T0, 68719476987, 0, 49, 0, [(30, [6], [])], 139654661120, false, []⟩
def zq59.E (N : Nat) : List (Ent Tryz.prog T0) := [zq62.ent N, zq61.ent N, zq73.ent N]
def zq59.O (N : Nat) : Orc D0 zq59.R := orcOf (zq59.E N)
def zq59.K0 : Ex → St D0 → Option zq59.R := exitK zq59.C Tryz.f73.results.toList [(false, [.any])] (decOut zq59.sig)
def zq59.c1 : Code := codeAt (Tryz.f73.body.getD .skip) []
def zq59.c2 : Code := codeAt (Tryz.f73.body.getD .skip) [false]
def zq59.c6 : Code := codeAt (Tryz.f73.body.getD .skip) [true, false]
def zq59.c14 : Code := codeAt (Tryz.f73.body.getD .skip) [true, true, false]
def zq59.c30 : Code := codeAt (Tryz.f73.body.getD .skip) [true, true, true, false]
def zq59.c31 : Code := codeAt (Tryz.f73.body.getD .skip) [true, true, true, true]
def zq59.K31 (N : Nat) : Ex → St D0 → Option zq59.R := zq59.K0
def zq59.o1 (N : Nat) (v0 : ByteArray) : Option zq59.R :=
 some (v0)
theorem zq59.o1.run (N : Nat) (v0 : ByteArray) : runC zq59.C (zq59.O N) N zq59.c31 31 (mkSt [(6, .one (.str v0))] [] : St D0) zq59.K0 = zq59.o1 N v0 := by kernel_rfl
def zq59.d1 (N : Nat) (v0 : ByteArray) : Option zq59.R := zq59.o1 N v0
theorem zq59.d1.run (N : Nat) (v0 : ByteArray) : runC zq59.C (zq59.O N) N zq59.c31 31 (mkSt [(6, .one (.str v0))] [] : St D0) (zq59.K31 N) = zq59.d1 N v0 := by
  exact (zq59.o1.run N v0).trans rfl
def zq59.o0 (N : Nat) (a0 : Int) (a1_0 : Int) (a1_1 : Int) (c1 : ByteArray → Option zq59.R) : Option zq59.R :=
 bif (a1_1 == 0) then
  none
 else
 (zq62.g N (w64 (Int.tdiv (w64 (Int.tdiv (w64 ((w64 (a1_0 * a0)) * 3600)) a1_1)) 3600))).bind fun r1 =>
 bif (Nat.ble (r1.size + (⟨#[58]⟩ : ByteArray).size) 9223372036854775807) then
  (zq62.g N (Int.tmod (w64 (Int.tdiv (w64 (Int.tdiv (w64 ((w64 (a1_0 * a0)) * 3600)) a1_1)) 60)) 60)).bind fun r2 =>
  bif (Nat.ble ((r1 ++ (⟨#[58]⟩ : ByteArray)).size + r2.size) 9223372036854775807) then
   bif (Nat.ble (((r1 ++ (⟨#[58]⟩ : ByteArray)) ++ r2).size + (⟨#[58]⟩ : ByteArray).size) 9223372036854775807) then
    (zq62.g N (Int.tmod (w64 (Int.tdiv (w64 ((w64 (a1_0 * a0)) * 3600)) a1_1)) 60)).bind fun r3 =>
    bif (Nat.ble ((((r1 ++ (⟨#[58]⟩ : ByteArray)) ++ r2) ++ (⟨#[58]⟩ : ByteArray)).size + r3.size) 9223372036854775807) then
     (zq61.g N a1_0 a1_1 (w64 (a0 * 3600))).bind fun r4 =>
     bif (decide (r4.1 > 0)) then
      (zq73.g N r4.1).bind fun r5 =>
      bif (Nat.ble ((⟨#[43]⟩ : ByteArray).size + r5.size) 9223372036854775807) then
       bif (Nat.ble (((⟨#[43]⟩ : ByteArray) ++ r5).size + (⟨#[47]⟩ : ByteArray).size) 9223372036854775807) then
        (zq73.g N r4.2).bind fun r6 =>
        bif (Nat.ble ((((⟨#[43]⟩ : ByteArray) ++ r5) ++ (⟨#[47]⟩ : ByteArray)).size + r6.size) 9223372036854775807) then
         bif (Nat.ble (((((r1 ++ (⟨#[58]⟩ : ByteArray)) ++ r2) ++ (⟨#[58]⟩ : ByteArray)) ++ r3).size + ((((⟨#[43]⟩ : ByteArray) ++ r5) ++ (⟨#[47]⟩ : ByteArray)) ++ r6).size) 9223372036854775807) then
          c1 (((((r1 ++ (⟨#[58]⟩ : ByteArray)) ++ r2) ++ (⟨#[58]⟩ : ByteArray)) ++ r3) ++ ((((⟨#[43]⟩ : ByteArray) ++ r5) ++ (⟨#[47]⟩ : ByteArray)) ++ r6))
         else
         none
        else
        none
       else
       none
      else
      none
     else
     c1 ((((r1 ++ (⟨#[58]⟩ : ByteArray)) ++ r2) ++ (⟨#[58]⟩ : ByteArray)) ++ r3)
    else
    none
   else
   none
  else
  none
 else
 none
theorem zq59.o0.run (N : Nat) (H31 : Code) (a0 : Int) (a1_0 : Int) (a1_1 : Int) : runC zq59.C (zq59.O N) N (.seq zq59.c2 (.seq zq59.c6 (.seq zq59.c14 (.seq zq59.c30 H31)))) 1 (st0 [.one (.int .i64 a0), .agg [.int .i64 a1_0, .int .i64 a1_1]] [] : St D0) zq59.K0 = zq59.o0 N a0 a1_0 a1_1 ((fun w0 => runC zq59.C (zq59.O N) N H31 31 (mkSt [(6, .one (.str w0))] [] : St D0) zq59.K0)) := by kernel_rfl
def zq59.B15 (N : Nat) : St D0 → Option zq59.R := fun s' => runC zq59.C (zq59.O N) N zq59.c31 31 s' (zq59.K31 N)
def zq59.g (N : Nat) (a0 : Int) (a1_0 : Int) (a1_1 : Int) : Option zq59.R := zq59.o0 N a0 a1_0 a1_1 ((fun w0 => zq59.d1 N w0))
theorem zq59.c1_0 : zq59.c1 = (.seq zq59.c2 (.seq zq59.c6 (.seq zq59.c14 (.seq zq59.c30 zq59.c31)))) := by kernel_rfl
theorem zq59.g.run (N : Nat) (a0 : Int) (a1_0 : Int) (a1_1 : Int) : runC zq59.C (zq59.O N) N zq59.c1 1 (st0 [.one (.int .i64 a0), .agg [.int .i64 a1_0, .int .i64 a1_1]] [] : St D0) zq59.K0 = zq59.g N a0 a1_0 a1_1 := by
  rw [zq59.c1_0]; unfold zq59.g; exact (zq59.o0.run N zq59.c31 a0 a1_0 a1_1).trans (congr rfl (funext fun w0 => zq59.d1.run N w0))
theorem zq59.good (N : Nat) (a0 : Int) (a1_0 : Int) (a1_1 : Int) (r : zq59.R) (h : zq59.g N a0 a1_0 a1_1 = some r) : Go.PM.Good Tryz.prog T0 73 [.one (.int .i64 a0), .agg [.int .i64 a1_0, .int .i64 a1_1]] [] (zq59.sig.ret r) (zq59.sig.bs r) :=
  good_fn tabOk0 mixed0 zq59.sig (zq59.E N) Tryz.func73 (by kernel_rfl) (by kernel_rfl) 68719476987 0 0 [(30, [6], [])] 139654661120 false [] [(false, [.any])] (by kernel_rfl) rfl rfl ((zq59.g.run N a0 a1_0 a1_1).trans h)
def zq59.ent (N : Nat) : Ent Tryz.prog T0 := mkEnt 73 [(false, [.any]), (true, [.any, .any])] zq59.sig (fun t => zq59.g N t.1 t.2.1 t.2.2) (fun t r h => zq59.good N t.1 t.2.1 t.2.2 r h)
/-! ### zq49 -/
abbrev zq49.R : Type := ByteArray × Bool
abbrev zq49.sig : Sig := ⟨[(false, 1), (true, 2)], [], [.int .i64, .int .i64, .int .i64], [(false, 1), (false, 1)], [], [.str, .bool]⟩
def zq49.C : Cfg D0 := ⟨Tryz.prog, T0, 571, 0, 13, 0, [], 1088, false, []⟩
def zq49.E (N : Nat) : List (Ent Tryz.prog T0) := [zq51.ent N, zq59.ent N]
def zq49.O (N : Nat) : Orc D0 zq49.R := orcOf (zq49.E N)
def zq49.K0 : Ex → St D0 → Option zq49.R := exitK zq49.C Tryz.f22.results.toList [(false, [.any]), (false, [.any])] (decOut zq49.sig)
def zq49.c1 : Code := codeAt (Tryz.f22.body.getD .skip) []
def zq49.o0 (N : Nat) (a0 : Int) (a1_0 : Int) (a1_1 : Int) : Option zq49.R :=
 (zq51.g N a0 a1_0 a1_1).bind fun r1 =>
 bif (!r1) then
  some ((⟨#[]⟩ : ByteArray), false)
 else
 (zq59.g N a0 a1_0 a1_1).bind fun r2 =>
 some (r2, true)
theorem zq49.o0.run (N : Nat) (a0 : Int) (a1_0 : Int) (a1_1 : Int) : runC zq49.C (zq49.O N) N zq49.c1 1 (st0 [.one (.int .i64 a0), .agg [.int .i64 a1_0, .int .i64 a1_1]] [] : St D0) zq49.K0 = zq49.o0 N a0 a1_0 a1_1 := by kernel_rfl
def zq49.g (N : Nat) (a0 : Int) (a1_0 : Int) (a1_1 : Int) : Option zq49.R := zq49.o0 N a0 a1_0 a1_1
theorem zq49.g.run (N : Nat) (a0 : Int) (a1_0 : Int) (a1_1 : Int) : runC zq49.C (zq49.O N) N zq49.c1 1 (st0 [.one (.int .i64 a0), .agg [.int .i64 a1_0, .int .i64 a1_1]] [] : St D0) zq49.K0 = zq49.g N a0 a1_0 a1_1 := by
  exact (zq49.o0.run N a0 a1_0 a1_1).trans rfl
theorem zq49.good (N : Nat) (a0 : Int) (a1_0 : Int) (a1_1 : Int) (r : zq49.R) (h : zq49.g N a0 a1_0 a1_1 = some r) : Go.PM.Good Tryz.prog T0 22 [.one (.int .i64 a0), .agg [.int .i64 a1_0, .int .i64 a1_1]] [] (zq49.sig.ret r) (zq49.sig.bs r) :=
  good_fn tabOk0 mixed0 zq49.sig (zq49.E N) Tryz.func22 (by kernel_rfl) (by kernel_rfl) 571 0 0 [] 1088 false [] [(false, [.any]), (false, [.any])] (by kernel_rfl) rfl rfl ((zq49.g.run N a0 a1_0 a1_1).trans h)
def zq49.ent (N : Nat) : Ent Tryz.prog T0 := mkEnt 22 [(false, [.any]), (true, [.any, .any])] zq49.sig (fun t => zq49.g N t.1 t.2.1 t.2.2) (fun t r h => zq49.good N t.1 t.2.1 t.2.2 r h)
end Go.Proofs.YtccjoegnkiaibaaGreatDoor.M
end
