/- What the program's functions compute, walked by the machine (part 1). No conditions but those stated. -/
import Derived.Test.YtccjoegnkiaibaaGreatDoorPm3
import Derived.Test.YtccjoegnkiaibaaGreatDoorProg
import Derived.Lib.ItoaNum
import Derived.Lib.LaidTab
import Derived.Test.YtccjoegnkiaibaaGreatDoorShelf
import Derived.Shelf.SlSorted.Search
import Derived.Shelf.Strconv.AtoiAll
noncomputable section
namespace Go.Proofs.YtccjoegnkiaibaaGreatDoor.M
open Go Go.PM
set_option linter.unusedVariables false
set_option maxRecDepth 100000
end Go.Proofs.YtccjoegnkiaibaaGreatDoor.M
namespace Go.Proofs.YtccjoegnkiaibaaGreatDoor.P
structure S25 where
  f0 : Int
  f1 : Int
structure S47 where
  f0 : Int
  f1 : Int
  f2 : Int
end Go.Proofs.YtccjoegnkiaibaaGreatDoor.P
namespace Go.Proofs.YtccjoegnkiaibaaGreatDoor.M
open Go Go.PM Go.Proofs.YtccjoegnkiaibaaGreatDoor.P
abbrev D0 : TypeId → Type
  | 3 => Int
  | 4 => Bool
  | 5 => Int
  | 9 => ByteArray
  | 25 => S25
  | 47 => S47
  | 59 => (List Int)
  | _ => Unit
def glE : Obj → Prop := fun o => ∃ tp p t fr, o = .cells #[.iface tp p] t fr
def glT : Obj → Prop := fun o => ∃ t fr, o = .cells ((Lib.pow10Tab.map fun z => Value.int .u64 z).toArray) t fr
def T0 : Tab D0 where
  size := fun e => match e with
    | 3 => 1
    | 4 => 1
    | 5 => 1
    | 9 => 1
    | 25 => 2
    | 47 => 3
    | 59 => 1
    | _ => 0
  out := fun e x => match e, x with
    | 3, x => [.int .i64 x]
    | 4, x => [.bool x]
    | 5, x => [.int .u8 x]
    | 9, x => [.str x]
    | 25, x => [.int .i64 x.f0, .int .i64 x.f1]
    | 47, x => [.int .i64 x.f0, .int .i64 x.f1, .int .i64 x.f2]
    | 59, x => [.sl false 3 x]
    | _, _ => []
  inn := fun e ls => match e, ls with
    | 3, [.int .i64 x0] => some x0
    | 4, [.bool x0] => some x0
    | 5, [.int .u8 x0] => some x0
    | 9, [.str x0] => some x0
    | 25, [.int .i64 x0, .int .i64 x1] => some ⟨x0, x1⟩
    | 47, [.int .i64 x0, .int .i64 x1, .int .i64 x2] => some ⟨x0, x1, x2⟩
    | 59, [.sl _ e' x0] => if h : e' = 3 then some (cast (congrArg (fun t => List (D0 t)) h) x0) else none
    | _, _ => none
  kd := fun e => match e with
    | 3 => [13]
    | 4 => [1]
    | 5 => [14]
    | 9 => [2]
    | 25 => [13, 13]
    | 47 => [13, 13, 13]
    | 59 => [3]
    | _ => []
  gl := [(1, glE), (2, glE), (3, glT)]
theorem tabOk0 : TabOk T0 where
  out_len := by
    intro e x
    simp only [T0]
    split <;> first | rfl | (split <;> first | rfl | (rename_i h _ _ _ _; exact absurd HEq.rfl (fun h' => h _ rfl h')) | simp_all)
  kd_ok := by
    intro e x
    simp only [T0]
    split <;> first | rfl | (split <;> first | rfl | (rename_i h _ _ _ _; exact absurd HEq.rfl (fun h' => h _ rfl h')) | simp_all)
  inn_ok := by
    intro e ls x h C blk vs hF
    simp only [T0] at h
    split at h <;> first | (cases h; done) | (simp only [Option.some.injEq] at h; subst h; exact tab_inn hF rfl) | (split at h <;> first | (cases h; done) | (rename_i he; simp only [Option.some.injEq] at h; subst h; subst he; exact tab_inn_sl rfl hF))
theorem mixed0 : Tryz.prog.follows .mixedOrders = true := by kernel_rfl
/-! ### variables that never change -/
def GlW (w : World) : Prop := ∀ x ∈ T0.gl, ∃ o, w.heap[x.1]? = some o ∧ x.2 o
theorem GlW.below {w W : World} (h : GlW w) (hb : Go.RowKit.Below w.heap.size w W) : GlW W := fun x hx => by
  obtain ⟨o, h1, h2⟩ := h x hx
  exact ⟨o, (hb.block _ (Array.getElem?_eq_some_iff.1 h1).1).trans h1, h2⟩
theorem GlW.errS {w : World} (h : GlW w) : ∃ tp p, w.cell? ⟨1, 0, none⟩ = some (.iface tp p) := by
  obtain ⟨o, h1, tp, p, t, fr, rfl⟩ := h (1, glE) (List.mem_cons_self ..)
  exact ⟨tp, p, by simpa using World.var?_cell (show Tryz.prog.globalNamed "strconv.ErrSyntax" = some 1 by kernel_rfl) (var_blk (by kernel_rfl) h1) 0⟩
theorem GlW.errR {w : World} (h : GlW w) : ∃ tp p, w.cell? ⟨2, 0, none⟩ = some (.iface tp p) := by
  obtain ⟨o, h1, tp, p, t, fr, rfl⟩ := h (2, glE) (List.mem_cons_of_mem _ (List.mem_cons_self ..))
  exact ⟨tp, p, by simpa using World.var?_cell (show Tryz.prog.globalNamed "strconv.ErrRange" = some 2 by kernel_rfl) (var_blk (by kernel_rfl) h1) 0⟩
theorem GlW.tab {w : World} (h : GlW w) : Lib.TabIs Tryz.prog w "internal/strconv.uint64pow10" .u64 Lib.pow10Tab := by
  obtain ⟨o, h1, t, fr, rfl⟩ := h (3, glT) (List.mem_cons_of_mem _ (List.mem_cons_of_mem _ (List.mem_cons_self ..)))
  exact var_blk (by kernel_rfl) h1
theorem GlW.of {w : World} {tp p tp' p'} (h1 : w.var? Tryz.prog "strconv.ErrSyntax" = some #[.iface tp p]) (h2 : w.var? Tryz.prog "strconv.ErrRange" = some #[.iface tp' p'])
    (h3 : Lib.TabIs Tryz.prog w "internal/strconv.uint64pow10" .u64 Lib.pow10Tab) : GlW w := by
  intro x hx
  obtain ⟨t1, f1, e1⟩ := blk_var (g := 1) (by kernel_rfl) h1
  obtain ⟨t2, f2, e2⟩ := blk_var (g := 2) (by kernel_rfl) h2
  obtain ⟨t3, f3, e3⟩ := blk_var (g := 3) (by kernel_rfl) h3
  have hx : x ∈ [(1, glE), (2, glE), (3, glT)] := hx
  simp only [List.mem_cons, List.not_mem_nil, or_false] at hx
  rcases hx with rfl | rfl | rfl
  · exact ⟨_, e1, tp, p, t1, f1, rfl⟩
  · exact ⟨_, e2, tp', p', t2, f2, rfl⟩
  · exact ⟨_, e3, t3, f3, rfl⟩

end Go.Proofs.YtccjoegnkiaibaaGreatDoor.M
namespace Go.Proofs.YtccjoegnkiaibaaGreatDoor.M
open Go Go.PM Go.Proofs.YtccjoegnkiaibaaGreatDoor.P
set_option linter.unusedVariables false
set_option maxRecDepth 100000
/-! ### zq46 -/
abbrev zq46.R : Type := Bool
abbrev zq46.sig : Sig := ⟨[(false, 1), (false, 1), (false, 1)], [], [.int .i64, .int .i64, .int .i64], [(false, 1)], [], [.bool]⟩
def zq46.C : Cfg D0 := ⟨Tryz.prog, T0, 71, 0, 15, 0, [], 6528, false, []⟩
def zq46.E (N : Nat) : List (Ent Tryz.prog T0) := []
def zq46.O (N : Nat) : Orc D0 zq46.R := orcOf (zq46.E N)
def zq46.K0 : Ex → St D0 → Option zq46.R := exitK zq46.C Tryz.f81.results.toList [(false, [.any])] (decOut zq46.sig)
def zq46.c1 : Code := codeAt (Tryz.f81.body.getD .skip) []
def zq46.o0 (N : Nat) (a0 : Int) (a1 : Int) (a2 : Int) : Option zq46.R :=
 bif (decide (a0 ≥ a1)) then
  some ((decide (a0 ≤ a2)))
 else
 some (false)
theorem zq46.o0.run (N : Nat) (a0 : Int) (a1 : Int) (a2 : Int) : runC zq46.C (zq46.O N) N zq46.c1 1 (st0 [.one (.int .i64 a0), .one (.int .i64 a1), .one (.int .i64 a2)] [] : St D0) zq46.K0 = zq46.o0 N a0 a1 a2 := by kernel_rfl
def zq46.g (N : Nat) (a0 : Int) (a1 : Int) (a2 : Int) : Option zq46.R := zq46.o0 N a0 a1 a2
theorem zq46.g.run (N : Nat) (a0 : Int) (a1 : Int) (a2 : Int) : runC zq46.C (zq46.O N) N zq46.c1 1 (st0 [.one (.int .i64 a0), .one (.int .i64 a1), .one (.int .i64 a2)] [] : St D0) zq46.K0 = zq46.g N a0 a1 a2 := by
  exact (zq46.o0.run N a0 a1 a2).trans rfl
theorem zq46.good (N : Nat) (a0 : Int) (a1 : Int) (a2 : Int) (r : zq46.R) (h : zq46.g N a0 a1 a2 = some r) : Go.PM.Good Tryz.prog T0 81 [.one (.int .i64 a0), .one (.int .i64 a1), .one (.int .i64 a2)] [] (zq46.sig.ret r) (zq46.sig.bs r) :=
  good_fn tabOk0 mixed0 zq46.sig (zq46.E N) Tryz.func81 (by kernel_rfl) (by kernel_rfl) 71 0 0 [] 6528 false [] [(false, [.any])] (by kernel_rfl) rfl rfl ((zq46.g.run N a0 a1 a2).trans h)
def zq46.ent (N : Nat) : Ent Tryz.prog T0 := mkEnt 81 [(false, [.any]), (false, [.any]), (false, [.any])] zq46.sig (fun t => zq46.g N t.1 t.2.1 t.2.2) (fun t r h => zq46.good N t.1 t.2.1 t.2.2 r h)
/-! ### zq36 -/
abbrev zq36.R : Type := Bool
abbrev zq36.sig : Sig := ⟨[(false, 1)], [], [.int .i64], [(false, 1)], [], [.bool]⟩
def zq36.C : Cfg D0 := ⟨Tryz.prog, T0, 5, 0, 5, 0, [], 8, false, []⟩
def zq36.E (N : Nat) : List (Ent Tryz.prog T0) := [zq46.ent N]
def zq36.O (N : Nat) : Orc D0 zq36.R := orcOf (zq36.E N)
def zq36.K0 : Ex → St D0 → Option zq36.R := exitK zq36.C Tryz.f77.results.toList [(false, [.any])] (decOut zq36.sig)
def zq36.c1 : Code := codeAt (Tryz.f77.body.getD .skip) []
def zq36.o0 (N : Nat) (a0 : Int) : Option zq36.R :=
 (zq46.g N a0 2 24).bind fun r1 =>
 some (r1)
theorem zq36.o0.run (N : Nat) (a0 : Int) : runC zq36.C (zq36.O N) N zq36.c1 1 (st0 [.one (.int .i64 a0)] [] : St D0) zq36.K0 = zq36.o0 N a0 := by kernel_rfl
def zq36.g (N : Nat) (a0 : Int) : Option zq36.R := zq36.o0 N a0
theorem zq36.g.run (N : Nat) (a0 : Int) : runC zq36.C (zq36.O N) N zq36.c1 1 (st0 [.one (.int .i64 a0)] [] : St D0) zq36.K0 = zq36.g N a0 := by
  exact (zq36.o0.run N a0).trans rfl
theorem zq36.good (N : Nat) (a0 : Int) (r : zq36.R) (h : zq36.g N a0 = some r) : Go.PM.Good Tryz.prog T0 77 [.one (.int .i64 a0)] [] (zq36.sig.ret r) (zq36.sig.bs r) :=
  good_fn tabOk0 mixed0 zq36.sig (zq36.E N) Tryz.func77 (by kernel_rfl) (by kernel_rfl) 5 0 0 [] 8 false [] [(false, [.any])] (by kernel_rfl) rfl rfl ((zq36.g.run N a0).trans h)
def zq36.ent (N : Nat) : Ent Tryz.prog T0 := mkEnt 77 [(false, [.any])] zq36.sig (fun t => zq36.g N t) (fun t r h => zq36.good N t r h)
/-! ### zq110 -/
abbrev zq110.R : Type := Bool
abbrev zq110.sig : Sig := ⟨[(false, 1), (false, 1), (false, 1)], [], [.int .i64, .int .i64, .int .i64], [(false, 1)], [], [.bool]⟩
def zq110.C : Cfg D0 := ⟨Tryz.prog, T0, 71, 0, 15, 0, [], 6528, false, []⟩
def zq110.E (N : Nat) : List (Ent Tryz.prog T0) := []
def zq110.O (N : Nat) : Orc D0 zq110.R := orcOf (zq110.E N)
def zq110.K0 : Ex → St D0 → Option zq110.R := exitK zq110.C Tryz.f84.results.toList [(false, [.any])] (decOut zq110.sig)
def zq110.c1 : Code := codeAt (Tryz.f84.body.getD .skip) []
def zq110.o0 (N : Nat) (a0 : Int) (a1 : Int) (a2 : Int) : Option zq110.R :=
 bif (decide (a0 ≥ a1)) then
  some ((decide (a0 ≤ a2)))
 else
 some (false)
theorem zq110.o0.run (N : Nat) (a0 : Int) (a1 : Int) (a2 : Int) : runC zq110.C (zq110.O N) N zq110.c1 1 (st0 [.one (.int .i64 a0), .one (.int .i64 a1), .one (.int .i64 a2)] [] : St D0) zq110.K0 = zq110.o0 N a0 a1 a2 := by kernel_rfl
def zq110.g (N : Nat) (a0 : Int) (a1 : Int) (a2 : Int) : Option zq110.R := zq110.o0 N a0 a1 a2
theorem zq110.g.run (N : Nat) (a0 : Int) (a1 : Int) (a2 : Int) : runC zq110.C (zq110.O N) N zq110.c1 1 (st0 [.one (.int .i64 a0), .one (.int .i64 a1), .one (.int .i64 a2)] [] : St D0) zq110.K0 = zq110.g N a0 a1 a2 := by
  exact (zq110.o0.run N a0 a1 a2).trans rfl
theorem zq110.good (N : Nat) (a0 : Int) (a1 : Int) (a2 : Int) (r : zq110.R) (h : zq110.g N a0 a1 a2 = some r) : Go.PM.Good Tryz.prog T0 84 [.one (.int .i64 a0), .one (.int .i64 a1), .one (.int .i64 a2)] [] (zq110.sig.ret r) (zq110.sig.bs r) :=
  good_fn tabOk0 mixed0 zq110.sig (zq110.E N) Tryz.func84 (by kernel_rfl) (by kernel_rfl) 71 0 0 [] 6528 false [] [(false, [.any])] (by kernel_rfl) rfl rfl ((zq110.g.run N a0 a1 a2).trans h)
def zq110.ent (N : Nat) : Ent Tryz.prog T0 := mkEnt 84 [(false, [.any]), (false, [.any]), (false, [.any])] zq110.sig (fun t => zq110.g N t.1 t.2.1 t.2.2) (fun t r h => zq110.good N t.1 t.2.1 t.2.2 r h)
/-! ### zq91 -/
abbrev zq91.R : Type := Bool
abbrev zq91.sig : Sig := ⟨[(false, 1)], [], [.int .i64], [(false, 1)], [], [.bool]⟩
def zq91.C : Cfg D0 := ⟨Tryz.prog, T0, 5, 0, 5, 0, [], 8, false, []⟩
def zq91.E (N : Nat) : List (Ent Tryz.prog T0) := [zq110.ent N]
def zq91.O (N : Nat) : Orc D0 zq91.R := orcOf (zq91.E N)
def zq91.K0 : Ex → St D0 → Option zq91.R := exitK zq91.C Tryz.f83.results.toList [(false, [.any])] (decOut zq91.sig)
def zq91.c1 : Code := codeAt (Tryz.f83.body.getD .skip) []
def zq91.o0 (N : Nat) (a0 : Int) : Option zq91.R :=
 (zq110.g N a0 2 24).bind fun r1 =>
 some (r1)
theorem zq91.o0.run (N : Nat) (a0 : Int) : runC zq91.C (zq91.O N) N zq91.c1 1 (st0 [.one (.int .i64 a0)] [] : St D0) zq91.K0 = zq91.o0 N a0 := by kernel_rfl
def zq91.g (N : Nat) (a0 : Int) : Option zq91.R := zq91.o0 N a0
theorem zq91.g.run (N : Nat) (a0 : Int) : runC zq91.C (zq91.O N) N zq91.c1 1 (st0 [.one (.int .i64 a0)] [] : St D0) zq91.K0 = zq91.g N a0 := by
  exact (zq91.o0.run N a0).trans rfl
theorem zq91.good (N : Nat) (a0 : Int) (r : zq91.R) (h : zq91.g N a0 = some r) : Go.PM.Good Tryz.prog T0 83 [.one (.int .i64 a0)] [] (zq91.sig.ret r) (zq91.sig.bs r) :=
  good_fn tabOk0 mixed0 zq91.sig (zq91.E N) Tryz.func83 (by kernel_rfl) (by kernel_rfl) 5 0 0 [] 8 false [] [(false, [.any])] (by kernel_rfl) rfl rfl ((zq91.g.run N a0).trans h)
def zq91.ent (N : Nat) : Ent Tryz.prog T0 := mkEnt 83 [(false, [.any])] zq91.sig (fun t => zq91.g N t) (fun t r h => zq91.good N t r h)
/-! ### zq115 -/
abbrev zq115.R : Type := List ByteArray
abbrev zq115.sig : Sig := ⟨[(false, 1), (false, 1)], [], [.str, .int .u8], [(false, 1)], [], [.sl true 9]⟩
def zq115.C : Cfg D0 := ⟨Tryz.prog, T0, 264435, 0, 34, 0, [(122, [0, 1, 5, 6, 7], []), (978, [0, 1, 5, 6, 7], [])], 1685246720, false, []⟩
def zq115.E (N : Nat) : List (Ent Tryz.prog T0) := []
def zq115.O (N : Nat) : Orc D0 zq115.R := orcOf (zq115.E N)
def zq115.K0 : Ex → St D0 → Option zq115.R := exitK zq115.C Tryz.f118.results.toList [(false, [.own 9])] (decOut zq115.sig)
def zq115.c1 : Code := codeAt (Tryz.f118.body.getD .skip) []
def zq115.c2 : Code := codeAt (Tryz.f118.body.getD .skip) [false]
def zq115.c6 : Code := codeAt (Tryz.f118.body.getD .skip) [true, false]
def zq115.c14 : Code := codeAt (Tryz.f118.body.getD .skip) [true, true, false]
def zq115.c31 : Code := codeAt (Tryz.f118.body.getD .skip) [true, true, true, true]
def zq115.c60 : Code := codeAt (Tryz.f118.body.getD .skip) [true, true, true, false, false]
def zq115.c244 : Code := codeAt (Tryz.f118.body.getD .skip) [true, true, true, false, true, false, false]
def zq115.c488 : Code := codeAt (Tryz.f118.body.getD .skip) [true, true, true, false, true, false, false, false]
def zq115.c978 : Code := codeAt (Tryz.f118.body.getD .skip) [true, true, true, false, true, false, false, true, false]
def zq115.c979 : Code := codeAt (Tryz.f118.body.getD .skip) [true, true, true, false, true, false, false, true, true]
def zq115.K979 (N : Nat) (Kn122 : St D0 → Option zq115.R) : Ex → St D0 → Option zq115.R := ((fun up => (onN (fun s => zq115.C.tidy 122 s ((onN Kn122 up) .normal)) (onN Kn122 up))) (blockK 0 (onN (fun s => zq115.C.tidy 30 s (fun s' => runC zq115.C (zq115.O N) N zq115.c31 31 s' zq115.K0)) zq115.K0)))
def zq115.o2 (N : Nat) (v0 : ByteArray) (v1 : Int) (v2 : List ByteArray) (v3 : Int) (v4 : Int) (c4 : ByteArray → Int → (List ByteArray) → Int → Int → Option zq115.R) : Option zq115.R :=
 c4 v0 v1 v2 v3 (w64 (v4 + 1))
theorem zq115.o2.run (N : Nat) (Kn122 : St D0 → Option zq115.R) (v0 : ByteArray) (v1 : Int) (v2 : List ByteArray) (v3 : Int) (v4 : Int) : runC zq115.C (zq115.O N) N zq115.c979 979 (mkSt [(0, .one (.str v0)), (1, .one (.int .u8 v1)), (5, .one (.sl true 9 v2)), (6, .one (.int .i64 v3)), (7, .one (.int .i64 v4))] [] : St D0) ((fun up => (onN (fun s => zq115.C.tidy 122 s ((onN Kn122 up) .normal)) (onN Kn122 up))) (blockK 0 (onN (fun s => zq115.C.tidy 30 s (fun s' => runC zq115.C (zq115.O N) N zq115.c31 31 s' zq115.K0)) zq115.K0))) = zq115.o2 N v0 v1 v2 v3 v4 ((fun w0 w1 w2 w3 w4 => Kn122 (mkSt [(0, .one (.str w0)), (1, .one (.int .u8 w1)), (5, .one (.sl true 9 w2)), (6, .one (.int .i64 w3)), (7, .one (.int .i64 w4))] [] : St D0))) := by kernel_rfl
def zq115.d2 (N : Nat) (v0 : ByteArray) (v1 : Int) (v2 : List ByteArray) (v3 : Int) (v4 : Int) (c4 : ByteArray → Int → (List ByteArray) → Int → Int → Option zq115.R) : Option zq115.R := zq115.o2 N v0 v1 v2 v3 v4 c4
theorem zq115.d2.run (N : Nat) (Kn122 : St D0 → Option zq115.R) (v0 : ByteArray) (v1 : Int) (v2 : List ByteArray) (v3 : Int) (v4 : Int) : runC zq115.C (zq115.O N) N zq115.c979 979 (mkSt [(0, .one (.str v0)), (1, .one (.int .u8 v1)), (5, .one (.sl true 9 v2)), (6, .one (.int .i64 v3)), (7, .one (.int .i64 v4))] [] : St D0) (zq115.K979 N Kn122) = zq115.d2 N v0 v1 v2 v3 v4 ((fun w0 w1 w2 w3 w4 => Kn122 (mkSt [(0, .one (.str w0)), (1, .one (.int .u8 w1)), (5, .one (.sl true 9 w2)), (6, .one (.int .i64 w3)), (7, .one (.int .i64 w4))] [] : St D0))) := by
  exact (zq115.o2.run N Kn122 v0 v1 v2 v3 v4).trans rfl
def zq115.o3 (N : Nat) (v0 : ByteArray) (v1 : Int) (v2 : Int) (v3 : Int) (c1 : ByteArray → Int → Int → Int → Option zq115.R) : Option zq115.R :=
 c1 v0 v1 v2 (w64 (v3 + 1))
theorem zq115.o3.run (N : Nat) (Kn122 : St D0 → Option zq115.R) (v0 : ByteArray) (v1 : Int) (v2 : Int) (v3 : Int) : runC zq115.C (zq115.O N) N zq115.c979 979 (mkSt [(0, .one (.str v0)), (1, .one (.int .u8 v1)), (5, .one (.nl)), (6, .one (.int .i64 v2)), (7, .one (.int .i64 v3))] [] : St D0) ((fun up => (onN (fun s => zq115.C.tidy 122 s ((onN Kn122 up) .normal)) (onN Kn122 up))) (blockK 0 (onN (fun s => zq115.C.tidy 30 s (fun s' => runC zq115.C (zq115.O N) N zq115.c31 31 s' zq115.K0)) zq115.K0))) = zq115.o3 N v0 v1 v2 v3 ((fun w0 w1 w2 w3 => Kn122 (mkSt [(0, .one (.str w0)), (1, .one (.int .u8 w1)), (5, .one (.nl)), (6, .one (.int .i64 w2)), (7, .one (.int .i64 w3))] [] : St D0))) := by kernel_rfl
def zq115.d3 (N : Nat) (v0 : ByteArray) (v1 : Int) (v2 : Int) (v3 : Int) (c1 : ByteArray → Int → Int → Int → Option zq115.R) : Option zq115.R := zq115.o3 N v0 v1 v2 v3 c1
theorem zq115.d3.run (N : Nat) (Kn122 : St D0 → Option zq115.R) (v0 : ByteArray) (v1 : Int) (v2 : Int) (v3 : Int) : runC zq115.C (zq115.O N) N zq115.c979 979 (mkSt [(0, .one (.str v0)), (1, .one (.int .u8 v1)), (5, .one (.nl)), (6, .one (.int .i64 v2)), (7, .one (.int .i64 v3))] [] : St D0) (zq115.K979 N Kn122) = zq115.d3 N v0 v1 v2 v3 ((fun w0 w1 w2 w3 => Kn122 (mkSt [(0, .one (.str w0)), (1, .one (.int .u8 w1)), (5, .one (.nl)), (6, .one (.int .i64 w2)), (7, .one (.int .i64 w3))] [] : St D0))) := by
  exact (zq115.o3.run N Kn122 v0 v1 v2 v3).trans rfl
def zq115.K244 (N : Nat) (Kn122 : St D0 → Option zq115.R) : Ex → St D0 → Option zq115.R := ((fun up => (onN (fun s => zq115.C.tidy 122 s ((onN Kn122 up) .normal)) (onN Kn122 up))) (blockK 0 (onN (fun s => zq115.C.tidy 30 s (fun s' => runC zq115.C (zq115.O N) N zq115.c31 31 s' zq115.K0)) zq115.K0)))
def zq115.o1 (N : Nat) (v0 : ByteArray) (v1 : Int) (v2 : Int) (v3 : Int) (c2 : ByteArray → Int → (List ByteArray) → Int → Int → Option zq115.R) (c3 : ByteArray → Int → Int → Int → Option zq115.R) : Option zq115.R :=
 bif (decide (v3 < (v0.size : Int))) then
  bif (decide (0 ≤ v3)) then
   bif (decide (v3 < (v0.size : Int))) then
    bif ((bt v0 v3) == v1) then
     bif (decide (0 ≤ v3)) then
      bif (decide (v3 ≤ (v0.size : Int))) then
       bif (decide (0 ≤ v2)) then
        bif (decide (v2 ≤ v3)) then
         bif (Nat.blt (([] : List ByteArray).length + ([(v0.extract (v2 : Int).toNat (v3 : Int).toNat)] : List ByteArray).length) 8796093022208) then
          c2 v0 v1 (([] : List ByteArray) ++ ([(v0.extract (v2 : Int).toNat (v3 : Int).toNat)] : List ByteArray)) (w64 (v3 + 1)) v3
         else
         none
        else
        none
       else
       none
      else
      none
     else
     none
    else
    c3 v0 v1 v2 v3
   else
   none
  else
  none
 else
 bif (decide (0 ≤ (v0.size : Int))) then
  bif (decide ((v0.size : Int) ≤ (v0.size : Int))) then
   bif (decide (0 ≤ v2)) then
    bif (decide (v2 ≤ (v0.size : Int))) then
     bif (Nat.blt (([] : List ByteArray).length + ([(v0.extract (v2 : Int).toNat ((v0.size : Int) : Int).toNat)] : List ByteArray).length) 8796093022208) then
      some ((([] : List ByteArray) ++ ([(v0.extract (v2 : Int).toNat ((v0.size : Int) : Int).toNat)] : List ByteArray)))
     else
     none
    else
    none
   else
   none
  else
  none
 else
 none
theorem zq115.o1.run (N : Nat) (Kn122 : St D0 → Option zq115.R) (H979 : Code) (v0 : ByteArray) (v1 : Int) (v2 : Int) (v3 : Int) : runC zq115.C (zq115.O N) N (.seq zq115.c488 (.seq zq115.c978 H979)) 244 (mkSt [(0, .one (.str v0)), (1, .one (.int .u8 v1)), (5, .one (.nl)), (6, .one (.int .i64 v2)), (7, .one (.int .i64 v3))] [] : St D0) ((fun up => (onN (fun s => zq115.C.tidy 122 s ((onN Kn122 up) .normal)) (onN Kn122 up))) (blockK 0 (onN (fun s => zq115.C.tidy 30 s (fun s' => runC zq115.C (zq115.O N) N zq115.c31 31 s' zq115.K0)) zq115.K0))) = zq115.o1 N v0 v1 v2 v3 ((fun w0 w1 w2 w3 w4 => runC zq115.C (zq115.O N) N H979 979 (mkSt [(0, .one (.str w0)), (1, .one (.int .u8 w1)), (5, .one (.sl true 9 w2)), (6, .one (.int .i64 w3)), (7, .one (.int .i64 w4))] [] : St D0) ((fun up => (onN (fun s => zq115.C.tidy 122 s ((onN Kn122 up) .normal)) (onN Kn122 up))) (blockK 0 (onN (fun s => zq115.C.tidy 30 s (fun s' => runC zq115.C (zq115.O N) N zq115.c31 31 s' zq115.K0)) zq115.K0))))) ((fun w0 w1 w2 w3 => runC zq115.C (zq115.O N) N H979 979 (mkSt [(0, .one (.str w0)), (1, .one (.int .u8 w1)), (5, .one (.nl)), (6, .one (.int .i64 w2)), (7, .one (.int .i64 w3))] [] : St D0) ((fun up => (onN (fun s => zq115.C.tidy 122 s ((onN Kn122 up) .normal)) (onN Kn122 up))) (blockK 0 (onN (fun s => zq115.C.tidy 30 s (fun s' => runC zq115.C (zq115.O N) N zq115.c31 31 s' zq115.K0)) zq115.K0))))) := by kernel_rfl
def zq115.B489 (N : Nat) (Kn122 : St D0 → Option zq115.R) : St D0 → Option zq115.R := fun s' => runC zq115.C (zq115.O N) N zq115.c979 979 s' (zq115.K979 N Kn122)
def zq115.d1 (N : Nat) (v0 : ByteArray) (v1 : Int) (v2 : Int) (v3 : Int) (c1 : ByteArray → Int → Int → Int → Option zq115.R) (c4 : ByteArray → Int → (List ByteArray) → Int → Int → Option zq115.R) : Option zq115.R := zq115.o1 N v0 v1 v2 v3 ((fun w0 w1 w2 w3 w4 => zq115.d2 N w0 w1 w2 w3 w4 c4)) ((fun w0 w1 w2 w3 => zq115.d3 N w0 w1 w2 w3 c1))
theorem zq115.c244_1 : zq115.c244 = (.seq zq115.c488 (.seq zq115.c978 zq115.c979)) := by kernel_rfl
theorem zq115.d1.run (N : Nat) (Kn122 : St D0 → Option zq115.R) (v0 : ByteArray) (v1 : Int) (v2 : Int) (v3 : Int) : runC zq115.C (zq115.O N) N zq115.c244 244 (mkSt [(0, .one (.str v0)), (1, .one (.int .u8 v1)), (5, .one (.nl)), (6, .one (.int .i64 v2)), (7, .one (.int .i64 v3))] [] : St D0) (zq115.K244 N Kn122) = zq115.d1 N v0 v1 v2 v3 ((fun w0 w1 w2 w3 => Kn122 (mkSt [(0, .one (.str w0)), (1, .one (.int .u8 w1)), (5, .one (.nl)), (6, .one (.int .i64 w2)), (7, .one (.int .i64 w3))] [] : St D0))) ((fun w0 w1 w2 w3 w4 => Kn122 (mkSt [(0, .one (.str w0)), (1, .one (.int .u8 w1)), (5, .one (.sl true 9 w2)), (6, .one (.int .i64 w3)), (7, .one (.int .i64 w4))] [] : St D0))) := by
  rw [zq115.c244_1]; unfold zq115.d1; exact (zq115.o1.run N Kn122 zq115.c979 v0 v1 v2 v3).trans (congr (congr rfl (funext fun w0 => funext fun w1 => funext fun w2 => funext fun w3 => funext fun w4 => zq115.d2.run N Kn122 w0 w1 w2 w3 w4)) (funext fun w0 => funext fun w1 => funext fun w2 => funext fun w3 => zq115.d3.run N Kn122 w0 w1 w2 w3))
def zq115.o4 (N : Nat) (v0 : ByteArray) (v1 : Int) (v2 : List ByteArray) (v3 : Int) (v4 : Int) (c2 : ByteArray → Int → (List ByteArray) → Int → Int → Option zq115.R) : Option zq115.R :=
 bif (decide (v4 < (v0.size : Int))) then
  bif (decide (0 ≤ v4)) then
   bif (decide (v4 < (v0.size : Int))) then
    bif ((bt v0 v4) == v1) then
     bif (decide (0 ≤ v4)) then
      bif (decide (v4 ≤ (v0.size : Int))) then
       bif (decide (0 ≤ v3)) then
        bif (decide (v3 ≤ v4)) then
         bif (Nat.blt (v2.length + ([(v0.extract (v3 : Int).toNat (v4 : Int).toNat)] : List ByteArray).length) 8796093022208) then
          c2 v0 v1 (v2 ++ ([(v0.extract (v3 : Int).toNat (v4 : Int).toNat)] : List ByteArray)) (w64 (v4 + 1)) v4
         else
         none
        else
        none
       else
       none
      else
      none
     else
     none
    else
    c2 v0 v1 v2 v3 v4
   else
   none
  else
  none
 else
 bif (decide (0 ≤ (v0.size : Int))) then
  bif (decide ((v0.size : Int) ≤ (v0.size : Int))) then
   bif (decide (0 ≤ v3)) then
    bif (decide (v3 ≤ (v0.size : Int))) then
     bif (Nat.blt (v2.length + ([(v0.extract (v3 : Int).toNat ((v0.size : Int) : Int).toNat)] : List ByteArray).length) 8796093022208) then
      some ((v2 ++ ([(v0.extract (v3 : Int).toNat ((v0.size : Int) : Int).toNat)] : List ByteArray)))
     else
     none
    else
    none
   else
   none
  else
  none
 else
 none
theorem zq115.o4.run (N : Nat) (Kn122 : St D0 → Option zq115.R) (H979 : Code) (v0 : ByteArray) (v1 : Int) (v2 : List ByteArray) (v3 : Int) (v4 : Int) : runC zq115.C (zq115.O N) N (.seq zq115.c488 (.seq zq115.c978 H979)) 244 (mkSt [(0, .one (.str v0)), (1, .one (.int .u8 v1)), (5, .one (.sl true 9 v2)), (6, .one (.int .i64 v3)), (7, .one (.int .i64 v4))] [] : St D0) ((fun up => (onN (fun s => zq115.C.tidy 122 s ((onN Kn122 up) .normal)) (onN Kn122 up))) (blockK 0 (onN (fun s => zq115.C.tidy 30 s (fun s' => runC zq115.C (zq115.O N) N zq115.c31 31 s' zq115.K0)) zq115.K0))) = zq115.o4 N v0 v1 v2 v3 v4 ((fun w0 w1 w2 w3 w4 => runC zq115.C (zq115.O N) N H979 979 (mkSt [(0, .one (.str w0)), (1, .one (.int .u8 w1)), (5, .one (.sl true 9 w2)), (6, .one (.int .i64 w3)), (7, .one (.int .i64 w4))] [] : St D0) ((fun up => (onN (fun s => zq115.C.tidy 122 s ((onN Kn122 up) .normal)) (onN Kn122 up))) (blockK 0 (onN (fun s => zq115.C.tidy 30 s (fun s' => runC zq115.C (zq115.O N) N zq115.c31 31 s' zq115.K0)) zq115.K0))))) := by kernel_rfl
def zq115.d4 (N : Nat) (v0 : ByteArray) (v1 : Int) (v2 : List ByteArray) (v3 : Int) (v4 : Int) (c4 : ByteArray → Int → (List ByteArray) → Int → Int → Option zq115.R) : Option zq115.R := zq115.o4 N v0 v1 v2 v3 v4 ((fun w0 w1 w2 w3 w4 => zq115.d2 N w0 w1 w2 w3 w4 c4))
theorem zq115.c244_4 : zq115.c244 = (.seq zq115.c488 (.seq zq115.c978 zq115.c979)) := by kernel_rfl
theorem zq115.d4.run (N : Nat) (Kn122 : St D0 → Option zq115.R) (v0 : ByteArray) (v1 : Int) (v2 : List ByteArray) (v3 : Int) (v4 : Int) : runC zq115.C (zq115.O N) N zq115.c244 244 (mkSt [(0, .one (.str v0)), (1, .one (.int .u8 v1)), (5, .one (.sl true 9 v2)), (6, .one (.int .i64 v3)), (7, .one (.int .i64 v4))] [] : St D0) (zq115.K244 N Kn122) = zq115.d4 N v0 v1 v2 v3 v4 ((fun w0 w1 w2 w3 w4 => Kn122 (mkSt [(0, .one (.str w0)), (1, .one (.int .u8 w1)), (5, .one (.sl true 9 w2)), (6, .one (.int .i64 w3)), (7, .one (.int .i64 w4))] [] : St D0))) := by
  rw [zq115.c244_4]; unfold zq115.d4; exact (zq115.o4.run N Kn122 zq115.c979 v0 v1 v2 v3 v4).trans (congr rfl (funext fun w0 => funext fun w1 => funext fun w2 => funext fun w3 => funext fun w4 => zq115.d2.run N Kn122 w0 w1 w2 w3 w4))
def zq115.K122 (N : Nat) : Ex → St D0 → Option zq115.R := (blockK 0 (onN (fun s => zq115.C.tidy 30 s (fun s' => runC zq115.C (zq115.O N) N zq115.c31 31 s' zq115.K0)) zq115.K0))
mutual
def zq115.l1 (N : Nat) : Nat → ByteArray → Int → Int → Int → Option zq115.R
  | 0, _, _, _, _ => none
  | n + 1, v0, v1, v2, v3 => zq115.d1 N v0 v1 v2 v3 ((fun w0 w1 w2 w3 => zq115.l1 N n w0 w1 w2 w3)) ((fun w0 w1 w2 w3 w4 => zq115.l4 N n w0 w1 w2 w3 w4))
def zq115.l4 (N : Nat) : Nat → ByteArray → Int → (List ByteArray) → Int → Int → Option zq115.R
  | 0, _, _, _, _, _ => none
  | n + 1, v0, v1, v2, v3, v4 => zq115.d4 N v0 v1 v2 v3 v4 ((fun w0 w1 w2 w3 w4 => zq115.l4 N n w0 w1 w2 w3 w4))
end
theorem zq115.loop122 (N : Nat) : ∀ n, (∀ (v0 : ByteArray) (v1 : Int) (v2 : Int) (v3 : Int), iter (loopF zq115.C (zq115.O N) N zq115.c244 122) n (mkSt [(0, .one (.str v0)), (1, .one (.int .u8 v1)), (5, .one (.nl)), (6, .one (.int .i64 v2)), (7, .one (.int .i64 v3))] [] : St D0) (zq115.K122 N) = zq115.l1 N n v0 v1 v2 v3) ∧ (∀ (v0 : ByteArray) (v1 : Int) (v2 : List ByteArray) (v3 : Int) (v4 : Int), iter (loopF zq115.C (zq115.O N) N zq115.c244 122) n (mkSt [(0, .one (.str v0)), (1, .one (.int .u8 v1)), (5, .one (.sl true 9 v2)), (6, .one (.int .i64 v3)), (7, .one (.int .i64 v4))] [] : St D0) (zq115.K122 N) = zq115.l4 N n v0 v1 v2 v3 v4)
  | 0 => ⟨(fun v0 v1 v2 v3 => rfl), (fun v0 v1 v2 v3 v4 => rfl)⟩
  | n + 1 => ⟨(fun v0 v1 v2 v3 => (zq115.d1.run N (fun s => iter (loopF zq115.C (zq115.O N) N zq115.c244 122) n s (zq115.K122 N)) v0 v1 v2 v3).trans (show _ = zq115.d1 N v0 v1 v2 v3 ((fun w0 w1 w2 w3 => zq115.l1 N n w0 w1 w2 w3)) ((fun w0 w1 w2 w3 w4 => zq115.l4 N n w0 w1 w2 w3 w4)) from (congr (congr rfl (funext fun w0 => funext fun w1 => funext fun w2 => funext fun w3 => (zq115.loop122 N n).1 w0 w1 w2 w3)) (funext fun w0 => funext fun w1 => funext fun w2 => funext fun w3 => funext fun w4 => (zq115.loop122 N n).2 w0 w1 w2 w3 w4)))), (fun v0 v1 v2 v3 v4 => (zq115.d4.run N (fun s => iter (loopF zq115.C (zq115.O N) N zq115.c244 122) n s (zq115.K122 N)) v0 v1 v2 v3 v4).trans (show _ = zq115.d4 N v0 v1 v2 v3 v4 ((fun w0 w1 w2 w3 w4 => zq115.l4 N n w0 w1 w2 w3 w4)) from (congr rfl (funext fun w0 => funext fun w1 => funext fun w2 => funext fun w3 => funext fun w4 => (zq115.loop122 N n).2 w0 w1 w2 w3 w4))))⟩
def zq115.o0 (N : Nat) (a0 : ByteArray) (a1 : Int) (c1 : ByteArray → Int → Int → Int → Option zq115.R) : Option zq115.R :=
 c1 a0 a1 0 0
theorem zq115.o0.run (N : Nat) (H244 : Code) (a0 : ByteArray) (a1 : Int) : runC zq115.C (zq115.O N) N (.seq zq115.c2 (.seq zq115.c6 (.seq zq115.c14 (.seq (.seq zq115.c60 (.block 0 (.loop H244))) zq115.c31)))) 1 (st0 [.one (.str a0), .one (.int .u8 a1)] [] : St D0) zq115.K0 = zq115.o0 N a0 a1 ((fun w0 w1 w2 w3 => iter (loopF zq115.C (zq115.O N) N H244 122) N (mkSt [(0, .one (.str w0)), (1, .one (.int .u8 w1)), (5, .one (.nl)), (6, .one (.int .i64 w2)), (7, .one (.int .i64 w3))] [] : St D0) (blockK 0 (onN (fun s => zq115.C.tidy 30 s (fun s' => runC zq115.C (zq115.O N) N zq115.c31 31 s' zq115.K0)) zq115.K0)))) := by kernel_rfl
def zq115.g (N : Nat) (a0 : ByteArray) (a1 : Int) : Option zq115.R := zq115.o0 N a0 a1 ((fun w0 w1 w2 w3 => zq115.l1 N N w0 w1 w2 w3))
theorem zq115.c1_0 : zq115.c1 = (.seq zq115.c2 (.seq zq115.c6 (.seq zq115.c14 (.seq (.seq zq115.c60 (.block 0 (.loop zq115.c244))) zq115.c31)))) := by kernel_rfl
theorem zq115.g.run (N : Nat) (a0 : ByteArray) (a1 : Int) : runC zq115.C (zq115.O N) N zq115.c1 1 (st0 [.one (.str a0), .one (.int .u8 a1)] [] : St D0) zq115.K0 = zq115.g N a0 a1 := by
  rw [zq115.c1_0]; unfold zq115.g; exact (zq115.o0.run N zq115.c244 a0 a1).trans (congr rfl (funext fun w0 => funext fun w1 => funext fun w2 => funext fun w3 => (zq115.loop122 N N).1 w0 w1 w2 w3))
theorem zq115.good (N : Nat) (a0 : ByteArray) (a1 : Int) (r : zq115.R) (h : zq115.g N a0 a1 = some r) : Go.PM.Good Tryz.prog T0 118 [.one (.str a0), .one (.int .u8 a1)] [] (zq115.sig.ret r) (zq115.sig.bs r) :=
  good_fn tabOk0 mixed0 zq115.sig (zq115.E N) Tryz.func118 (by kernel_rfl) (by kernel_rfl) 264435 0 0 [(122, [0, 1, 5, 6, 7], []), (978, [0, 1, 5, 6, 7], [])] 1685246720 false [] [(false, [.own 9])] (by kernel_rfl) rfl rfl ((zq115.g.run N a0 a1).trans h)
def zq115.ent (N : Nat) : Ent Tryz.prog T0 := mkEnt 118 [(false, [.any]), (false, [.any])] zq115.sig (fun t => zq115.g N t.1 t.2) (fun t r h => zq115.good N t.1 t.2 r h)
/-! ### zq112 -/
abbrev zq112.R : Type := ByteArray
abbrev zq112.sig : Sig := ⟨[(false, 1)], [], [.int .i64], [(false, 1)], [], [.str]⟩
def zq112.C : Cfg D0 := ⟨Tryz.prog, T0, 21, 0, 20, 0, [], 9256, false, []⟩
def zq112.E (N : Nat) (G : Int → Option zq112.R) (hG : ∀ (a0 : Int) (r : zq112.R), G a0 = some r → Go.PM.Good Tryz.prog T0 112 [.one (.int .i64 a0)] [] (zq112.sig.ret r) (zq112.sig.bs r)) : List (Ent Tryz.prog T0) := [mkEnt 112 [(false, [.any])] zq112.sig (fun t => G t) (fun t r h => hG t r h)]
def zq112.O (N : Nat) (G : Int → Option zq112.R) (hG : ∀ (a0 : Int) (r : zq112.R), G a0 = some r → Go.PM.Good Tryz.prog T0 112 [.one (.int .i64 a0)] [] (zq112.sig.ret r) (zq112.sig.bs r)) : Orc D0 zq112.R := orcOf (zq112.E N G hG)
def zq112.K0 : Ex → St D0 → Option zq112.R := exitK zq112.C Tryz.f112.results.toList [(false, [.any])] (decOut zq112.sig)
def zq112.c1 : Code := codeAt (Tryz.f112.body.getD .skip) []
def zq112.o0 (N : Nat) (G : Int → Option zq112.R) (a0 : Int) : Option zq112.R :=
 bif (decide (a0 < 10)) then
  (numsO T0 5 ([((IntKind.wrap .u8) (w64 (48 + a0)))] : List Int)).bind fun r1 =>
  some ((strOfNums r1))
 else
 (G (w64 (Int.tdiv a0 10))).bind fun r2 =>
 (numsO T0 5 ([((IntKind.wrap .u8) (w64 (48 + (Int.tmod a0 10))))] : List Int)).bind fun r3 =>
 bif (Nat.ble (r2.size + (strOfNums r3).size) 9223372036854775807) then
  some ((r2 ++ (strOfNums r3)))
 else
 none
theorem zq112.o0.run (N : Nat) (G : Int → Option zq112.R) (hG : ∀ (a0 : Int) (r : zq112.R), G a0 = some r → Go.PM.Good Tryz.prog T0 112 [.one (.int .i64 a0)] [] (zq112.sig.ret r) (zq112.sig.bs r)) (a0 : Int) : runC zq112.C (zq112.O N G hG) N zq112.c1 1 (st0 [.one (.int .i64 a0)] [] : St D0) zq112.K0 = zq112.o0 N G a0 := by kernel_rfl
def zq112.s (N : Nat) (G : Int → Option zq112.R) (a0 : Int) : Option zq112.R := zq112.o0 N G a0
theorem zq112.s.run (N : Nat) (G : Int → Option zq112.R) (hG : ∀ (a0 : Int) (r : zq112.R), G a0 = some r → Go.PM.Good Tryz.prog T0 112 [.one (.int .i64 a0)] [] (zq112.sig.ret r) (zq112.sig.bs r)) (a0 : Int) : runC zq112.C (zq112.O N G hG) N zq112.c1 1 (st0 [.one (.int .i64 a0)] [] : St D0) zq112.K0 = zq112.s N G a0 := by
  exact (zq112.o0.run N G hG a0).trans rfl
def zq112.gk (N : Nat) : Nat → Int → Option zq112.R
  | 0, _ => none
  | k + 1, a0 => zq112.s N (zq112.gk N k) a0
theorem zq112.goodk (N : Nat) : ∀ (k : Nat) (a0 : Int) (r : zq112.R), zq112.gk N k a0 = some r → Go.PM.Good Tryz.prog T0 112 [.one (.int .i64 a0)] [] (zq112.sig.ret r) (zq112.sig.bs r)
  | 0, _, _, h => by cases h
  | k + 1, a0, r, h => good_fn tabOk0 mixed0 zq112.sig (zq112.E N (zq112.gk N k) (zq112.goodk N k)) Tryz.func112 (by kernel_rfl) (by kernel_rfl) 21 0 0 [] 9256 false [] [(false, [.any])] (by kernel_rfl) rfl rfl ((zq112.s.run N (zq112.gk N k) (zq112.goodk N k) a0).trans h)
def zq112.g (N : Nat) (a0 : Int) : Option zq112.R := zq112.gk N N a0
theorem zq112.good (N : Nat) (a0 : Int) (r : zq112.R) (h : zq112.g N a0 = some r) : Go.PM.Good Tryz.prog T0 112 [.one (.int .i64 a0)] [] (zq112.sig.ret r) (zq112.sig.bs r) := zq112.goodk N N a0 r h
def zq112.ent (N : Nat) : Ent Tryz.prog T0 := mkEnt 112 [(false, [.any])] zq112.sig (fun t => zq112.g N t) (fun t r h => zq112.good N t r h)
/-! ### zq113 -/
abbrev zq113.R : Type := Int
abbrev zq113.sig : Sig := ⟨[(false, 1)], [], [.str], [(false, 1)], [], [.int .i64]⟩
def zq113.C : Cfg D0 := ⟨Tryz.prog, T0, 17184325661, 0, 44, 0, [(12, [0, 18], []), (122, [0, 3, 4], []), (7824, [0, 3, 4, 34], [])], 450008466464, false, []⟩
def zq113.E (N : Nat) : List (Ent Tryz.prog T0) := [zq110.ent N]
def zq113.O (N : Nat) : Orc D0 zq113.R := orcOf (zq113.E N)
def zq113.K0 : Ex → St D0 → Option zq113.R := exitK zq113.C Tryz.f119.results.toList [(false, [.any])] (decOut zq113.sig)
def zq113.c1 : Code := codeAt (Tryz.f119.body.getD .skip) []
def zq113.c2 : Code := codeAt (Tryz.f119.body.getD .skip) [false]
def zq113.c7 : Code := codeAt (Tryz.f119.body.getD .skip) [true, true]
def zq113.c12 : Code := codeAt (Tryz.f119.body.getD .skip) [true, false, false]
def zq113.c13 : Code := codeAt (Tryz.f119.body.getD .skip) [true, false, true]
def zq113.c14 : Code := codeAt (Tryz.f119.body.getD .skip) [true, true, false]
def zq113.c31 : Code := codeAt (Tryz.f119.body.getD .skip) [true, true, true, true]
def zq113.c60 : Code := codeAt (Tryz.f119.body.getD .skip) [true, true, true, false, false]
def zq113.c244 : Code := codeAt (Tryz.f119.body.getD .skip) [true, true, true, false, true, false, false]
def zq113.c488 : Code := codeAt (Tryz.f119.body.getD .skip) [true, true, true, false, true, false, false, false]
def zq113.c979 : Code := codeAt (Tryz.f119.body.getD .skip) [true, true, true, false, true, false, false, true, true]
def zq113.c3913 : Code := codeAt (Tryz.f119.body.getD .skip) [true, true, true, false, true, false, false, true, false, false, true]
def zq113.c7824 : Code := codeAt (Tryz.f119.body.getD .skip) [true, true, true, false, true, false, false, true, false, false, false, false]
def zq113.c7825 : Code := codeAt (Tryz.f119.body.getD .skip) [true, true, true, false, true, false, false, true, false, false, false, true]
def zq113.K7825 (N : Nat) (Kn122 : St D0 → Option zq113.R) : Ex → St D0 → Option zq113.R := ((fun up => (onN (fun s => zq113.C.tidy 3912 s (fun s' => runC zq113.C (zq113.O N) N zq113.c3913 3913 s' up)) up)) (blockK 1 ((fun up => (onN (fun s => zq113.C.tidy 978 s (fun s' => runC zq113.C (zq113.O N) N zq113.c979 979 s' up)) up)) ((fun up => (onN (fun s => zq113.C.tidy 122 s ((onN Kn122 up) .normal)) (onN Kn122 up))) (blockK 0 (onN (fun s => zq113.C.tidy 30 s (fun s' => runC zq113.C (zq113.O N) N zq113.c31 31 s' zq113.K0)) zq113.K0))))))
def zq113.o3 (N : Nat) (v0 : ByteArray) (v1 : Int) (v2 : Int) (v3 : Bool) (c2 : ByteArray → Int → Int → Option zq113.R) : Option zq113.R :=
 bif v3 then
  some ((-1))
 else
 bif (decide (0 ≤ v2)) then
  bif (decide (v2 < (v0.size : Int))) then
   c2 v0 (w64 ((w64 (10 * v1)) + (w64 ((IntKind.wrap .u8) ((bt v0 v2) - 48))))) (w64 (v2 + 1))
  else
  none
 else
 none
theorem zq113.o3.run (N : Nat) (Kn122 : St D0 → Option zq113.R) (v0 : ByteArray) (v1 : Int) (v2 : Int) (v3 : Bool) : runC zq113.C (zq113.O N) N zq113.c7825 7825 (mkSt [(0, .one (.str v0)), (3, .one (.int .i64 v1)), (4, .one (.int .i64 v2)), (34, .one (.bool v3))] [] : St D0) ((fun up => (onN (fun s => zq113.C.tidy 3912 s (fun s' => runC zq113.C (zq113.O N) N zq113.c3913 3913 s' up)) up)) (blockK 1 ((fun up => (onN (fun s => zq113.C.tidy 978 s (fun s' => runC zq113.C (zq113.O N) N zq113.c979 979 s' up)) up)) ((fun up => (onN (fun s => zq113.C.tidy 122 s ((onN Kn122 up) .normal)) (onN Kn122 up))) (blockK 0 (onN (fun s => zq113.C.tidy 30 s (fun s' => runC zq113.C (zq113.O N) N zq113.c31 31 s' zq113.K0)) zq113.K0)))))) = zq113.o3 N v0 v1 v2 v3 ((fun w0 w1 w2 => Kn122 (mkSt [(0, .one (.str w0)), (3, .one (.int .i64 w1)), (4, .one (.int .i64 w2))] [] : St D0))) := by kernel_rfl
def zq113.d3 (N : Nat) (v0 : ByteArray) (v1 : Int) (v2 : Int) (v3 : Bool) (c2 : ByteArray → Int → Int → Option zq113.R) : Option zq113.R := zq113.o3 N v0 v1 v2 v3 c2
theorem zq113.d3.run (N : Nat) (Kn122 : St D0 → Option zq113.R) (v0 : ByteArray) (v1 : Int) (v2 : Int) (v3 : Bool) : runC zq113.C (zq113.O N) N zq113.c7825 7825 (mkSt [(0, .one (.str v0)), (3, .one (.int .i64 v1)), (4, .one (.int .i64 v2)), (34, .one (.bool v3))] [] : St D0) (zq113.K7825 N Kn122) = zq113.d3 N v0 v1 v2 v3 ((fun w0 w1 w2 => Kn122 (mkSt [(0, .one (.str w0)), (3, .one (.int .i64 w1)), (4, .one (.int .i64 w2))] [] : St D0))) := by
  exact (zq113.o3.run N Kn122 v0 v1 v2 v3).trans rfl
def zq113.K244 (N : Nat) (Kn122 : St D0 → Option zq113.R) : Ex → St D0 → Option zq113.R := ((fun up => (onN (fun s => zq113.C.tidy 122 s ((onN Kn122 up) .normal)) (onN Kn122 up))) (blockK 0 (onN (fun s => zq113.C.tidy 30 s (fun s' => runC zq113.C (zq113.O N) N zq113.c31 31 s' zq113.K0)) zq113.K0)))
def zq113.o2 (N : Nat) (v0 : ByteArray) (v1 : Int) (v2 : Int) (c3 : ByteArray → Int → Int → Bool → Option zq113.R) : Option zq113.R :=
 bif (decide (v2 < (v0.size : Int))) then
  bif (decide (0 ≤ v2)) then
   bif (decide (v2 < (v0.size : Int))) then
    bif (decide ((bt v0 v2) < 48)) then
     c3 v0 v1 v2 true
    else
    bif (decide (0 ≤ v2)) then
     bif (decide (v2 < (v0.size : Int))) then
      c3 v0 v1 v2 (decide ((bt v0 v2) > 57))
     else
     none
    else
    none
   else
   none
  else
  none
 else
 some (v1)
theorem zq113.o2.run (N : Nat) (Kn122 : St D0 → Option zq113.R) (H7825 : Code) (v0 : ByteArray) (v1 : Int) (v2 : Int) : runC zq113.C (zq113.O N) N (.seq zq113.c488 (.seq (.block 1 (.seq (.seq zq113.c7824 H7825) zq113.c3913)) zq113.c979)) 244 (mkSt [(0, .one (.str v0)), (3, .one (.int .i64 v1)), (4, .one (.int .i64 v2))] [] : St D0) ((fun up => (onN (fun s => zq113.C.tidy 122 s ((onN Kn122 up) .normal)) (onN Kn122 up))) (blockK 0 (onN (fun s => zq113.C.tidy 30 s (fun s' => runC zq113.C (zq113.O N) N zq113.c31 31 s' zq113.K0)) zq113.K0))) = zq113.o2 N v0 v1 v2 ((fun w0 w1 w2 w3 => runC zq113.C (zq113.O N) N H7825 7825 (mkSt [(0, .one (.str w0)), (3, .one (.int .i64 w1)), (4, .one (.int .i64 w2)), (34, .one (.bool w3))] [] : St D0) ((fun up => (onN (fun s => zq113.C.tidy 3912 s (fun s' => runC zq113.C (zq113.O N) N zq113.c3913 3913 s' up)) up)) (blockK 1 ((fun up => (onN (fun s => zq113.C.tidy 978 s (fun s' => runC zq113.C (zq113.O N) N zq113.c979 979 s' up)) up)) ((fun up => (onN (fun s => zq113.C.tidy 122 s ((onN Kn122 up) .normal)) (onN Kn122 up))) (blockK 0 (onN (fun s => zq113.C.tidy 30 s (fun s' => runC zq113.C (zq113.O N) N zq113.c31 31 s' zq113.K0)) zq113.K0)))))))) := by kernel_rfl
def zq113.d2 (N : Nat) (v0 : ByteArray) (v1 : Int) (v2 : Int) (c2 : ByteArray → Int → Int → Option zq113.R) : Option zq113.R := zq113.o2 N v0 v1 v2 ((fun w0 w1 w2 w3 => zq113.d3 N w0 w1 w2 w3 c2))
theorem zq113.c244_2 : zq113.c244 = (.seq zq113.c488 (.seq (.block 1 (.seq (.seq zq113.c7824 zq113.c7825) zq113.c3913)) zq113.c979)) := by kernel_rfl
theorem zq113.d2.run (N : Nat) (Kn122 : St D0 → Option zq113.R) (v0 : ByteArray) (v1 : Int) (v2 : Int) : runC zq113.C (zq113.O N) N zq113.c244 244 (mkSt [(0, .one (.str v0)), (3, .one (.int .i64 v1)), (4, .one (.int .i64 v2))] [] : St D0) (zq113.K244 N Kn122) = zq113.d2 N v0 v1 v2 ((fun w0 w1 w2 => Kn122 (mkSt [(0, .one (.str w0)), (3, .one (.int .i64 w1)), (4, .one (.int .i64 w2))] [] : St D0))) := by
  rw [zq113.c244_2]; unfold zq113.d2; exact (zq113.o2.run N Kn122 zq113.c7825 v0 v1 v2).trans (congr rfl (funext fun w0 => funext fun w1 => funext fun w2 => funext fun w3 => zq113.d3.run N Kn122 w0 w1 w2 w3))
def zq113.K122 (N : Nat) : Ex → St D0 → Option zq113.R := (blockK 0 (onN (fun s => zq113.C.tidy 30 s (fun s' => runC zq113.C (zq113.O N) N zq113.c31 31 s' zq113.K0)) zq113.K0))
def zq113.l2 (N : Nat) : Nat → ByteArray → Int → Int → Option zq113.R
  | 0, _, _, _ => none
  | n + 1, v0, v1, v2 => zq113.d2 N v0 v1 v2 ((fun w0 w1 w2 => zq113.l2 N n w0 w1 w2))
theorem zq113.loop122 (N : Nat) : ∀ n, (∀ (v0 : ByteArray) (v1 : Int) (v2 : Int), iter (loopF zq113.C (zq113.O N) N zq113.c244 122) n (mkSt [(0, .one (.str v0)), (3, .one (.int .i64 v1)), (4, .one (.int .i64 v2))] [] : St D0) (zq113.K122 N) = zq113.l2 N n v0 v1 v2)
  | 0 => (fun v0 v1 v2 => rfl)
  | n + 1 => (fun v0 v1 v2 => (zq113.d2.run N (fun s => iter (loopF zq113.C (zq113.O N) N zq113.c244 122) n s (zq113.K122 N)) v0 v1 v2).trans (show _ = zq113.d2 N v0 v1 v2 ((fun w0 w1 w2 => zq113.l2 N n w0 w1 w2)) from (congr rfl (funext fun w0 => funext fun w1 => funext fun w2 => (zq113.loop122 N n) w0 w1 w2))))
def zq113.K13 (N : Nat) : Ex → St D0 → Option zq113.R := (onN (fun s => zq113.C.tidy 6 s (fun s' => runC zq113.C (zq113.O N) N zq113.c7 7 s' zq113.K0)) zq113.K0)
def zq113.o1 (N : Nat) (v0 : ByteArray) (v1 : Bool) (c2 : ByteArray → Int → Int → Option zq113.R) : Option zq113.R :=
 bif v1 then
  some ((-1))
 else
 c2 v0 0 0
theorem zq113.o1.run (N : Nat) (H244 : Code) (v0 : ByteArray) (v1 : Bool) : runC zq113.C (zq113.O N) N zq113.c13 13 (mkSt [(0, .one (.str v0)), (18, .one (.bool v1))] [] : St D0) (onN (fun s => zq113.C.tidy 6 s (fun s' => runC zq113.C (zq113.O N) N (.seq zq113.c14 (.seq (.seq zq113.c60 (.block 0 (.loop H244))) zq113.c31)) 7 s' zq113.K0)) zq113.K0) = zq113.o1 N v0 v1 ((fun w0 w1 w2 => iter (loopF zq113.C (zq113.O N) N H244 122) N (mkSt [(0, .one (.str w0)), (3, .one (.int .i64 w1)), (4, .one (.int .i64 w2))] [] : St D0) (blockK 0 (onN (fun s => zq113.C.tidy 30 s (fun s' => runC zq113.C (zq113.O N) N zq113.c31 31 s' zq113.K0)) zq113.K0)))) := by kernel_rfl
def zq113.d1 (N : Nat) (v0 : ByteArray) (v1 : Bool) : Option zq113.R := zq113.o1 N v0 v1 ((fun w0 w1 w2 => zq113.l2 N N w0 w1 w2))
theorem zq113.d1.run (N : Nat) (v0 : ByteArray) (v1 : Bool) : runC zq113.C (zq113.O N) N zq113.c13 13 (mkSt [(0, .one (.str v0)), (18, .one (.bool v1))] [] : St D0) (zq113.K13 N) = zq113.d1 N v0 v1 := by
  unfold zq113.d1; exact (zq113.o1.run N zq113.c244 v0 v1).trans (congr rfl (funext fun w0 => funext fun w1 => funext fun w2 => (zq113.loop122 N N) w0 w1 w2))
def zq113.o0 (N : Nat) (a0 : ByteArray) (c1 : ByteArray → Bool → Option zq113.R) : Option zq113.R :=
 (zq110.g N (a0.size : Int) 1 6).bind fun r1 =>
 bif (!r1) then
  c1 a0 true
 else
 bif (decide (0 < (a0.size : Int))) then
  bif ((bt a0 0) == 48) then
   c1 a0 (decide ((a0.size : Int) > 1))
  else
  c1 a0 false
 else
 none
theorem zq113.o0.run (N : Nat) (H13 : Code) (a0 : ByteArray) : runC zq113.C (zq113.O N) N (.seq zq113.c2 (.seq (.seq zq113.c12 H13) zq113.c7)) 1 (st0 [.one (.str a0)] [] : St D0) zq113.K0 = zq113.o0 N a0 ((fun w0 w1 => runC zq113.C (zq113.O N) N H13 13 (mkSt [(0, .one (.str w0)), (18, .one (.bool w1))] [] : St D0) (onN (fun s => zq113.C.tidy 6 s (fun s' => runC zq113.C (zq113.O N) N zq113.c7 7 s' zq113.K0)) zq113.K0))) := by kernel_rfl
def zq113.g (N : Nat) (a0 : ByteArray) : Option zq113.R := zq113.o0 N a0 ((fun w0 w1 => zq113.d1 N w0 w1))
theorem zq113.c1_0 : zq113.c1 = (.seq zq113.c2 (.seq (.seq zq113.c12 zq113.c13) zq113.c7)) := by kernel_rfl
theorem zq113.g.run (N : Nat) (a0 : ByteArray) : runC zq113.C (zq113.O N) N zq113.c1 1 (st0 [.one (.str a0)] [] : St D0) zq113.K0 = zq113.g N a0 := by
  rw [zq113.c1_0]; unfold zq113.g; exact (zq113.o0.run N zq113.c13 a0).trans (congr rfl (funext fun w0 => funext fun w1 => zq113.d1.run N w0 w1))
theorem zq113.good (N : Nat) (a0 : ByteArray) (r : zq113.R) (h : zq113.g N a0 = some r) : Go.PM.Good Tryz.prog T0 119 [.one (.str a0)] [] (zq113.sig.ret r) (zq113.sig.bs r) :=
  good_fn tabOk0 mixed0 zq113.sig (zq113.E N) Tryz.func119 (by kernel_rfl) (by kernel_rfl) 17184325661 0 0 [(12, [0, 18], []), (122, [0, 3, 4], []), (7824, [0, 3, 4, 34], [])] 450008466464 false [] [(false, [.any])] (by kernel_rfl) rfl rfl ((zq113.g.run N a0).trans h)
def zq113.ent (N : Nat) : Ent Tryz.prog T0 := mkEnt 119 [(false, [.any])] zq113.sig (fun t => zq113.g N t) (fun t r h => zq113.good N t r h)
end Go.Proofs.YtccjoegnkiaibaaGreatDoor.M
namespace Go.Proofs.YtccjoegnkiaibaaGreatDoor.M
open Go Go.PM Go.Proofs.YtccjoegnkiaibaaGreatDoor.P
set_option linter.unusedVariables false
set_option maxRecDepth 100000
open Go.RowKit Go.Lib
/-! ### zq42 -/
abbrev zq42.R : Type := Int × Bool
abbrev zq42.sig : Sig := ⟨[(false, 1), (false, 1)], [], [.str, .int .i64], [(false, 1), (false, 1)], [], [.int .i64, .bool]⟩
theorem zq42.asd {p : Prop} (h : p) : Aside p := h
def zq42.v (a0 : ByteArray) (a1 : Int) : Int × Bool := match Lib.atoiAll a0.data.toList with
  | .ok v => if 0 ≤ v ∧ v ≤ a1 then (if Lib.itoa v = a0.toList then (v, true) else (0, false)) else (0, false)
  | _ => (0, false)
def zq42.g (N : Nat) (a0 : ByteArray) (a1 : Int) : Option zq42.R := bif decide (a0.size ≤ 281474976710656) && decide (a1 ≤ 9223372036854775807) then some (zq42.v a0 a1) else none
theorem zq42.gr {w w2 w3 : World} (hb : Below w.heap.size w w2) (h : ∃ k os, w3 = Go.Sort.grow (w2.drewN k) os) : Below w.heap.size w w3 := by
  obtain ⟨k, os, rfl⟩ := h
  refine ⟨hb.os, hb.tape, hb.output, ?_, fun i hi => ?_⟩
  · show w.heap.size ≤ (w2.heap ++ os).size
    rw [Array.size_append]; have := hb.size; omega
  · show (w2.heap ++ os)[i]? = w.heap[i]?
    rw [Array.getElem?_append_left (by have := hb.size; omega)]
    exact hb.block i hi
theorem zq42.bw (w : World) (t : ByteArray) : Below w.heap.size w (Lib.bytesWorld w 5 t) := ⟨rfl, rfl, rfl, by rw [Lib.bytesWorld_size]; omega, fun i hi => Lib.bytesWorld_at_old w 5 t i (by omega)⟩
theorem zq42.within (v a1 : Int) (w : World) (hG : GlW w) : Calls Tryz.prog 81 #[.int .i64 v, .int .i64 0, .int .i64 a1] w fun e w' => e = .returned (.bool (decide (0 ≤ v ∧ v ≤ a1))) ∧ Below w.heap.size w w' := by
  have hw : zq46.g 0 v 0 a1 = some (decide (0 ≤ v ∧ v ≤ a1)) := by
    unfold zq46.g zq46.o0
    by_cases h : 0 ≤ v
    · rw [decide_eq_true (show v ≥ 0 from h), cond_true]; simp [h]
    · rw [decide_eq_false (show ¬ v ≥ 0 from h), cond_false]; simp [h]
  exact law_calls (zq46.good 0 v 0 a1 _ hw) #[.int .i64 v, .int .i64 0, .int .i64 a1] (.cons (ERep.int _ _) (.cons (ERep.int _ _) (.cons (ERep.int _ _) .nil))) rfl rfl (fun C b u h => inv_bool h) hG
set_option maxHeartbeats 2000000 in
set_option maxRecDepth 100000 in
theorem zq42.walk (a0 : ByteArray) (a1 : Int) (hlim : a0.size ≤ 281474976710656) (h63 : a1 ≤ 9223372036854775807) (r1 : Int) (r2 : Bool) (w : World) (hG : GlW w) (hv : zq42.v a0 a1 = (r1, r2)) :
    Calls Tryz.prog 79 #[.string a0, .int .i64 a1] w fun e w' => e = .returned (.tuple #[.int .i64 r1, .bool r2]) ∧ Below w.heap.size w w' := by
  have HG := zq42.asd hG
  clear hG
  unfold zq42.v at hv
  rcases hat : Lib.atoiAll a0.data.toList with v | _ | _
  · rw [hat] at hv
    have hv2 : (if 0 ≤ v ∧ v ≤ a1 then (if Lib.itoa v = a0.toList then (v, true) else (0, false)) else (0, false)) = (r1, r2) := hv
    clear hv
    have HA := zq42.asd (Tryz.strconv_Atoi_ok a0 (by omega) v hat)
    clear hat
    have hfrom : ∀ w' : World, (w' = w ∨ ∃ t, w' = Lib.bytesWorld w 5 t) → Below w.heap.size w w' := by
      rintro w' (rfl | ⟨t, rfl⟩)
      · exact Below.refl _ _
      · exact zq42.bw w t
    have HF := zq42.asd hfrom
    clear hfrom
    by_cases c1 : 0 ≤ v ∧ v ≤ a1
    · rw [if_pos c1] at hv2
      have HW := zq42.asd (fun (W : World) (hg : GlW W) => by have := zq42.within v a1 W hg; rw [decide_eq_true c1] at this; exact this)
      have HI := zq42.asd (fun (W : World) (hg : GlW W) => Tryz.strconv_Itoa v (by omega) (by omega) W hg.tab)
      clear c1
      by_cases c2 : Lib.itoa v = a0.toList
      · rw [if_pos c2] at hv2
        simp only [Prod.mk.injEq] at hv2
        obtain ⟨rfl, rfl⟩ := hv2
        have c2b0 : (Lib.itoa v == a0.toList) = true := beq_iff_eq.mpr c2
        have c2b1 : (Lib.itoa v != a0.toList) = false := bne_eq_false_iff_eq.mpr c2
        clear c2
        go_enter Tryz.func79, Tryz.ntmps79
        go_wp2_with (first | (go_at_call 80; refine (HA.out _).mono ?_; rintro e w1 ⟨rfl, hw⟩; have HB := zq42.asd (HF.out _ hw); clear hw) | (go_at_call 81; refine (HW.out _ (HG.out.below HB.out)).mono ?_; rintro e w2 ⟨rfl, hb⟩; have HB2 := zq42.asd (HB.out.trans (hb.mono HB.out.size)); clear hb) | (go_at_call 72; refine (HI.out _ (HG.out.below HB2.out)).mono ?_; rintro e w3 ⟨rfl, hk⟩; have HB3 := zq42.asd (zq42.gr HB2.out hk); clear hk))
        go_ret2
        exact ⟨rfl, HB3.out⟩
      · rw [if_neg c2] at hv2
        simp only [Prod.mk.injEq] at hv2
        obtain ⟨rfl, rfl⟩ := hv2
        have c2b0 : (Lib.itoa v == a0.toList) = false := beq_eq_false_iff_ne.mpr c2
        have c2b1 : (Lib.itoa v != a0.toList) = true := bne_iff_ne.mpr c2
        clear c2
        go_enter Tryz.func79, Tryz.ntmps79
        go_wp2_with (first | (go_at_call 80; refine (HA.out _).mono ?_; rintro e w1 ⟨rfl, hw⟩; have HB := zq42.asd (HF.out _ hw); clear hw) | (go_at_call 81; refine (HW.out _ (HG.out.below HB.out)).mono ?_; rintro e w2 ⟨rfl, hb⟩; have HB2 := zq42.asd (HB.out.trans (hb.mono HB.out.size)); clear hb) | (go_at_call 72; refine (HI.out _ (HG.out.below HB2.out)).mono ?_; rintro e w3 ⟨rfl, hk⟩; have HB3 := zq42.asd (zq42.gr HB2.out hk); clear hk))
        go_ret2
        exact ⟨rfl, HB3.out⟩
    · rw [if_neg c1] at hv2
      simp only [Prod.mk.injEq] at hv2
      obtain ⟨rfl, rfl⟩ := hv2
      have HW := zq42.asd (fun (W : World) (hg : GlW W) => by have := zq42.within v a1 W hg; rw [decide_eq_false c1] at this; exact this)
      clear c1
      go_enter Tryz.func79, Tryz.ntmps79
      go_wp2_with (first | (go_at_call 80; refine (HA.out _).mono ?_; rintro e w1 ⟨rfl, hw⟩; have HB := zq42.asd (HF.out _ hw); clear hw) | (go_at_call 81; refine (HW.out _ (HG.out.below HB.out)).mono ?_; rintro e w2 ⟨rfl, hb⟩; have HB2 := zq42.asd (HB.out.trans (hb.mono HB.out.size)); clear hb))
      go_ret2
      exact ⟨rfl, HB2.out⟩
  · rw [hat] at hv
    simp only [Prod.mk.injEq] at hv
    obtain ⟨rfl, rfl⟩ := hv
    obtain ⟨tp, p, hcell⟩ := HG.out.errS
    have HA := zq42.asd (show Calls Tryz.prog 80 #[.string a0] w fun e w' => ∃ N, e = .returned (.tuple #[.int .i64 (0), .iface 131 (.pointer (some ⟨N, 0, none⟩))]) ∧ w.heap.size ≤ N ∧ w'.heap[N]? = some (.cells #[.string ⟨#[65, 116, 111, 105]⟩, .string a0, .iface tp p] 145 (0, 0)) ∧ Below w.heap.size w w' from Go.Proofs.Any.strconv_Atoi_syntax Tryz.laysC172 a0 hlim hat (.iface tp p) w hcell (Or.inr ⟨tp, p, rfl⟩))
    clear hat hcell
    go_enter Tryz.func79, Tryz.ntmps79
    go_wp2_with (go_at_call 80; refine HA.out.mono ?_; rintro e w' ⟨N, rfl, hN, hh, hb⟩; have HB := zq42.asd hb; clear hb hh hN)
    go_ret2
    exact ⟨rfl, HB.out⟩
  · rw [hat] at hv
    simp only [Prod.mk.injEq] at hv
    obtain ⟨rfl, rfl⟩ := hv
    obtain ⟨tp, p, hcell⟩ := HG.out.errR
    have HA := zq42.asd (Tryz.strconv_Atoi_range a0 hlim hat (.iface tp p) w hcell (Or.inr ⟨tp, p, rfl⟩))
    clear hat hcell
    generalize Lib.atoiSat a0.data.toList = sat at HA
    go_enter Tryz.func79, Tryz.ntmps79
    go_wp2_with (go_at_call 80; refine HA.out.mono ?_; rintro e w' ⟨N, rfl, hN, hh, hb⟩; have HB := zq42.asd hb; clear hb hh hN)
    go_ret2
    exact ⟨rfl, HB.out⟩
theorem zq42.good (N : Nat) (a0 : ByteArray) (a1 : Int) (r : zq42.R) (h : zq42.g N a0 a1 = some r) : Go.PM.Good Tryz.prog T0 79 [.one (.str a0), .one (.int .i64 a1)] [] (zq42.sig.ret r) (zq42.sig.bs r) := by
  obtain ⟨hc, h⟩ := bif_some h
  simp only [Bool.and_eq_true, decide_eq_true_eq] at hc
  have hr := Option.some.inj h
  refine good_glob (T := T0) ⟨_, Tryz.func79, by kernel_rfl, rfl⟩ [.one (.str a0), .one (.int .i64 a1)] (ret := zq42.sig.ret r) rfl rfl ?_
  intro w C blk vargs hsz hrep hag hgl
  have ev : vargs = #[.string a0, .int .i64 a1] := (args2 hsz).trans (by rw [rep_str (hrep 0), rep_int (hrep 1)])
  rw [ev]
  refine (zq42.walk a0 a1 hc.1 hc.2 r.1 r.2 w hgl hr).mono ?_
  rintro e w' ⟨rfl, hB⟩
  exact ⟨_, rfl, ⟨_, rfl, .cons (crep1 (ERep.int _ _)) (.cons (crep1 (ERep.bool _)) .nil)⟩, hB⟩
def zq42.ent (N : Nat) : Ent Tryz.prog T0 := mkEnt 79 [(false, [.any]), (false, [.any])] zq42.sig (fun t => zq42.g N t.1 t.2) (fun t r h => zq42.good N t.1 t.2 r h)

/-! ### zq117 -/
abbrev zq117.R : Type := Int × Bool
abbrev zq117.sig : Sig := ⟨[(false, 1)], [], [.str], [(false, 1), (false, 1)], [], [.int .i64, .er]⟩
def zq117.v (a0 : ByteArray) : Int × Bool := match Lib.atoiAll a0.data.toList with
  | .ok v => (v, true)
  | .range => (Lib.atoiSat a0.data.toList, false)
  | _ => (0, false)
def zq117.g (N : Nat) (a0 : ByteArray) : Option zq117.R := bif decide (a0.size ≤ 281474976710656) then some (zq117.v a0) else none
theorem zq117.bw (w : World) (t : ByteArray) : Below w.heap.size w (Lib.bytesWorld w 5 t) := ⟨rfl, rfl, rfl, by rw [Lib.bytesWorld_size]; omega, fun i hi => Lib.bytesWorld_at_old w 5 t i (by omega)⟩
theorem zq117.good (N : Nat) (a0 : ByteArray) (r : zq117.R) (h : zq117.g N a0 = some r) : Go.PM.Good Tryz.prog T0 80 [.one (.str a0)] [] (zq117.sig.ret r) (zq117.sig.bs r) := by
  obtain ⟨hc, h⟩ := bif_some h
  have hlim : a0.size ≤ 281474976710656 := of_decide_eq_true hc
  cases Option.some.inj h
  refine good_glob (T := T0) ⟨_, Tryz.func80, by kernel_rfl, rfl⟩ [.one (.str a0)] (ret := zq117.sig.ret (zq117.v a0)) rfl rfl ?_
  intro w C blk vargs hsz hrep hag hgl
  have ev : vargs = #[.string a0] := (args1 hsz).trans (by rw [rep_str (hrep 0)])
  rw [ev]
  have HG : GlW w := hgl
  rcases hat : Lib.atoiAll a0.data.toList with v | _ | _
  · have hv : zq117.v a0 = (v, true) := by unfold zq117.v; rw [hat]
    rw [hv]
    refine (Tryz.strconv_Atoi_ok a0 (by omega) v hat w).mono ?_
    rintro e w' ⟨rfl, hw⟩
    refine ⟨_, rfl, ⟨_, rfl, .cons (crep1 (ERep.int _ _)) (.cons (crep1 (Or.inl ⟨rfl, rfl⟩)) .nil)⟩, ?_⟩
    rcases hw with rfl | ⟨t, rfl⟩
    · exact Below.refl _ _
    · exact zq117.bw w t
  · have hv : zq117.v a0 = (0, false) := by unfold zq117.v; rw [hat]
    rw [hv]
    obtain ⟨tp, p, hcell⟩ := HG.errS
    refine (show Calls Tryz.prog 80 #[.string a0] w fun e w' => ∃ N, e = .returned (.tuple #[.int .i64 (0), .iface 131 (.pointer (some ⟨N, 0, none⟩))]) ∧ w.heap.size ≤ N ∧ w'.heap[N]? = some (.cells #[.string ⟨#[65, 116, 111, 105]⟩, .string a0, .iface tp p] 145 (0, 0)) ∧ Below w.heap.size w w' from Go.Proofs.Any.strconv_Atoi_syntax Tryz.laysC172 a0 hlim hat (.iface tp p) w hcell (Or.inr ⟨tp, p, rfl⟩)).mono ?_
    rintro e w' ⟨N, rfl, hN, hh, hb⟩
    exact ⟨_, rfl, ⟨_, rfl, .cons (crep1 (ERep.int _ _)) (.cons (crep1 (Or.inr ⟨rfl, _, _, rfl⟩)) .nil)⟩, hb⟩
  · have hv : zq117.v a0 = (Lib.atoiSat a0.data.toList, false) := by unfold zq117.v; rw [hat]
    rw [hv]
    obtain ⟨tp, p, hcell⟩ := HG.errR
    refine (Tryz.strconv_Atoi_range a0 hlim hat (.iface tp p) w hcell (Or.inr ⟨tp, p, rfl⟩)).mono ?_
    rintro e w' ⟨N, rfl, hN, hh, hb⟩
    exact ⟨_, rfl, ⟨_, rfl, .cons (crep1 (ERep.int _ _)) (.cons (crep1 (Or.inr ⟨rfl, _, _, rfl⟩)) .nil)⟩, hb⟩
def zq117.ent (N : Nat) : Ent Tryz.prog T0 := mkEnt 80 [(false, [.any])] zq117.sig (fun t => zq117.g N t) (fun t r h => zq117.good N t r h)

/-! ### zq118 -/
abbrev zq118.R : Type := ByteArray
abbrev zq118.sig : Sig := ⟨[(false, 1)], [], [.int .i64], [(false, 1)], [], [.str]⟩
def zq118.g (N : Nat) (a0 : Int) : Option zq118.R := bif decide (0 ≤ a0) && decide (a0 ≤ 9223372036854775807) then some ⟨(Lib.itoa a0).toArray⟩ else none
theorem zq118.gr {w w2 w3 : World} (hb : Below w.heap.size w w2) (h : ∃ k os, w3 = Go.Sort.grow (w2.drewN k) os) : Below w.heap.size w w3 := by
  obtain ⟨k, os, rfl⟩ := h
  refine ⟨hb.os, hb.tape, hb.output, ?_, fun i hi => ?_⟩
  · show w.heap.size ≤ (w2.heap ++ os).size
    rw [Array.size_append]; have := hb.size; omega
  · show (w2.heap ++ os)[i]? = w.heap[i]?
    rw [Array.getElem?_append_left (by have := hb.size; omega)]
    exact hb.block i hi
theorem zq118.good (N : Nat) (a0 : Int) (r : zq118.R) (h : zq118.g N a0 = some r) : Go.PM.Good Tryz.prog T0 72 [.one (.int .i64 a0)] [] (zq118.sig.ret r) (zq118.sig.bs r) := by
  obtain ⟨hc, h⟩ := bif_some h
  simp only [Bool.and_eq_true, decide_eq_true_eq] at hc
  cases Option.some.inj h
  refine good_glob (T := T0) ⟨_, Tryz.func72, by kernel_rfl, rfl⟩ [.one (.int .i64 a0)] (ret := .one (.str _)) rfl rfl ?_
  intro w C blk vargs hsz hrep hag hgl
  have ev : vargs = #[.int .i64 a0] := (args1 hsz).trans (by rw [rep_int (hrep 0)])
  rw [ev]
  refine (Tryz.strconv_Itoa a0 (by omega) (by omega) w (GlW.tab hgl)).mono ?_
  rintro e w' ⟨rfl, hk⟩
  exact ⟨_, rfl, ERep.str _, zq118.gr (Below.refl _ _) hk⟩
def zq118.ent (N : Nat) : Ent Tryz.prog T0 := mkEnt 72 [(false, [.any])] zq118.sig (fun t => zq118.g N t) (fun t r h => zq118.good N t r h)

end Go.Proofs.YtccjoegnkiaibaaGreatDoor.M
namespace Go.Proofs.YtccjoegnkiaibaaGreatDoor.M
open Go Go.PM Go.Proofs.YtccjoegnkiaibaaGreatDoor.P
set_option linter.unusedVariables false
set_option maxRecDepth 100000
/-! ### zq32 -/
abbrev zq32.R : Type := Int × Int
abbrev zq32.sig : Sig := ⟨[(false, 1), (false, 1)], [], [.int .i64, .int .i64], [(false, 1), (false, 1)], [], [.int .i64, .int .i64]⟩
def zq32.C : Cfg D0 := ⟨Tryz.prog, T0, 33011, 0, 23, 0, [(14, [6, 7], [])], 875264, false, []⟩
def zq32.E (N : Nat) : List (Ent Tryz.prog T0) := []
def zq32.O (N : Nat) : Orc D0 zq32.R := orcOf (zq32.E N)
def zq32.K0 : Ex → St D0 → Option zq32.R := exitK zq32.C Tryz.f108.results.toList [(false, [.any]), (false, [.any])] (decOut zq32.sig)
def zq32.c1 : Code := codeAt (Tryz.f108.body.getD .skip) []
def zq32.c2 : Code := codeAt (Tryz.f108.body.getD .skip) [false]
def zq32.c6 : Code := codeAt (Tryz.f108.body.getD .skip) [true, false]
def zq32.c14 : Code := codeAt (Tryz.f108.body.getD .skip) [true, true, false]
def zq32.c15 : Code := codeAt (Tryz.f108.body.getD .skip) [true, true, true]
def zq32.K15 (N : Nat) : Ex → St D0 → Option zq32.R := zq32.K0
def zq32.o1 (N : Nat) (v0 : Int) (v1 : Int) : Option zq32.R :=
 some (v0, v1)
theorem zq32.o1.run (N : Nat) (v0 : Int) (v1 : Int) : runC zq32.C (zq32.O N) N zq32.c15 15 (mkSt [(6, .one (.int .i64 v0)), (7, .one (.int .i64 v1))] [] : St D0) zq32.K0 = zq32.o1 N v0 v1 := by kernel_rfl
def zq32.d1 (N : Nat) (v0 : Int) (v1 : Int) : Option zq32.R := zq32.o1 N v0 v1
theorem zq32.d1.run (N : Nat) (v0 : Int) (v1 : Int) : runC zq32.C (zq32.O N) N zq32.c15 15 (mkSt [(6, .one (.int .i64 v0)), (7, .one (.int .i64 v1))] [] : St D0) (zq32.K15 N) = zq32.d1 N v0 v1 := by
  exact (zq32.o1.run N v0 v1).trans rfl
def zq32.o0 (N : Nat) (a0 : Int) (a1 : Int) (c1 : Int → Int → Option zq32.R) : Option zq32.R :=
 bif (a1 == 0) then
  none
 else
 bif (a1 == 0) then
  none
 else
 bif (decide ((Int.tmod a0 a1) < 0)) then
  c1 (w64 ((w64 (Int.tdiv a0 a1)) - 1)) (w64 ((Int.tmod a0 a1) + a1))
 else
 c1 (w64 (Int.tdiv a0 a1)) (Int.tmod a0 a1)
theorem zq32.o0.run (N : Nat) (H15 : Code) (a0 : Int) (a1 : Int) : runC zq32.C (zq32.O N) N (.seq zq32.c2 (.seq zq32.c6 (.seq zq32.c14 H15))) 1 (st0 [.one (.int .i64 a0), .one (.int .i64 a1)] [] : St D0) zq32.K0 = zq32.o0 N a0 a1 ((fun w0 w1 => runC zq32.C (zq32.O N) N H15 15 (mkSt [(6, .one (.int .i64 w0)), (7, .one (.int .i64 w1))] [] : St D0) zq32.K0)) := by kernel_rfl
def zq32.g (N : Nat) (a0 : Int) (a1 : Int) : Option zq32.R := zq32.o0 N a0 a1 ((fun w0 w1 => zq32.d1 N w0 w1))
theorem zq32.c1_0 : zq32.c1 = (.seq zq32.c2 (.seq zq32.c6 (.seq zq32.c14 zq32.c15))) := by kernel_rfl
theorem zq32.g.run (N : Nat) (a0 : Int) (a1 : Int) : runC zq32.C (zq32.O N) N zq32.c1 1 (st0 [.one (.int .i64 a0), .one (.int .i64 a1)] [] : St D0) zq32.K0 = zq32.g N a0 a1 := by
  rw [zq32.c1_0]; unfold zq32.g; exact (zq32.o0.run N zq32.c15 a0 a1).trans (congr rfl (funext fun w0 => funext fun w1 => zq32.d1.run N w0 w1))
theorem zq32.good (N : Nat) (a0 : Int) (a1 : Int) (r : zq32.R) (h : zq32.g N a0 a1 = some r) : Go.PM.Good Tryz.prog T0 108 [.one (.int .i64 a0), .one (.int .i64 a1)] [] (zq32.sig.ret r) (zq32.sig.bs r) :=
  good_fn tabOk0 mixed0 zq32.sig (zq32.E N) Tryz.func108 (by kernel_rfl) (by kernel_rfl) 33011 0 0 [(14, [6, 7], [])] 875264 false [] [(false, [.any]), (false, [.any])] (by kernel_rfl) rfl rfl ((zq32.g.run N a0 a1).trans h)
def zq32.ent (N : Nat) : Ent Tryz.prog T0 := mkEnt 108 [(false, [.any]), (false, [.any])] zq32.sig (fun t => zq32.g N t.1 t.2) (fun t r h => zq32.good N t.1 t.2 r h)
/-! ### zq33 -/
abbrev zq33.R : Type := Int
abbrev zq33.sig : Sig := ⟨[(false, 1), (false, 1)], [], [.int .i64, .int .i64], [(false, 1)], [], [.int .i64]⟩
def zq33.C : Cfg D0 := ⟨Tryz.prog, T0, 83, 0, 15, 0, [(12, [0, 1], [])], 6944, false, []⟩
def zq33.E (N : Nat) : List (Ent Tryz.prog T0) := []
def zq33.O (N : Nat) : Orc D0 zq33.R := orcOf (zq33.E N)
def zq33.K0 : Ex → St D0 → Option zq33.R := exitK zq33.C Tryz.f109.results.toList [(false, [.any])] (decOut zq33.sig)
def zq33.c1 : Code := codeAt (Tryz.f109.body.getD .skip) []
def zq33.c2 : Code := codeAt (Tryz.f109.body.getD .skip) [false]
def zq33.c7 : Code := codeAt (Tryz.f109.body.getD .skip) [true, true]
def zq33.c24 : Code := codeAt (Tryz.f109.body.getD .skip) [true, false, false, false]
def zq33.K24 (N : Nat) (Kn12 : St D0 → Option zq33.R) : Ex → St D0 → Option zq33.R := ((fun up => (onN (fun s => zq33.C.tidy 12 s ((onN Kn12 up) .normal)) (onN Kn12 up))) (blockK 0 (onN (fun s => zq33.C.tidy 6 s (fun s' => runC zq33.C (zq33.O N) N zq33.c7 7 s' zq33.K0)) zq33.K0)))
def zq33.o1 (N : Nat) (v0 : Int) (v1 : Int) (c1 : Int → Int → Option zq33.R) : Option zq33.R :=
 bif (v1 != 0) then
  bif (v1 == 0) then
   none
  else
  c1 v1 (Int.tmod v0 v1)
 else
 some ((if (w64 (0 - v0)) > v0 then (w64 (0 - v0)) else v0))
theorem zq33.o1.run (N : Nat) (Kn12 : St D0 → Option zq33.R) (v0 : Int) (v1 : Int) : runC zq33.C (zq33.O N) N zq33.c24 24 (mkSt [(0, .one (.int .i64 v0)), (1, .one (.int .i64 v1))] [] : St D0) ((fun up => (onN (fun s => zq33.C.tidy 12 s ((onN Kn12 up) .normal)) (onN Kn12 up))) (blockK 0 (onN (fun s => zq33.C.tidy 6 s (fun s' => runC zq33.C (zq33.O N) N zq33.c7 7 s' zq33.K0)) zq33.K0))) = zq33.o1 N v0 v1 ((fun w0 w1 => Kn12 (mkSt [(0, .one (.int .i64 w0)), (1, .one (.int .i64 w1))] [] : St D0))) := by kernel_rfl
def zq33.d1 (N : Nat) (v0 : Int) (v1 : Int) (c1 : Int → Int → Option zq33.R) : Option zq33.R := zq33.o1 N v0 v1 c1
theorem zq33.d1.run (N : Nat) (Kn12 : St D0 → Option zq33.R) (v0 : Int) (v1 : Int) : runC zq33.C (zq33.O N) N zq33.c24 24 (mkSt [(0, .one (.int .i64 v0)), (1, .one (.int .i64 v1))] [] : St D0) (zq33.K24 N Kn12) = zq33.d1 N v0 v1 ((fun w0 w1 => Kn12 (mkSt [(0, .one (.int .i64 w0)), (1, .one (.int .i64 w1))] [] : St D0))) := by
  exact (zq33.o1.run N Kn12 v0 v1).trans rfl
def zq33.K12 (N : Nat) : Ex → St D0 → Option zq33.R := (blockK 0 (onN (fun s => zq33.C.tidy 6 s (fun s' => runC zq33.C (zq33.O N) N zq33.c7 7 s' zq33.K0)) zq33.K0))
def zq33.l1 (N : Nat) : Nat → Int → Int → Option zq33.R
  | 0, _, _ => none
  | n + 1, v0, v1 => zq33.d1 N v0 v1 ((fun w0 w1 => zq33.l1 N n w0 w1))
theorem zq33.loop12 (N : Nat) : ∀ n, (∀ (v0 : Int) (v1 : Int), iter (loopF zq33.C (zq33.O N) N zq33.c24 12) n (mkSt [(0, .one (.int .i64 v0)), (1, .one (.int .i64 v1))] [] : St D0) (zq33.K12 N) = zq33.l1 N n v0 v1)
  | 0 => (fun v0 v1 => rfl)
  | n + 1 => (fun v0 v1 => (zq33.d1.run N (fun s => iter (loopF zq33.C (zq33.O N) N zq33.c24 12) n s (zq33.K12 N)) v0 v1).trans (show _ = zq33.d1 N v0 v1 ((fun w0 w1 => zq33.l1 N n w0 w1)) from (congr rfl (funext fun w0 => funext fun w1 => (zq33.loop12 N n) w0 w1))))
def zq33.o0 (N : Nat) (a0 : Int) (a1 : Int) (c1 : Int → Int → Option zq33.R) : Option zq33.R :=
 c1 a0 a1
theorem zq33.o0.run (N : Nat) (H24 : Code) (a0 : Int) (a1 : Int) : runC zq33.C (zq33.O N) N (.seq zq33.c2 (.seq (.block 0 (.loop H24)) zq33.c7)) 1 (st0 [.one (.int .i64 a0), .one (.int .i64 a1)] [] : St D0) zq33.K0 = zq33.o0 N a0 a1 ((fun w0 w1 => iter (loopF zq33.C (zq33.O N) N H24 12) N (mkSt [(0, .one (.int .i64 w0)), (1, .one (.int .i64 w1))] [] : St D0) (blockK 0 (onN (fun s => zq33.C.tidy 6 s (fun s' => runC zq33.C (zq33.O N) N zq33.c7 7 s' zq33.K0)) zq33.K0)))) := by kernel_rfl
def zq33.g (N : Nat) (a0 : Int) (a1 : Int) : Option zq33.R := zq33.o0 N a0 a1 ((fun w0 w1 => zq33.l1 N N w0 w1))
theorem zq33.c1_0 : zq33.c1 = (.seq zq33.c2 (.seq (.block 0 (.loop zq33.c24)) zq33.c7)) := by kernel_rfl
theorem zq33.g.run (N : Nat) (a0 : Int) (a1 : Int) : runC zq33.C (zq33.O N) N zq33.c1 1 (st0 [.one (.int .i64 a0), .one (.int .i64 a1)] [] : St D0) zq33.K0 = zq33.g N a0 a1 := by
  rw [zq33.c1_0]; unfold zq33.g; exact (zq33.o0.run N zq33.c24 a0 a1).trans (congr rfl (funext fun w0 => funext fun w1 => (zq33.loop12 N N) w0 w1))
theorem zq33.good (N : Nat) (a0 : Int) (a1 : Int) (r : zq33.R) (h : zq33.g N a0 a1 = some r) : Go.PM.Good Tryz.prog T0 109 [.one (.int .i64 a0), .one (.int .i64 a1)] [] (zq33.sig.ret r) (zq33.sig.bs r) :=
  good_fn tabOk0 mixed0 zq33.sig (zq33.E N) Tryz.func109 (by kernel_rfl) (by kernel_rfl) 83 0 0 [(12, [0, 1], [])] 6944 false [] [(false, [.any])] (by kernel_rfl) rfl rfl ((zq33.g.run N a0 a1).trans h)
def zq33.ent (N : Nat) : Ent Tryz.prog T0 := mkEnt 109 [(false, [.any]), (false, [.any])] zq33.sig (fun t => zq33.g N t.1 t.2) (fun t r h => zq33.good N t.1 t.2 r h)
/-! ### zq41 -/
abbrev zq41.R : Type := Int × Int
abbrev zq41.sig : Sig := ⟨[(false, 1), (false, 1)], [], [.int .i64, .int .i64], [(true, 2)], [], [.int .i64, .int .i64]⟩
def zq41.C : Cfg D0 := ⟨Tryz.prog, T0, 211, 0, 24, 0, [], 3589632, false, []⟩
def zq41.E (N : Nat) : List (Ent Tryz.prog T0) := [zq32.ent N, zq33.ent N]
def zq41.O (N : Nat) : Orc D0 zq41.R := orcOf (zq41.E N)
def zq41.K0 : Ex → St D0 → Option zq41.R := exitK zq41.C Tryz.f71.results.toList [(true, [.any, .any])] (decOut zq41.sig)
def zq41.c1 : Code := codeAt (Tryz.f71.body.getD .skip) []
def zq41.o0 (N : Nat) (a0 : Int) (a1 : Int) : Option zq41.R :=
 (zq32.g N a0 a1).bind fun r1 =>
 (zq33.g N r1.2 a1).bind fun r2 =>
 bif (r2 == 0) then
  none
 else
 bif (r2 == 0) then
  none
 else
 some ((w64 (Int.tdiv r1.2 r2)), (w64 (Int.tdiv a1 r2)))
theorem zq41.o0.run (N : Nat) (a0 : Int) (a1 : Int) : runC zq41.C (zq41.O N) N zq41.c1 1 (st0 [.one (.int .i64 a0), .one (.int .i64 a1)] [] : St D0) zq41.K0 = zq41.o0 N a0 a1 := by kernel_rfl
def zq41.g (N : Nat) (a0 : Int) (a1 : Int) : Option zq41.R := zq41.o0 N a0 a1
theorem zq41.g.run (N : Nat) (a0 : Int) (a1 : Int) : runC zq41.C (zq41.O N) N zq41.c1 1 (st0 [.one (.int .i64 a0), .one (.int .i64 a1)] [] : St D0) zq41.K0 = zq41.g N a0 a1 := by
  exact (zq41.o0.run N a0 a1).trans rfl
theorem zq41.good (N : Nat) (a0 : Int) (a1 : Int) (r : zq41.R) (h : zq41.g N a0 a1 = some r) : Go.PM.Good Tryz.prog T0 71 [.one (.int .i64 a0), .one (.int .i64 a1)] [] (zq41.sig.ret r) (zq41.sig.bs r) :=
  good_fn tabOk0 mixed0 zq41.sig (zq41.E N) Tryz.func71 (by kernel_rfl) (by kernel_rfl) 211 0 0 [] 3589632 false [] [(true, [.any, .any])] (by kernel_rfl) rfl rfl ((zq41.g.run N a0 a1).trans h)
def zq41.ent (N : Nat) : Ent Tryz.prog T0 := mkEnt 71 [(false, [.any]), (false, [.any])] zq41.sig (fun t => zq41.g N t.1 t.2) (fun t r h => zq41.good N t.1 t.2 r h)
/-! ### zq28 -/
abbrev zq28.R : Type := Int × Int
abbrev zq28.sig : Sig := ⟨[(true, 2), (false, 1)], [], [.int .i64, .int .i64, .int .i64], [(true, 2)], [], [.int .i64, .int .i64]⟩
def zq28.C : Cfg D0 := ⟨Tryz.prog, T0, 23, 0, 12, 0, [], 128, false, []⟩
def zq28.E (N : Nat) : List (Ent Tryz.prog T0) := [zq41.ent N]
def zq28.O (N : Nat) : Orc D0 zq28.R := orcOf (zq28.E N)
def zq28.K0 : Ex → St D0 → Option zq28.R := exitK zq28.C Tryz.f59.results.toList [(true, [.any, .any])] (decOut zq28.sig)
def zq28.c1 : Code := codeAt (Tryz.f59.body.getD .skip) []
def zq28.o0 (N : Nat) (a0_0 : Int) (a0_1 : Int) (a1 : Int) : Option zq28.R :=
 (zq41.g N (w64 (a0_0 * a1)) a0_1).bind fun r1 =>
 some (r1.1, r1.2)
theorem zq28.o0.run (N : Nat) (a0_0 : Int) (a0_1 : Int) (a1 : Int) : runC zq28.C (zq28.O N) N zq28.c1 1 (st0 [.agg [.int .i64 a0_0, .int .i64 a0_1], .one (.int .i64 a1)] [] : St D0) zq28.K0 = zq28.o0 N a0_0 a0_1 a1 := by kernel_rfl
def zq28.g (N : Nat) (a0_0 : Int) (a0_1 : Int) (a1 : Int) : Option zq28.R := zq28.o0 N a0_0 a0_1 a1
theorem zq28.g.run (N : Nat) (a0_0 : Int) (a0_1 : Int) (a1 : Int) : runC zq28.C (zq28.O N) N zq28.c1 1 (st0 [.agg [.int .i64 a0_0, .int .i64 a0_1], .one (.int .i64 a1)] [] : St D0) zq28.K0 = zq28.g N a0_0 a0_1 a1 := by
  exact (zq28.o0.run N a0_0 a0_1 a1).trans rfl
theorem zq28.good (N : Nat) (a0_0 : Int) (a0_1 : Int) (a1 : Int) (r : zq28.R) (h : zq28.g N a0_0 a0_1 a1 = some r) : Go.PM.Good Tryz.prog T0 59 [.agg [.int .i64 a0_0, .int .i64 a0_1], .one (.int .i64 a1)] [] (zq28.sig.ret r) (zq28.sig.bs r) :=
  good_fn tabOk0 mixed0 zq28.sig (zq28.E N) Tryz.func59 (by kernel_rfl) (by kernel_rfl) 23 0 0 [] 128 false [] [(true, [.any, .any])] (by kernel_rfl) rfl rfl ((zq28.g.run N a0_0 a0_1 a1).trans h)
def zq28.ent (N : Nat) : Ent Tryz.prog T0 := mkEnt 59 [(true, [.any, .any]), (false, [.any])] zq28.sig (fun t => zq28.g N t.1 t.2.1 t.2.2) (fun t r h => zq28.good N t.1 t.2.1 t.2.2 r h)
/-! ### zq7 -/
abbrev zq7.R : Type := Bool
abbrev zq7.sig : Sig := ⟨[(true, 2)], [], [.int .i64, .int .i64], [(false, 1)], [], [.bool]⟩
def zq7.C : Cfg D0 := ⟨Tryz.prog, T0, 7, 0, 22, 0, [], 0, false, []⟩
def zq7.E (N : Nat) : List (Ent Tryz.prog T0) := [zq46.ent N, zq33.ent N]
def zq7.O (N : Nat) : Orc D0 zq7.R := orcOf (zq7.E N)
def zq7.K0 : Ex → St D0 → Option zq7.R := exitK zq7.C Tryz.f103.results.toList [(false, [.any])] (decOut zq7.sig)
def zq7.c1 : Code := codeAt (Tryz.f103.body.getD .skip) []
def zq7.o0 (N : Nat) (a0_0 : Int) (a0_1 : Int) : Option zq7.R :=
 (zq46.g N a0_1 1 1000000).bind fun r1 =>
 bif r1 then
  (zq46.g N a0_0 0 (w64 (a0_1 - 1))).bind fun r2 =>
  bif r2 then
   (zq33.g N a0_0 a0_1).bind fun r3 =>
   some ((r3 == 1))
  else
  some (false)
 else
 some (false)
theorem zq7.o0.run (N : Nat) (a0_0 : Int) (a0_1 : Int) : runC zq7.C (zq7.O N) N zq7.c1 1 (st0 [.agg [.int .i64 a0_0, .int .i64 a0_1]] [] : St D0) zq7.K0 = zq7.o0 N a0_0 a0_1 := by kernel_rfl
def zq7.g (N : Nat) (a0_0 : Int) (a0_1 : Int) : Option zq7.R := zq7.o0 N a0_0 a0_1
theorem zq7.g.run (N : Nat) (a0_0 : Int) (a0_1 : Int) : runC zq7.C (zq7.O N) N zq7.c1 1 (st0 [.agg [.int .i64 a0_0, .int .i64 a0_1]] [] : St D0) zq7.K0 = zq7.g N a0_0 a0_1 := by
  exact (zq7.o0.run N a0_0 a0_1).trans rfl
theorem zq7.good (N : Nat) (a0_0 : Int) (a0_1 : Int) (r : zq7.R) (h : zq7.g N a0_0 a0_1 = some r) : Go.PM.Good Tryz.prog T0 103 [.agg [.int .i64 a0_0, .int .i64 a0_1]] [] (zq7.sig.ret r) (zq7.sig.bs r) :=
  good_fn tabOk0 mixed0 zq7.sig (zq7.E N) Tryz.func103 (by kernel_rfl) (by kernel_rfl) 7 0 0 [] 0 false [] [(false, [.any])] (by kernel_rfl) rfl rfl ((zq7.g.run N a0_0 a0_1).trans h)
def zq7.ent (N : Nat) : Ent Tryz.prog T0 := mkEnt 103 [(true, [.any, .any])] zq7.sig (fun t => zq7.g N t.1 t.2) (fun t r h => zq7.good N t.1 t.2 r h)
/-! ### zq39 -/
abbrev zq39.R : Type := Bool
abbrev zq39.sig : Sig := ⟨[(false, 1), (true, 2)], [], [.int .i64, .int .i64, .int .i64], [(false, 1)], [], [.bool]⟩
def zq39.C : Cfg D0 := ⟨Tryz.prog, T0, 27, 0, 11, 0, [], 32, false, []⟩
def zq39.E (N : Nat) : List (Ent Tryz.prog T0) := [zq36.ent N, zq7.ent N]
def zq39.O (N : Nat) : Orc D0 zq39.R := orcOf (zq39.E N)
def zq39.K0 : Ex → St D0 → Option zq39.R := exitK zq39.C Tryz.f58.results.toList [(false, [.any])] (decOut zq39.sig)
def zq39.c1 : Code := codeAt (Tryz.f58.body.getD .skip) []
def zq39.o0 (N : Nat) (a0 : Int) (a1_0 : Int) (a1_1 : Int) : Option zq39.R :=
 (zq36.g N a0).bind fun r1 =>
 bif r1 then
  (zq7.g N a1_0 a1_1).bind fun r2 =>
  some (r2)
 else
 some (false)
theorem zq39.o0.run (N : Nat) (a0 : Int) (a1_0 : Int) (a1_1 : Int) : runC zq39.C (zq39.O N) N zq39.c1 1 (st0 [.one (.int .i64 a0), .agg [.int .i64 a1_0, .int .i64 a1_1]] [] : St D0) zq39.K0 = zq39.o0 N a0 a1_0 a1_1 := by kernel_rfl
def zq39.g (N : Nat) (a0 : Int) (a1_0 : Int) (a1_1 : Int) : Option zq39.R := zq39.o0 N a0 a1_0 a1_1
theorem zq39.g.run (N : Nat) (a0 : Int) (a1_0 : Int) (a1_1 : Int) : runC zq39.C (zq39.O N) N zq39.c1 1 (st0 [.one (.int .i64 a0), .agg [.int .i64 a1_0, .int .i64 a1_1]] [] : St D0) zq39.K0 = zq39.g N a0 a1_0 a1_1 := by
  exact (zq39.o0.run N a0 a1_0 a1_1).trans rfl
theorem zq39.good (N : Nat) (a0 : Int) (a1_0 : Int) (a1_1 : Int) (r : zq39.R) (h : zq39.g N a0 a1_0 a1_1 = some r) : Go.PM.Good Tryz.prog T0 58 [.one (.int .i64 a0), .agg [.int .i64 a1_0, .int .i64 a1_1]] [] (zq39.sig.ret r) (zq39.sig.bs r) :=
  good_fn tabOk0 mixed0 zq39.sig (zq39.E N) Tryz.func58 (by kernel_rfl) (by kernel_rfl) 27 0 0 [] 32 false [] [(false, [.any])] (by kernel_rfl) rfl rfl ((zq39.g.run N a0 a1_0 a1_1).trans h)
def zq39.ent (N : Nat) : Ent Tryz.prog T0 := mkEnt 58 [(false, [.any]), (true, [.any, .any])] zq39.sig (fun t => zq39.g N t.1 t.2.1 t.2.2) (fun t r h => zq39.good N t.1 t.2.1 t.2.2 r h)
/-! ### zq88 -/
abbrev zq88.R : Type := Int
abbrev zq88.sig : Sig := ⟨[(false, 1), (false, 1)], [], [.int .i64, .int .i64], [(false, 1)], [], [.int .i64]⟩
def zq88.C : Cfg D0 := ⟨Tryz.prog, T0, 83, 0, 12, 0, [(12, [0, 1], [])], 800, false, []⟩
def zq88.E (N : Nat) : List (Ent Tryz.prog T0) := []
def zq88.O (N : Nat) : Orc D0 zq88.R := orcOf (zq88.E N)
def zq88.K0 : Ex → St D0 → Option zq88.R := exitK zq88.C Tryz.f107.results.toList [(false, [.any])] (decOut zq88.sig)
def zq88.c1 : Code := codeAt (Tryz.f107.body.getD .skip) []
def zq88.c2 : Code := codeAt (Tryz.f107.body.getD .skip) [false]
def zq88.c7 : Code := codeAt (Tryz.f107.body.getD .skip) [true, true]
def zq88.c24 : Code := codeAt (Tryz.f107.body.getD .skip) [true, false, false, false]
def zq88.K24 (N : Nat) (Kn12 : St D0 → Option zq88.R) : Ex → St D0 → Option zq88.R := ((fun up => (onN (fun s => zq88.C.tidy 12 s ((onN Kn12 up) .normal)) (onN Kn12 up))) (blockK 0 (onN (fun s => zq88.C.tidy 6 s (fun s' => runC zq88.C (zq88.O N) N zq88.c7 7 s' zq88.K0)) zq88.K0)))
def zq88.o1 (N : Nat) (v0 : Int) (v1 : Int) (c1 : Int → Int → Option zq88.R) : Option zq88.R :=
 bif (decide (v1 > 0)) then
  bif (v1 == 0) then
   none
  else
  c1 v1 (Int.tmod v0 v1)
 else
 some (v0)
theorem zq88.o1.run (N : Nat) (Kn12 : St D0 → Option zq88.R) (v0 : Int) (v1 : Int) : runC zq88.C (zq88.O N) N zq88.c24 24 (mkSt [(0, .one (.int .i64 v0)), (1, .one (.int .i64 v1))] [] : St D0) ((fun up => (onN (fun s => zq88.C.tidy 12 s ((onN Kn12 up) .normal)) (onN Kn12 up))) (blockK 0 (onN (fun s => zq88.C.tidy 6 s (fun s' => runC zq88.C (zq88.O N) N zq88.c7 7 s' zq88.K0)) zq88.K0))) = zq88.o1 N v0 v1 ((fun w0 w1 => Kn12 (mkSt [(0, .one (.int .i64 w0)), (1, .one (.int .i64 w1))] [] : St D0))) := by kernel_rfl
def zq88.d1 (N : Nat) (v0 : Int) (v1 : Int) (c1 : Int → Int → Option zq88.R) : Option zq88.R := zq88.o1 N v0 v1 c1
theorem zq88.d1.run (N : Nat) (Kn12 : St D0 → Option zq88.R) (v0 : Int) (v1 : Int) : runC zq88.C (zq88.O N) N zq88.c24 24 (mkSt [(0, .one (.int .i64 v0)), (1, .one (.int .i64 v1))] [] : St D0) (zq88.K24 N Kn12) = zq88.d1 N v0 v1 ((fun w0 w1 => Kn12 (mkSt [(0, .one (.int .i64 w0)), (1, .one (.int .i64 w1))] [] : St D0))) := by
  exact (zq88.o1.run N Kn12 v0 v1).trans rfl
def zq88.K12 (N : Nat) : Ex → St D0 → Option zq88.R := (blockK 0 (onN (fun s => zq88.C.tidy 6 s (fun s' => runC zq88.C (zq88.O N) N zq88.c7 7 s' zq88.K0)) zq88.K0))
def zq88.l1 (N : Nat) : Nat → Int → Int → Option zq88.R
  | 0, _, _ => none
  | n + 1, v0, v1 => zq88.d1 N v0 v1 ((fun w0 w1 => zq88.l1 N n w0 w1))
theorem zq88.loop12 (N : Nat) : ∀ n, (∀ (v0 : Int) (v1 : Int), iter (loopF zq88.C (zq88.O N) N zq88.c24 12) n (mkSt [(0, .one (.int .i64 v0)), (1, .one (.int .i64 v1))] [] : St D0) (zq88.K12 N) = zq88.l1 N n v0 v1)
  | 0 => (fun v0 v1 => rfl)
  | n + 1 => (fun v0 v1 => (zq88.d1.run N (fun s => iter (loopF zq88.C (zq88.O N) N zq88.c24 12) n s (zq88.K12 N)) v0 v1).trans (show _ = zq88.d1 N v0 v1 ((fun w0 w1 => zq88.l1 N n w0 w1)) from (congr rfl (funext fun w0 => funext fun w1 => (zq88.loop12 N n) w0 w1))))
def zq88.o0 (N : Nat) (a0 : Int) (a1 : Int) (c1 : Int → Int → Option zq88.R) : Option zq88.R :=
 c1 a0 a1
theorem zq88.o0.run (N : Nat) (H24 : Code) (a0 : Int) (a1 : Int) : runC zq88.C (zq88.O N) N (.seq zq88.c2 (.seq (.block 0 (.loop H24)) zq88.c7)) 1 (st0 [.one (.int .i64 a0), .one (.int .i64 a1)] [] : St D0) zq88.K0 = zq88.o0 N a0 a1 ((fun w0 w1 => iter (loopF zq88.C (zq88.O N) N H24 12) N (mkSt [(0, .one (.int .i64 w0)), (1, .one (.int .i64 w1))] [] : St D0) (blockK 0 (onN (fun s => zq88.C.tidy 6 s (fun s' => runC zq88.C (zq88.O N) N zq88.c7 7 s' zq88.K0)) zq88.K0)))) := by kernel_rfl
def zq88.g (N : Nat) (a0 : Int) (a1 : Int) : Option zq88.R := zq88.o0 N a0 a1 ((fun w0 w1 => zq88.l1 N N w0 w1))
theorem zq88.c1_0 : zq88.c1 = (.seq zq88.c2 (.seq (.block 0 (.loop zq88.c24)) zq88.c7)) := by kernel_rfl
theorem zq88.g.run (N : Nat) (a0 : Int) (a1 : Int) : runC zq88.C (zq88.O N) N zq88.c1 1 (st0 [.one (.int .i64 a0), .one (.int .i64 a1)] [] : St D0) zq88.K0 = zq88.g N a0 a1 := by
  rw [zq88.c1_0]; unfold zq88.g; exact (zq88.o0.run N zq88.c24 a0 a1).trans (congr rfl (funext fun w0 => funext fun w1 => (zq88.loop12 N N) w0 w1))
theorem zq88.good (N : Nat) (a0 : Int) (a1 : Int) (r : zq88.R) (h : zq88.g N a0 a1 = some r) : Go.PM.Good Tryz.prog T0 107 [.one (.int .i64 a0), .one (.int .i64 a1)] [] (zq88.sig.ret r) (zq88.sig.bs r) :=
  good_fn tabOk0 mixed0 zq88.sig (zq88.E N) Tryz.func107 (by kernel_rfl) (by kernel_rfl) 83 0 0 [(12, [0, 1], [])] 800 false [] [(false, [.any])] (by kernel_rfl) rfl rfl ((zq88.g.run N a0 a1).trans h)
def zq88.ent (N : Nat) : Ent Tryz.prog T0 := mkEnt 107 [(false, [.any]), (false, [.any])] zq88.sig (fun t => zq88.g N t.1 t.2) (fun t r h => zq88.good N t.1 t.2 r h)
/-! ### zq92 -/
abbrev zq92.R : Type := Int × Int × Bool
abbrev zq92.sig : Sig := ⟨[(false, 1), (false, 1)], [], [.int .i64, .int .i64], [(true, 2), (false, 1)], [], [.int .i64, .int .i64, .bool]⟩
def zq92.C : Cfg D0 := ⟨Tryz.prog, T0, 134217971, 0, 30, 0, [], 7187200, false, []⟩
def zq92.E (N : Nat) : List (Ent Tryz.prog T0) := [zq88.ent N]
def zq92.O (N : Nat) : Orc D0 zq92.R := orcOf (zq92.E N)
def zq92.K0 : Ex → St D0 → Option zq92.R := exitK zq92.C Tryz.f69.results.toList [(true, [.any, .any]), (false, [.any])] (decOut zq92.sig)
def zq92.c1 : Code := codeAt (Tryz.f69.body.getD .skip) []
def zq92.o0 (N : Nat) (a0 : Int) (a1 : Int) : Option zq92.R :=
 bif (a1 == 0) then
  none
 else
 bif (a1 == 0) then
  none
 else
 (zq88.g N (Int.tmod (w64 ((Int.tmod a0 a1) + a1)) a1) a1).bind fun r1 =>
 bif (r1 == 0) then
  none
 else
 bif (r1 == 0) then
  none
 else
 bif (decide ((w64 (Int.tdiv a1 r1)) > 1000000)) then
  some (0, 0, false)
 else
 some ((w64 (Int.tdiv (Int.tmod (w64 ((Int.tmod a0 a1) + a1)) a1) r1)), (w64 (Int.tdiv a1 r1)), true)
theorem zq92.o0.run (N : Nat) (a0 : Int) (a1 : Int) : runC zq92.C (zq92.O N) N zq92.c1 1 (st0 [.one (.int .i64 a0), .one (.int .i64 a1)] [] : St D0) zq92.K0 = zq92.o0 N a0 a1 := by kernel_rfl
def zq92.g (N : Nat) (a0 : Int) (a1 : Int) : Option zq92.R := zq92.o0 N a0 a1
theorem zq92.g.run (N : Nat) (a0 : Int) (a1 : Int) : runC zq92.C (zq92.O N) N zq92.c1 1 (st0 [.one (.int .i64 a0), .one (.int .i64 a1)] [] : St D0) zq92.K0 = zq92.g N a0 a1 := by
  exact (zq92.o0.run N a0 a1).trans rfl
theorem zq92.good (N : Nat) (a0 : Int) (a1 : Int) (r : zq92.R) (h : zq92.g N a0 a1 = some r) : Go.PM.Good Tryz.prog T0 69 [.one (.int .i64 a0), .one (.int .i64 a1)] [] (zq92.sig.ret r) (zq92.sig.bs r) :=
  good_fn tabOk0 mixed0 zq92.sig (zq92.E N) Tryz.func69 (by kernel_rfl) (by kernel_rfl) 134217971 0 0 [] 7187200 false [] [(true, [.any, .any]), (false, [.any])] (by kernel_rfl) rfl rfl ((zq92.g.run N a0 a1).trans h)
def zq92.ent (N : Nat) : Ent Tryz.prog T0 := mkEnt 69 [(false, [.any]), (false, [.any])] zq92.sig (fun t => zq92.g N t.1 t.2) (fun t r h => zq92.good N t.1 t.2 r h)
/-! ### zq97 -/
abbrev zq97.R : Type := Int × Int
abbrev zq97.sig : Sig := ⟨[(true, 2), (false, 1)], [], [.int .i64, .int .i64, .int .i64], [(true, 2)], [], [.int .i64, .int .i64]⟩
def zq97.C : Cfg D0 := ⟨Tryz.prog, T0, 55, 0, 18, 0, [], 1024, false, []⟩
def zq97.E (N : Nat) : List (Ent Tryz.prog T0) := [zq92.ent N]
def zq97.O (N : Nat) : Orc D0 zq97.R := orcOf (zq97.E N)
def zq97.K0 : Ex → St D0 → Option zq97.R := exitK zq97.C Tryz.f61.results.toList [(true, [.any, .any])] (decOut zq97.sig)
def zq97.c1 : Code := codeAt (Tryz.f61.body.getD .skip) []
def zq97.o0 (N : Nat) (a0_0 : Int) (a0_1 : Int) (a1 : Int) : Option zq97.R :=
 (zq92.g N (w64 (a0_0 * a1)) a0_1).bind fun r1 =>
 some (r1.1, r1.2.1)
theorem zq97.o0.run (N : Nat) (a0_0 : Int) (a0_1 : Int) (a1 : Int) : runC zq97.C (zq97.O N) N zq97.c1 1 (st0 [.agg [.int .i64 a0_0, .int .i64 a0_1], .one (.int .i64 a1)] [] : St D0) zq97.K0 = zq97.o0 N a0_0 a0_1 a1 := by kernel_rfl
def zq97.g (N : Nat) (a0_0 : Int) (a0_1 : Int) (a1 : Int) : Option zq97.R := zq97.o0 N a0_0 a0_1 a1
theorem zq97.g.run (N : Nat) (a0_0 : Int) (a0_1 : Int) (a1 : Int) : runC zq97.C (zq97.O N) N zq97.c1 1 (st0 [.agg [.int .i64 a0_0, .int .i64 a0_1], .one (.int .i64 a1)] [] : St D0) zq97.K0 = zq97.g N a0_0 a0_1 a1 := by
  exact (zq97.o0.run N a0_0 a0_1 a1).trans rfl
theorem zq97.good (N : Nat) (a0_0 : Int) (a0_1 : Int) (a1 : Int) (r : zq97.R) (h : zq97.g N a0_0 a0_1 a1 = some r) : Go.PM.Good Tryz.prog T0 61 [.agg [.int .i64 a0_0, .int .i64 a0_1], .one (.int .i64 a1)] [] (zq97.sig.ret r) (zq97.sig.bs r) :=
  good_fn tabOk0 mixed0 zq97.sig (zq97.E N) Tryz.func61 (by kernel_rfl) (by kernel_rfl) 55 0 0 [] 1024 false [] [(true, [.any, .any])] (by kernel_rfl) rfl rfl ((zq97.g.run N a0_0 a0_1 a1).trans h)
def zq97.ent (N : Nat) : Ent Tryz.prog T0 := mkEnt 61 [(true, [.any, .any]), (false, [.any])] zq97.sig (fun t => zq97.g N t.1 t.2.1 t.2.2) (fun t r h => zq97.good N t.1 t.2.1 t.2.2 r h)
/-! ### zq90 -/
abbrev zq90.R : Type := Bool
abbrev zq90.sig : Sig := ⟨[(true, 2)], [], [.int .i64, .int .i64], [(false, 1)], [], [.bool]⟩
def zq90.C : Cfg D0 := ⟨Tryz.prog, T0, 7, 0, 22, 0, [], 0, false, []⟩
def zq90.E (N : Nat) : List (Ent Tryz.prog T0) := [zq110.ent N, zq88.ent N]
def zq90.O (N : Nat) : Orc D0 zq90.R := orcOf (zq90.E N)
def zq90.K0 : Ex → St D0 → Option zq90.R := exitK zq90.C Tryz.f104.results.toList [(false, [.any])] (decOut zq90.sig)
def zq90.c1 : Code := codeAt (Tryz.f104.body.getD .skip) []
def zq90.o0 (N : Nat) (a0_0 : Int) (a0_1 : Int) : Option zq90.R :=
 (zq110.g N a0_1 1 1000000).bind fun r1 =>
 bif r1 then
  (zq110.g N a0_0 0 (w64 (a0_1 - 1))).bind fun r2 =>
  bif r2 then
   (zq88.g N a0_0 a0_1).bind fun r3 =>
   some ((r3 == 1))
  else
  some (false)
 else
 some (false)
theorem zq90.o0.run (N : Nat) (a0_0 : Int) (a0_1 : Int) : runC zq90.C (zq90.O N) N zq90.c1 1 (st0 [.agg [.int .i64 a0_0, .int .i64 a0_1]] [] : St D0) zq90.K0 = zq90.o0 N a0_0 a0_1 := by kernel_rfl
def zq90.g (N : Nat) (a0_0 : Int) (a0_1 : Int) : Option zq90.R := zq90.o0 N a0_0 a0_1
theorem zq90.g.run (N : Nat) (a0_0 : Int) (a0_1 : Int) : runC zq90.C (zq90.O N) N zq90.c1 1 (st0 [.agg [.int .i64 a0_0, .int .i64 a0_1]] [] : St D0) zq90.K0 = zq90.g N a0_0 a0_1 := by
  exact (zq90.o0.run N a0_0 a0_1).trans rfl
theorem zq90.good (N : Nat) (a0_0 : Int) (a0_1 : Int) (r : zq90.R) (h : zq90.g N a0_0 a0_1 = some r) : Go.PM.Good Tryz.prog T0 104 [.agg [.int .i64 a0_0, .int .i64 a0_1]] [] (zq90.sig.ret r) (zq90.sig.bs r) :=
  good_fn tabOk0 mixed0 zq90.sig (zq90.E N) Tryz.func104 (by kernel_rfl) (by kernel_rfl) 7 0 0 [] 0 false [] [(false, [.any])] (by kernel_rfl) rfl rfl ((zq90.g.run N a0_0 a0_1).trans h)
def zq90.ent (N : Nat) : Ent Tryz.prog T0 := mkEnt 104 [(true, [.any, .any])] zq90.sig (fun t => zq90.g N t.1 t.2) (fun t r h => zq90.good N t.1 t.2 r h)
/-! ### zq87 -/
abbrev zq87.R : Type := Bool
abbrev zq87.sig : Sig := ⟨[(false, 1), (true, 2)], [], [.int .i64, .int .i64, .int .i64], [(false, 1)], [], [.bool]⟩
def zq87.C : Cfg D0 := ⟨Tryz.prog, T0, 27, 0, 11, 0, [], 32, false, []⟩
def zq87.E (N : Nat) : List (Ent Tryz.prog T0) := [zq91.ent N, zq90.ent N]
def zq87.O (N : Nat) : Orc D0 zq87.R := orcOf (zq87.E N)
def zq87.K0 : Ex → St D0 → Option zq87.R := exitK zq87.C Tryz.f60.results.toList [(false, [.any])] (decOut zq87.sig)
def zq87.c1 : Code := codeAt (Tryz.f60.body.getD .skip) []
def zq87.o0 (N : Nat) (a0 : Int) (a1_0 : Int) (a1_1 : Int) : Option zq87.R :=
 (zq91.g N a0).bind fun r1 =>
 bif r1 then
  (zq90.g N a1_0 a1_1).bind fun r2 =>
  some (r2)
 else
 some (false)
theorem zq87.o0.run (N : Nat) (a0 : Int) (a1_0 : Int) (a1_1 : Int) : runC zq87.C (zq87.O N) N zq87.c1 1 (st0 [.one (.int .i64 a0), .agg [.int .i64 a1_0, .int .i64 a1_1]] [] : St D0) zq87.K0 = zq87.o0 N a0 a1_0 a1_1 := by kernel_rfl
def zq87.g (N : Nat) (a0 : Int) (a1_0 : Int) (a1_1 : Int) : Option zq87.R := zq87.o0 N a0 a1_0 a1_1
theorem zq87.g.run (N : Nat) (a0 : Int) (a1_0 : Int) (a1_1 : Int) : runC zq87.C (zq87.O N) N zq87.c1 1 (st0 [.one (.int .i64 a0), .agg [.int .i64 a1_0, .int .i64 a1_1]] [] : St D0) zq87.K0 = zq87.g N a0 a1_0 a1_1 := by
  exact (zq87.o0.run N a0 a1_0 a1_1).trans rfl
theorem zq87.good (N : Nat) (a0 : Int) (a1_0 : Int) (a1_1 : Int) (r : zq87.R) (h : zq87.g N a0 a1_0 a1_1 = some r) : Go.PM.Good Tryz.prog T0 60 [.one (.int .i64 a0), .agg [.int .i64 a1_0, .int .i64 a1_1]] [] (zq87.sig.ret r) (zq87.sig.bs r) :=
  good_fn tabOk0 mixed0 zq87.sig (zq87.E N) Tryz.func60 (by kernel_rfl) (by kernel_rfl) 27 0 0 [] 32 false [] [(false, [.any])] (by kernel_rfl) rfl rfl ((zq87.g.run N a0 a1_0 a1_1).trans h)
def zq87.ent (N : Nat) : Ent Tryz.prog T0 := mkEnt 60 [(false, [.any]), (true, [.any, .any])] zq87.sig (fun t => zq87.g N t.1 t.2.1 t.2.2) (fun t r h => zq87.good N t.1 t.2.1 t.2.2 r h)
/-! ### zq12 -/
abbrev zq12.R : Type := Int × Int × Bool
abbrev zq12.sig : Sig := ⟨[(false, 1), (true, 2)], [], [.int .i64, .int .i64, .int .i64], [(true, 2), (false, 1)], [], [.int .i64, .int .i64, .bool]⟩
def zq12.C : Cfg D0 := ⟨Tryz.prog, T0, 571, 0, 14, 0, [], 4160, false, []⟩
def zq12.E (N : Nat) : List (Ent Tryz.prog T0) := [zq39.ent N, zq28.ent N]
def zq12.O (N : Nat) : Orc D0 zq12.R := orcOf (zq12.E N)
def zq12.K0 : Ex → St D0 → Option zq12.R := exitK zq12.C Tryz.f7.results.toList [(true, [.any, .any]), (false, [.any])] (decOut zq12.sig)
def zq12.c1 : Code := codeAt (Tryz.f7.body.getD .skip) []
def zq12.o0 (N : Nat) (a0 : Int) (a1_0 : Int) (a1_1 : Int) : Option zq12.R :=
 (zq39.g N a0 a1_0 a1_1).bind fun r1 =>
 bif (!r1) then
  some (0, 0, false)
 else
 (zq28.g N a1_0 a1_1 a0).bind fun r2 =>
 some (r2.1, r2.2, true)
theorem zq12.o0.run (N : Nat) (a0 : Int) (a1_0 : Int) (a1_1 : Int) : runC zq12.C (zq12.O N) N zq12.c1 1 (st0 [.one (.int .i64 a0), .agg [.int .i64 a1_0, .int .i64 a1_1]] [] : St D0) zq12.K0 = zq12.o0 N a0 a1_0 a1_1 := by kernel_rfl
def zq12.g (N : Nat) (a0 : Int) (a1_0 : Int) (a1_1 : Int) : Option zq12.R := zq12.o0 N a0 a1_0 a1_1
theorem zq12.g.run (N : Nat) (a0 : Int) (a1_0 : Int) (a1_1 : Int) : runC zq12.C (zq12.O N) N zq12.c1 1 (st0 [.one (.int .i64 a0), .agg [.int .i64 a1_0, .int .i64 a1_1]] [] : St D0) zq12.K0 = zq12.g N a0 a1_0 a1_1 := by
  exact (zq12.o0.run N a0 a1_0 a1_1).trans rfl
theorem zq12.good (N : Nat) (a0 : Int) (a1_0 : Int) (a1_1 : Int) (r : zq12.R) (h : zq12.g N a0 a1_0 a1_1 = some r) : Go.PM.Good Tryz.prog T0 7 [.one (.int .i64 a0), .agg [.int .i64 a1_0, .int .i64 a1_1]] [] (zq12.sig.ret r) (zq12.sig.bs r) :=
  good_fn tabOk0 mixed0 zq12.sig (zq12.E N) Tryz.func7 (by kernel_rfl) (by kernel_rfl) 571 0 0 [] 4160 false [] [(true, [.any, .any]), (false, [.any])] (by kernel_rfl) rfl rfl ((zq12.g.run N a0 a1_0 a1_1).trans h)
def zq12.ent (N : Nat) : Ent Tryz.prog T0 := mkEnt 7 [(false, [.any]), (true, [.any, .any])] zq12.sig (fun t => zq12.g N t.1 t.2.1 t.2.2) (fun t r h => zq12.good N t.1 t.2.1 t.2.2 r h)
/-! ### zq68 -/
abbrev zq68.R : Type := Int × Int × Bool
abbrev zq68.sig : Sig := ⟨[(false, 1), (true, 2)], [], [.int .i64, .int .i64, .int .i64], [(true, 2), (false, 1)], [], [.int .i64, .int .i64, .bool]⟩
def zq68.C : Cfg D0 := ⟨Tryz.prog, T0, 571, 0, 14, 0, [], 4160, false, []⟩
def zq68.E (N : Nat) : List (Ent Tryz.prog T0) := [zq87.ent N, zq97.ent N]
def zq68.O (N : Nat) : Orc D0 zq68.R := orcOf (zq68.E N)
def zq68.K0 : Ex → St D0 → Option zq68.R := exitK zq68.C Tryz.f8.results.toList [(true, [.any, .any]), (false, [.any])] (decOut zq68.sig)
def zq68.c1 : Code := codeAt (Tryz.f8.body.getD .skip) []
def zq68.o0 (N : Nat) (a0 : Int) (a1_0 : Int) (a1_1 : Int) : Option zq68.R :=
 (zq87.g N a0 a1_0 a1_1).bind fun r1 =>
 bif (!r1) then
  some (0, 0, false)
 else
 (zq97.g N a1_0 a1_1 a0).bind fun r2 =>
 some (r2.1, r2.2, true)
theorem zq68.o0.run (N : Nat) (a0 : Int) (a1_0 : Int) (a1_1 : Int) : runC zq68.C (zq68.O N) N zq68.c1 1 (st0 [.one (.int .i64 a0), .agg [.int .i64 a1_0, .int .i64 a1_1]] [] : St D0) zq68.K0 = zq68.o0 N a0 a1_0 a1_1 := by kernel_rfl
def zq68.g (N : Nat) (a0 : Int) (a1_0 : Int) (a1_1 : Int) : Option zq68.R := zq68.o0 N a0 a1_0 a1_1
theorem zq68.g.run (N : Nat) (a0 : Int) (a1_0 : Int) (a1_1 : Int) : runC zq68.C (zq68.O N) N zq68.c1 1 (st0 [.one (.int .i64 a0), .agg [.int .i64 a1_0, .int .i64 a1_1]] [] : St D0) zq68.K0 = zq68.g N a0 a1_0 a1_1 := by
  exact (zq68.o0.run N a0 a1_0 a1_1).trans rfl
theorem zq68.good (N : Nat) (a0 : Int) (a1_0 : Int) (a1_1 : Int) (r : zq68.R) (h : zq68.g N a0 a1_0 a1_1 = some r) : Go.PM.Good Tryz.prog T0 8 [.one (.int .i64 a0), .agg [.int .i64 a1_0, .int .i64 a1_1]] [] (zq68.sig.ret r) (zq68.sig.bs r) :=
  good_fn tabOk0 mixed0 zq68.sig (zq68.E N) Tryz.func8 (by kernel_rfl) (by kernel_rfl) 571 0 0 [] 4160 false [] [(true, [.any, .any]), (false, [.any])] (by kernel_rfl) rfl rfl ((zq68.g.run N a0 a1_0 a1_1).trans h)
def zq68.ent (N : Nat) : Ent Tryz.prog T0 := mkEnt 8 [(false, [.any]), (true, [.any, .any])] zq68.sig (fun t => zq68.g N t.1 t.2.1 t.2.2) (fun t r h => zq68.good N t.1 t.2.1 t.2.2 r h)
/-! ### zq3 -/
abbrev zq3.R : Type := Int × Int × Bool
abbrev zq3.sig : Sig := ⟨[(false, 1), (true, 2)], [], [.int .i64, .int .i64, .int .i64], [(true, 2), (false, 1)], [], [.int .i64, .int .i64, .bool]⟩
def zq3.C : Cfg D0 := ⟨Tryz.prog, T0, 571, 0, 15, 0, [], 4160, false, []⟩
def zq3.E (N : Nat) : List (Ent Tryz.prog T0) := [zq39.ent N, zq28.ent N]
def zq3.O (N : Nat) : Orc D0 zq3.R := orcOf (zq3.E N)
def zq3.K0 : Ex → St D0 → Option zq3.R := exitK zq3.C Tryz.f9.results.toList [(true, [.any, .any]), (false, [.any])] (decOut zq3.sig)
def zq3.c1 : Code := codeAt (Tryz.f9.body.getD .skip) []
def zq3.o0 (N : Nat) (a0 : Int) (a1_0 : Int) (a1_1 : Int) : Option zq3.R :=
 (zq39.g N a0 a1_0 a1_1).bind fun r1 =>
 bif (!r1) then
  some (0, 0, false)
 else
 (zq28.g N a1_0 a1_1 (w64 (a0 - 1))).bind fun r2 =>
 some (r2.1, r2.2, true)
theorem zq3.o0.run (N : Nat) (a0 : Int) (a1_0 : Int) (a1_1 : Int) : runC zq3.C (zq3.O N) N zq3.c1 1 (st0 [.one (.int .i64 a0), .agg [.int .i64 a1_0, .int .i64 a1_1]] [] : St D0) zq3.K0 = zq3.o0 N a0 a1_0 a1_1 := by kernel_rfl
def zq3.g (N : Nat) (a0 : Int) (a1_0 : Int) (a1_1 : Int) : Option zq3.R := zq3.o0 N a0 a1_0 a1_1
theorem zq3.g.run (N : Nat) (a0 : Int) (a1_0 : Int) (a1_1 : Int) : runC zq3.C (zq3.O N) N zq3.c1 1 (st0 [.one (.int .i64 a0), .agg [.int .i64 a1_0, .int .i64 a1_1]] [] : St D0) zq3.K0 = zq3.g N a0 a1_0 a1_1 := by
  exact (zq3.o0.run N a0 a1_0 a1_1).trans rfl
theorem zq3.good (N : Nat) (a0 : Int) (a1_0 : Int) (a1_1 : Int) (r : zq3.R) (h : zq3.g N a0 a1_0 a1_1 = some r) : Go.PM.Good Tryz.prog T0 9 [.one (.int .i64 a0), .agg [.int .i64 a1_0, .int .i64 a1_1]] [] (zq3.sig.ret r) (zq3.sig.bs r) :=
  good_fn tabOk0 mixed0 zq3.sig (zq3.E N) Tryz.func9 (by kernel_rfl) (by kernel_rfl) 571 0 0 [] 4160 false [] [(true, [.any, .any]), (false, [.any])] (by kernel_rfl) rfl rfl ((zq3.g.run N a0 a1_0 a1_1).trans h)
def zq3.ent (N : Nat) : Ent Tryz.prog T0 := mkEnt 9 [(false, [.any]), (true, [.any, .any])] zq3.sig (fun t => zq3.g N t.1 t.2.1 t.2.2) (fun t r h => zq3.good N t.1 t.2.1 t.2.2 r h)
/-! ### zq56 -/
abbrev zq56.R : Type := Int × Int × Bool
abbrev zq56.sig : Sig := ⟨[(false, 1), (true, 2)], [], [.int .i64, .int .i64, .int .i64], [(true, 2), (false, 1)], [], [.int .i64, .int .i64, .bool]⟩
def zq56.C : Cfg D0 := ⟨Tryz.prog, T0, 571, 0, 15, 0, [], 4160, false, []⟩
def zq56.E (N : Nat) : List (Ent Tryz.prog T0) := [zq87.ent N, zq97.ent N]
def zq56.O (N : Nat) : Orc D0 zq56.R := orcOf (zq56.E N)
def zq56.K0 : Ex → St D0 → Option zq56.R := exitK zq56.C Tryz.f10.results.toList [(true, [.any, .any]), (false, [.any])] (decOut zq56.sig)
def zq56.c1 : Code := codeAt (Tryz.f10.body.getD .skip) []
def zq56.o0 (N : Nat) (a0 : Int) (a1_0 : Int) (a1_1 : Int) : Option zq56.R :=
 (zq87.g N a0 a1_0 a1_1).bind fun r1 =>
 bif (!r1) then
  some (0, 0, false)
 else
 (zq97.g N a1_0 a1_1 (w64 (a0 - 1))).bind fun r2 =>
 some (r2.1, r2.2, true)
theorem zq56.o0.run (N : Nat) (a0 : Int) (a1_0 : Int) (a1_1 : Int) : runC zq56.C (zq56.O N) N zq56.c1 1 (st0 [.one (.int .i64 a0), .agg [.int .i64 a1_0, .int .i64 a1_1]] [] : St D0) zq56.K0 = zq56.o0 N a0 a1_0 a1_1 := by kernel_rfl
def zq56.g (N : Nat) (a0 : Int) (a1_0 : Int) (a1_1 : Int) : Option zq56.R := zq56.o0 N a0 a1_0 a1_1
theorem zq56.g.run (N : Nat) (a0 : Int) (a1_0 : Int) (a1_1 : Int) : runC zq56.C (zq56.O N) N zq56.c1 1 (st0 [.one (.int .i64 a0), .agg [.int .i64 a1_0, .int .i64 a1_1]] [] : St D0) zq56.K0 = zq56.g N a0 a1_0 a1_1 := by
  exact (zq56.o0.run N a0 a1_0 a1_1).trans rfl
theorem zq56.good (N : Nat) (a0 : Int) (a1_0 : Int) (a1_1 : Int) (r : zq56.R) (h : zq56.g N a0 a1_0 a1_1 = some r) : Go.PM.Good Tryz.prog T0 10 [.one (.int .i64 a0), .agg [.int .i64 a1_0, .int .i64 a1_1]] [] (zq56.sig.ret r) (zq56.sig.bs r) :=
  good_fn tabOk0 mixed0 zq56.sig (zq56.E N) Tryz.func10 (by kernel_rfl) (by kernel_rfl) 571 0 0 [] 4160 false [] [(true, [.any, .any]), (false, [.any])] (by kernel_rfl) rfl rfl ((zq56.g.run N a0 a1_0 a1_1).trans h)
def zq56.ent (N : Nat) : Ent Tryz.prog T0 := mkEnt 10 [(false, [.any]), (true, [.any, .any])] zq56.sig (fun t => zq56.g N t.1 t.2.1 t.2.2) (fun t r h => zq56.good N t.1 t.2.1 t.2.2 r h)
/-! ### zq26 -/
abbrev zq26.R : Type := Int × Int
abbrev zq26.sig : Sig := ⟨[(true, 2)], [], [.int .i64, .int .i64], [(true, 2)], [], [.int .i64, .int .i64]⟩
def zq26.C : Cfg D0 := ⟨Tryz.prog, T0, 7, 0, 5, 0, [], 0, false, []⟩
def zq26.E (N : Nat) : List (Ent Tryz.prog T0) := [zq28.ent N]
def zq26.O (N : Nat) : Orc D0 zq26.R := orcOf (zq26.E N)
def zq26.K0 : Ex → St D0 → Option zq26.R := exitK zq26.C Tryz.f62.results.toList [(true, [.any, .any])] (decOut zq26.sig)
def zq26.c1 : Code := codeAt (Tryz.f62.body.getD .skip) []
def zq26.o0 (N : Nat) (a0_0 : Int) (a0_1 : Int) : Option zq26.R :=
 (zq28.g N a0_0 a0_1 (-1)).bind fun r1 =>
 some (r1.1, r1.2)
theorem zq26.o0.run (N : Nat) (a0_0 : Int) (a0_1 : Int) : runC zq26.C (zq26.O N) N zq26.c1 1 (st0 [.agg [.int .i64 a0_0, .int .i64 a0_1]] [] : St D0) zq26.K0 = zq26.o0 N a0_0 a0_1 := by kernel_rfl
def zq26.g (N : Nat) (a0_0 : Int) (a0_1 : Int) : Option zq26.R := zq26.o0 N a0_0 a0_1
theorem zq26.g.run (N : Nat) (a0_0 : Int) (a0_1 : Int) : runC zq26.C (zq26.O N) N zq26.c1 1 (st0 [.agg [.int .i64 a0_0, .int .i64 a0_1]] [] : St D0) zq26.K0 = zq26.g N a0_0 a0_1 := by
  exact (zq26.o0.run N a0_0 a0_1).trans rfl
theorem zq26.good (N : Nat) (a0_0 : Int) (a0_1 : Int) (r : zq26.R) (h : zq26.g N a0_0 a0_1 = some r) : Go.PM.Good Tryz.prog T0 62 [.agg [.int .i64 a0_0, .int .i64 a0_1]] [] (zq26.sig.ret r) (zq26.sig.bs r) :=
  good_fn tabOk0 mixed0 zq26.sig (zq26.E N) Tryz.func62 (by kernel_rfl) (by kernel_rfl) 7 0 0 [] 0 false [] [(true, [.any, .any])] (by kernel_rfl) rfl rfl ((zq26.g.run N a0_0 a0_1).trans h)
def zq26.ent (N : Nat) : Ent Tryz.prog T0 := mkEnt 62 [(true, [.any, .any])] zq26.sig (fun t => zq26.g N t.1 t.2) (fun t r h => zq26.good N t.1 t.2 r h)
/-! ### zq1 -/
abbrev zq1.R : Type := Bool
abbrev zq1.sig : Sig := ⟨[(false, 1)], [], [.int .i64], [(false, 1)], [], [.bool]⟩
def zq1.C : Cfg D0 := ⟨Tryz.prog, T0, 5, 0, 6, 0, [], 24, false, []⟩
def zq1.E (N : Nat) : List (Ent Tryz.prog T0) := []
def zq1.O (N : Nat) : Orc D0 zq1.R := orcOf (zq1.E N)
def zq1.K0 : Ex → St D0 → Option zq1.R := exitK zq1.C Tryz.f126.results.toList [(false, [.any])] (decOut zq1.sig)
def zq1.c1 : Code := codeAt (Tryz.f126.body.getD .skip) []
def zq1.o0 (N : Nat) (a0 : Int) : Option zq1.R :=
 some ((a0 != a0))
theorem zq1.o0.run (N : Nat) (a0 : Int) : runC zq1.C (zq1.O N) N zq1.c1 1 (st0 [.one (.int .i64 a0)] [] : St D0) zq1.K0 = zq1.o0 N a0 := by kernel_rfl
def zq1.g (N : Nat) (a0 : Int) : Option zq1.R := zq1.o0 N a0
theorem zq1.g.run (N : Nat) (a0 : Int) : runC zq1.C (zq1.O N) N zq1.c1 1 (st0 [.one (.int .i64 a0)] [] : St D0) zq1.K0 = zq1.g N a0 := by
  exact (zq1.o0.run N a0).trans rfl
theorem zq1.good (N : Nat) (a0 : Int) (r : zq1.R) (h : zq1.g N a0 = some r) : Go.PM.Good Tryz.prog T0 126 [.one (.int .i64 a0)] [] (zq1.sig.ret r) (zq1.sig.bs r) :=
  good_fn tabOk0 mixed0 zq1.sig (zq1.E N) Tryz.func126 (by kernel_rfl) (by kernel_rfl) 5 0 0 [] 24 false [] [(false, [.any])] (by kernel_rfl) rfl rfl ((zq1.g.run N a0).trans h)
def zq1.ent (N : Nat) : Ent Tryz.prog T0 := mkEnt 126 [(false, [.any])] zq1.sig (fun t => zq1.g N t) (fun t r h => zq1.good N t r h)
/-! ### zq0 -/
abbrev zq0.R : Type := Int
abbrev zq0.sig : Sig := ⟨[(false, 1), (false, 1)], [], [.int .i64, .int .i64], [(false, 1)], [], [.int .i64]⟩
def zq0.C : Cfg D0 := ⟨Tryz.prog, T0, 604275, 0, 20, 0, [], 443008, false, []⟩
def zq0.E (N : Nat) : List (Ent Tryz.prog T0) := [zq1.ent N]
def zq0.O (N : Nat) : Orc D0 zq0.R := orcOf (zq0.E N)
def zq0.K0 : Ex → St D0 → Option zq0.R := exitK zq0.C Tryz.f105.results.toList [(false, [.any])] (decOut zq0.sig)
def zq0.c1 : Code := codeAt (Tryz.f105.body.getD .skip) []
def zq0.o0 (N : Nat) (a0 : Int) (a1 : Int) : Option zq0.R :=
 (zq1.g N a0).bind fun r1 =>
 (zq1.g N a1).bind fun r2 =>
 bif r1 then
  bif r2 then
   some (0)
  else
  some ((-1))
 else
 bif r2 then
  some (1)
 else
 bif (decide (a0 < a1)) then
  some ((-1))
 else
 bif (decide (a0 > a1)) then
  some (1)
 else
 some (0)
theorem zq0.o0.run (N : Nat) (a0 : Int) (a1 : Int) : runC zq0.C (zq0.O N) N zq0.c1 1 (st0 [.one (.int .i64 a0), .one (.int .i64 a1)] [] : St D0) zq0.K0 = zq0.o0 N a0 a1 := by kernel_rfl
def zq0.g (N : Nat) (a0 : Int) (a1 : Int) : Option zq0.R := zq0.o0 N a0 a1
theorem zq0.g.run (N : Nat) (a0 : Int) (a1 : Int) : runC zq0.C (zq0.O N) N zq0.c1 1 (st0 [.one (.int .i64 a0), .one (.int .i64 a1)] [] : St D0) zq0.K0 = zq0.g N a0 a1 := by
  exact (zq0.o0.run N a0 a1).trans rfl
theorem zq0.good (N : Nat) (a0 : Int) (a1 : Int) (r : zq0.R) (h : zq0.g N a0 a1 = some r) : Go.PM.Good Tryz.prog T0 105 [.one (.int .i64 a0), .one (.int .i64 a1)] [] (zq0.sig.ret r) (zq0.sig.bs r) :=
  good_fn tabOk0 mixed0 zq0.sig (zq0.E N) Tryz.func105 (by kernel_rfl) (by kernel_rfl) 604275 0 0 [] 443008 false [] [(false, [.any])] (by kernel_rfl) rfl rfl ((zq0.g.run N a0 a1).trans h)
def zq0.ent (N : Nat) : Ent Tryz.prog T0 := mkEnt 105 [(false, [.any]), (false, [.any])] zq0.sig (fun t => zq0.g N t.1 t.2) (fun t r h => zq0.good N t.1 t.2 r h)
/-! ### zq25 -/
abbrev zq25.R : Type := Int
abbrev zq25.sig : Sig := ⟨[(true, 2), (true, 2)], [], [.int .i64, .int .i64, .int .i64, .int .i64], [(false, 1)], [], [.int .i64]⟩
def zq25.C : Cfg D0 := ⟨Tryz.prog, T0, 31, 0, 16, 0, [], 0, false, []⟩
def zq25.E (N : Nat) : List (Ent Tryz.prog T0) := [zq0.ent N]
def zq25.O (N : Nat) : Orc D0 zq25.R := orcOf (zq25.E N)
def zq25.K0 : Ex → St D0 → Option zq25.R := exitK zq25.C Tryz.f63.results.toList [(false, [.any])] (decOut zq25.sig)
def zq25.c1 : Code := codeAt (Tryz.f63.body.getD .skip) []
def zq25.o0 (N : Nat) (a0_0 : Int) (a0_1 : Int) (a1_0 : Int) (a1_1 : Int) : Option zq25.R :=
 (zq0.g N (w64 (a0_0 * a1_1)) (w64 (a1_0 * a0_1))).bind fun r1 =>
 some (r1)
theorem zq25.o0.run (N : Nat) (a0_0 : Int) (a0_1 : Int) (a1_0 : Int) (a1_1 : Int) : runC zq25.C (zq25.O N) N zq25.c1 1 (st0 [.agg [.int .i64 a0_0, .int .i64 a0_1], .agg [.int .i64 a1_0, .int .i64 a1_1]] [] : St D0) zq25.K0 = zq25.o0 N a0_0 a0_1 a1_0 a1_1 := by kernel_rfl
def zq25.g (N : Nat) (a0_0 : Int) (a0_1 : Int) (a1_0 : Int) (a1_1 : Int) : Option zq25.R := zq25.o0 N a0_0 a0_1 a1_0 a1_1
theorem zq25.g.run (N : Nat) (a0_0 : Int) (a0_1 : Int) (a1_0 : Int) (a1_1 : Int) : runC zq25.C (zq25.O N) N zq25.c1 1 (st0 [.agg [.int .i64 a0_0, .int .i64 a0_1], .agg [.int .i64 a1_0, .int .i64 a1_1]] [] : St D0) zq25.K0 = zq25.g N a0_0 a0_1 a1_0 a1_1 := by
  exact (zq25.o0.run N a0_0 a0_1 a1_0 a1_1).trans rfl
theorem zq25.good (N : Nat) (a0_0 : Int) (a0_1 : Int) (a1_0 : Int) (a1_1 : Int) (r : zq25.R) (h : zq25.g N a0_0 a0_1 a1_0 a1_1 = some r) : Go.PM.Good Tryz.prog T0 63 [.agg [.int .i64 a0_0, .int .i64 a0_1], .agg [.int .i64 a1_0, .int .i64 a1_1]] [] (zq25.sig.ret r) (zq25.sig.bs r) :=
  good_fn tabOk0 mixed0 zq25.sig (zq25.E N) Tryz.func63 (by kernel_rfl) (by kernel_rfl) 31 0 0 [] 0 false [] [(false, [.any])] (by kernel_rfl) rfl rfl ((zq25.g.run N a0_0 a0_1 a1_0 a1_1).trans h)
def zq25.ent (N : Nat) : Ent Tryz.prog T0 := mkEnt 63 [(true, [.any, .any]), (true, [.any, .any])] zq25.sig (fun t => zq25.g N t.1 t.2.1 t.2.2.1 t.2.2.2) (fun t r h => zq25.good N t.1 t.2.1 t.2.2.1 t.2.2.2 r h)
/-! ### zq19 -/
abbrev zq19.R : Type := Int × Int × Bool
abbrev zq19.sig : Sig := ⟨[(false, 1), (true, 2)], [], [.int .i64, .int .i64, .int .i64], [(true, 2), (false, 1)], [], [.int .i64, .int .i64, .bool]⟩
def zq19.C : Cfg D0 := ⟨Tryz.prog, T0, 8454651, 0, 26, 0, [], 33792, false, []⟩
def zq19.E (N : Nat) : List (Ent Tryz.prog T0) := [zq3.ent N, zq26.ent N, zq25.ent N]
def zq19.O (N : Nat) : Orc D0 zq19.R := orcOf (zq19.E N)
def zq19.K0 : Ex → St D0 → Option zq19.R := exitK zq19.C Tryz.f11.results.toList [(true, [.any, .any]), (false, [.any])] (decOut zq19.sig)
def zq19.c1 : Code := codeAt (Tryz.f11.body.getD .skip) []
def zq19.o0 (N : Nat) (a0 : Int) (a1_0 : Int) (a1_1 : Int) : Option zq19.R :=
 (zq3.g N a0 a1_0 a1_1).bind fun r1 =>
 bif (!r1.2.2) then
  some (0, 0, false)
 else
 (zq26.g N r1.1 r1.2.1).bind fun r2 =>
 (zq25.g N r2.1 r2.2 r1.1 r1.2.1).bind fun r3 =>
 bif (decide (r3 < 0)) then
  some (r2.1, r2.2, true)
 else
 some (r1.1, r1.2.1, true)
theorem zq19.o0.run (N : Nat) (a0 : Int) (a1_0 : Int) (a1_1 : Int) : runC zq19.C (zq19.O N) N zq19.c1 1 (st0 [.one (.int .i64 a0), .agg [.int .i64 a1_0, .int .i64 a1_1]] [] : St D0) zq19.K0 = zq19.o0 N a0 a1_0 a1_1 := by kernel_rfl
def zq19.g (N : Nat) (a0 : Int) (a1_0 : Int) (a1_1 : Int) : Option zq19.R := zq19.o0 N a0 a1_0 a1_1
theorem zq19.g.run (N : Nat) (a0 : Int) (a1_0 : Int) (a1_1 : Int) : runC zq19.C (zq19.O N) N zq19.c1 1 (st0 [.one (.int .i64 a0), .agg [.int .i64 a1_0, .int .i64 a1_1]] [] : St D0) zq19.K0 = zq19.g N a0 a1_0 a1_1 := by
  exact (zq19.o0.run N a0 a1_0 a1_1).trans rfl
theorem zq19.good (N : Nat) (a0 : Int) (a1_0 : Int) (a1_1 : Int) (r : zq19.R) (h : zq19.g N a0 a1_0 a1_1 = some r) : Go.PM.Good Tryz.prog T0 11 [.one (.int .i64 a0), .agg [.int .i64 a1_0, .int .i64 a1_1]] [] (zq19.sig.ret r) (zq19.sig.bs r) :=
  good_fn tabOk0 mixed0 zq19.sig (zq19.E N) Tryz.func11 (by kernel_rfl) (by kernel_rfl) 8454651 0 0 [] 33792 false [] [(true, [.any, .any]), (false, [.any])] (by kernel_rfl) rfl rfl ((zq19.g.run N a0 a1_0 a1_1).trans h)
def zq19.ent (N : Nat) : Ent Tryz.prog T0 := mkEnt 11 [(false, [.any]), (true, [.any, .any])] zq19.sig (fun t => zq19.g N t.1 t.2.1 t.2.2) (fun t r h => zq19.good N t.1 t.2.1 t.2.2 r h)
/-! ### zq93 -/
abbrev zq93.R : Type := Int × Int
abbrev zq93.sig : Sig := ⟨[(true, 2)], [], [.int .i64, .int .i64], [(true, 2)], [], [.int .i64, .int .i64]⟩
def zq93.C : Cfg D0 := ⟨Tryz.prog, T0, 7, 0, 5, 0, [], 0, false, []⟩
def zq93.E (N : Nat) : List (Ent Tryz.prog T0) := [zq97.ent N]
def zq93.O (N : Nat) : Orc D0 zq93.R := orcOf (zq93.E N)
def zq93.K0 : Ex → St D0 → Option zq93.R := exitK zq93.C Tryz.f64.results.toList [(true, [.any, .any])] (decOut zq93.sig)
def zq93.c1 : Code := codeAt (Tryz.f64.body.getD .skip) []
def zq93.o0 (N : Nat) (a0_0 : Int) (a0_1 : Int) : Option zq93.R :=
 (zq97.g N a0_0 a0_1 (-1)).bind fun r1 =>
 some (r1.1, r1.2)
theorem zq93.o0.run (N : Nat) (a0_0 : Int) (a0_1 : Int) : runC zq93.C (zq93.O N) N zq93.c1 1 (st0 [.agg [.int .i64 a0_0, .int .i64 a0_1]] [] : St D0) zq93.K0 = zq93.o0 N a0_0 a0_1 := by kernel_rfl
def zq93.g (N : Nat) (a0_0 : Int) (a0_1 : Int) : Option zq93.R := zq93.o0 N a0_0 a0_1
theorem zq93.g.run (N : Nat) (a0_0 : Int) (a0_1 : Int) : runC zq93.C (zq93.O N) N zq93.c1 1 (st0 [.agg [.int .i64 a0_0, .int .i64 a0_1]] [] : St D0) zq93.K0 = zq93.g N a0_0 a0_1 := by
  exact (zq93.o0.run N a0_0 a0_1).trans rfl
theorem zq93.good (N : Nat) (a0_0 : Int) (a0_1 : Int) (r : zq93.R) (h : zq93.g N a0_0 a0_1 = some r) : Go.PM.Good Tryz.prog T0 64 [.agg [.int .i64 a0_0, .int .i64 a0_1]] [] (zq93.sig.ret r) (zq93.sig.bs r) :=
  good_fn tabOk0 mixed0 zq93.sig (zq93.E N) Tryz.func64 (by kernel_rfl) (by kernel_rfl) 7 0 0 [] 0 false [] [(true, [.any, .any])] (by kernel_rfl) rfl rfl ((zq93.g.run N a0_0 a0_1).trans h)
def zq93.ent (N : Nat) : Ent Tryz.prog T0 := mkEnt 64 [(true, [.any, .any])] zq93.sig (fun t => zq93.g N t.1 t.2) (fun t r h => zq93.good N t.1 t.2 r h)
/-! ### zq114 -/
abbrev zq114.R : Type := Int
abbrev zq114.sig : Sig := ⟨[(false, 1)], [], [.int .i64], [(false, 1)], [], [.int .i64]⟩
def zq114.C : Cfg D0 := ⟨Tryz.prog, T0, 77, 0, 9, 0, [], 144, false, []⟩
def zq114.E (N : Nat) : List (Ent Tryz.prog T0) := []
def zq114.O (N : Nat) : Orc D0 zq114.R := orcOf (zq114.E N)
def zq114.K0 : Ex → St D0 → Option zq114.R := exitK zq114.C Tryz.f106.results.toList [(false, [.any])] (decOut zq114.sig)
def zq114.c1 : Code := codeAt (Tryz.f106.body.getD .skip) []
def zq114.o0 (N : Nat) (a0 : Int) : Option zq114.R :=
 bif (decide (a0 > 0)) then
  some (1)
 else
 bif (decide (a0 < 0)) then
  some ((-1))
 else
 some (0)
theorem zq114.o0.run (N : Nat) (a0 : Int) : runC zq114.C (zq114.O N) N zq114.c1 1 (st0 [.one (.int .i64 a0)] [] : St D0) zq114.K0 = zq114.o0 N a0 := by kernel_rfl
def zq114.g (N : Nat) (a0 : Int) : Option zq114.R := zq114.o0 N a0
theorem zq114.g.run (N : Nat) (a0 : Int) : runC zq114.C (zq114.O N) N zq114.c1 1 (st0 [.one (.int .i64 a0)] [] : St D0) zq114.K0 = zq114.g N a0 := by
  exact (zq114.o0.run N a0).trans rfl
theorem zq114.good (N : Nat) (a0 : Int) (r : zq114.R) (h : zq114.g N a0 = some r) : Go.PM.Good Tryz.prog T0 106 [.one (.int .i64 a0)] [] (zq114.sig.ret r) (zq114.sig.bs r) :=
  good_fn tabOk0 mixed0 zq114.sig (zq114.E N) Tryz.func106 (by kernel_rfl) (by kernel_rfl) 77 0 0 [] 144 false [] [(false, [.any])] (by kernel_rfl) rfl rfl ((zq114.g.run N a0).trans h)
def zq114.ent (N : Nat) : Ent Tryz.prog T0 := mkEnt 106 [(false, [.any])] zq114.sig (fun t => zq114.g N t) (fun t r h => zq114.good N t r h)
/-! ### zq89 -/
abbrev zq89.R : Type := Int
abbrev zq89.sig : Sig := ⟨[(true, 2), (true, 2)], [], [.int .i64, .int .i64, .int .i64, .int .i64], [(false, 1)], [], [.int .i64]⟩
def zq89.C : Cfg D0 := ⟨Tryz.prog, T0, 31, 0, 17, 0, [], 0, false, []⟩
def zq89.E (N : Nat) : List (Ent Tryz.prog T0) := [zq114.ent N]
def zq89.O (N : Nat) : Orc D0 zq89.R := orcOf (zq89.E N)
def zq89.K0 : Ex → St D0 → Option zq89.R := exitK zq89.C Tryz.f65.results.toList [(false, [.any])] (decOut zq89.sig)
def zq89.c1 : Code := codeAt (Tryz.f65.body.getD .skip) []
def zq89.o0 (N : Nat) (a0_0 : Int) (a0_1 : Int) (a1_0 : Int) (a1_1 : Int) : Option zq89.R :=
 (zq114.g N (w64 ((w64 (a0_0 * a1_1)) - (w64 (a1_0 * a0_1))))).bind fun r1 =>
 some (r1)
theorem zq89.o0.run (N : Nat) (a0_0 : Int) (a0_1 : Int) (a1_0 : Int) (a1_1 : Int) : runC zq89.C (zq89.O N) N zq89.c1 1 (st0 [.agg [.int .i64 a0_0, .int .i64 a0_1], .agg [.int .i64 a1_0, .int .i64 a1_1]] [] : St D0) zq89.K0 = zq89.o0 N a0_0 a0_1 a1_0 a1_1 := by kernel_rfl
def zq89.g (N : Nat) (a0_0 : Int) (a0_1 : Int) (a1_0 : Int) (a1_1 : Int) : Option zq89.R := zq89.o0 N a0_0 a0_1 a1_0 a1_1
theorem zq89.g.run (N : Nat) (a0_0 : Int) (a0_1 : Int) (a1_0 : Int) (a1_1 : Int) : runC zq89.C (zq89.O N) N zq89.c1 1 (st0 [.agg [.int .i64 a0_0, .int .i64 a0_1], .agg [.int .i64 a1_0, .int .i64 a1_1]] [] : St D0) zq89.K0 = zq89.g N a0_0 a0_1 a1_0 a1_1 := by
  exact (zq89.o0.run N a0_0 a0_1 a1_0 a1_1).trans rfl
theorem zq89.good (N : Nat) (a0_0 : Int) (a0_1 : Int) (a1_0 : Int) (a1_1 : Int) (r : zq89.R) (h : zq89.g N a0_0 a0_1 a1_0 a1_1 = some r) : Go.PM.Good Tryz.prog T0 65 [.agg [.int .i64 a0_0, .int .i64 a0_1], .agg [.int .i64 a1_0, .int .i64 a1_1]] [] (zq89.sig.ret r) (zq89.sig.bs r) :=
  good_fn tabOk0 mixed0 zq89.sig (zq89.E N) Tryz.func65 (by kernel_rfl) (by kernel_rfl) 31 0 0 [] 0 false [] [(false, [.any])] (by kernel_rfl) rfl rfl ((zq89.g.run N a0_0 a0_1 a1_0 a1_1).trans h)
def zq89.ent (N : Nat) : Ent Tryz.prog T0 := mkEnt 65 [(true, [.any, .any]), (true, [.any, .any])] zq89.sig (fun t => zq89.g N t.1 t.2.1 t.2.2.1 t.2.2.2) (fun t r h => zq89.good N t.1 t.2.1 t.2.2.1 t.2.2.2 r h)
/-! ### zq75 -/
abbrev zq75.R : Type := Int × Int × Bool
abbrev zq75.sig : Sig := ⟨[(false, 1), (true, 2)], [], [.int .i64, .int .i64, .int .i64], [(true, 2), (false, 1)], [], [.int .i64, .int .i64, .bool]⟩
def zq75.C : Cfg D0 := ⟨Tryz.prog, T0, 4196603, 0, 25, 0, [], 16640, false, []⟩
def zq75.E (N : Nat) : List (Ent Tryz.prog T0) := [zq87.ent N, zq97.ent N, zq93.ent N, zq89.ent N]
def zq75.O (N : Nat) : Orc D0 zq75.R := orcOf (zq75.E N)
def zq75.K0 : Ex → St D0 → Option zq75.R := exitK zq75.C Tryz.f12.results.toList [(true, [.any, .any]), (false, [.any])] (decOut zq75.sig)
def zq75.c1 : Code := codeAt (Tryz.f12.body.getD .skip) []
def zq75.o0 (N : Nat) (a0 : Int) (a1_0 : Int) (a1_1 : Int) : Option zq75.R :=
 (zq87.g N a0 a1_0 a1_1).bind fun r1 =>
 bif (!r1) then
  some (0, 0, false)
 else
 (zq97.g N a1_0 a1_1 (w64 (a0 - 1))).bind fun r2 =>
 (zq93.g N r2.1 r2.2).bind fun r3 =>
 (zq89.g N r3.1 r3.2 r2.1 r2.2).bind fun r4 =>
 bif (decide (r4 < 0)) then
  some (r3.1, r3.2, true)
 else
 some (r2.1, r2.2, true)
theorem zq75.o0.run (N : Nat) (a0 : Int) (a1_0 : Int) (a1_1 : Int) : runC zq75.C (zq75.O N) N zq75.c1 1 (st0 [.one (.int .i64 a0), .agg [.int .i64 a1_0, .int .i64 a1_1]] [] : St D0) zq75.K0 = zq75.o0 N a0 a1_0 a1_1 := by kernel_rfl
def zq75.g (N : Nat) (a0 : Int) (a1_0 : Int) (a1_1 : Int) : Option zq75.R := zq75.o0 N a0 a1_0 a1_1
theorem zq75.g.run (N : Nat) (a0 : Int) (a1_0 : Int) (a1_1 : Int) : runC zq75.C (zq75.O N) N zq75.c1 1 (st0 [.one (.int .i64 a0), .agg [.int .i64 a1_0, .int .i64 a1_1]] [] : St D0) zq75.K0 = zq75.g N a0 a1_0 a1_1 := by
  exact (zq75.o0.run N a0 a1_0 a1_1).trans rfl
theorem zq75.good (N : Nat) (a0 : Int) (a1_0 : Int) (a1_1 : Int) (r : zq75.R) (h : zq75.g N a0 a1_0 a1_1 = some r) : Go.PM.Good Tryz.prog T0 12 [.one (.int .i64 a0), .agg [.int .i64 a1_0, .int .i64 a1_1]] [] (zq75.sig.ret r) (zq75.sig.bs r) :=
  good_fn tabOk0 mixed0 zq75.sig (zq75.E N) Tryz.func12 (by kernel_rfl) (by kernel_rfl) 4196603 0 0 [] 16640 false [] [(true, [.any, .any]), (false, [.any])] (by kernel_rfl) rfl rfl ((zq75.g.run N a0 a1_0 a1_1).trans h)
def zq75.ent (N : Nat) : Ent Tryz.prog T0 := mkEnt 12 [(false, [.any]), (true, [.any, .any])] zq75.sig (fun t => zq75.g N t.1 t.2.1 t.2.2) (fun t r h => zq75.good N t.1 t.2.1 t.2.2 r h)
/-! ### zq44 -/
abbrev zq44.R : Type := Int × Int × Int × Int
abbrev zq44.sig : Sig := ⟨[(false, 1), (true, 2)], [], [.int .i64, .int .i64, .int .i64], [(false, 1), (false, 1), (true, 2)], [], [.int .i64, .int .i64, .int .i64, .int .i64]⟩
def zq44.C : Cfg D0 := ⟨Tryz.prog, T0, 507, 0, 26, 0, [], 5523456, false, []⟩
def zq44.E (N : Nat) : List (Ent Tryz.prog T0) := [zq41.ent N]
def zq44.O (N : Nat) : Orc D0 zq44.R := orcOf (zq44.E N)
def zq44.K0 : Ex → St D0 → Option zq44.R := exitK zq44.C Tryz.f66.results.toList [(false, [.any]), (false, [.any]), (true, [.any, .any])] (decOut zq44.sig)
def zq44.c1 : Code := codeAt (Tryz.f66.body.getD .skip) []
def zq44.o0 (N : Nat) (a0 : Int) (a1_0 : Int) (a1_1 : Int) : Option zq44.R :=
 bif (a1_1 == 0) then
  none
 else
 (zq41.g N (w64 ((w64 (a1_0 * a0)) * 60)) a1_1).bind fun r1 =>
 some ((w64 (Int.tdiv (w64 (Int.tdiv (w64 ((w64 (a1_0 * a0)) * 60)) a1_1)) 60)), (Int.tmod (w64 (Int.tdiv (w64 ((w64 (a1_0 * a0)) * 60)) a1_1)) 60), r1.1, r1.2)
theorem zq44.o0.run (N : Nat) (a0 : Int) (a1_0 : Int) (a1_1 : Int) : runC zq44.C (zq44.O N) N zq44.c1 1 (st0 [.one (.int .i64 a0), .agg [.int .i64 a1_0, .int .i64 a1_1]] [] : St D0) zq44.K0 = zq44.o0 N a0 a1_0 a1_1 := by kernel_rfl
def zq44.g (N : Nat) (a0 : Int) (a1_0 : Int) (a1_1 : Int) : Option zq44.R := zq44.o0 N a0 a1_0 a1_1
theorem zq44.g.run (N : Nat) (a0 : Int) (a1_0 : Int) (a1_1 : Int) : runC zq44.C (zq44.O N) N zq44.c1 1 (st0 [.one (.int .i64 a0), .agg [.int .i64 a1_0, .int .i64 a1_1]] [] : St D0) zq44.K0 = zq44.g N a0 a1_0 a1_1 := by
  exact (zq44.o0.run N a0 a1_0 a1_1).trans rfl
theorem zq44.good (N : Nat) (a0 : Int) (a1_0 : Int) (a1_1 : Int) (r : zq44.R) (h : zq44.g N a0 a1_0 a1_1 = some r) : Go.PM.Good Tryz.prog T0 66 [.one (.int .i64 a0), .agg [.int .i64 a1_0, .int .i64 a1_1]] [] (zq44.sig.ret r) (zq44.sig.bs r) :=
  good_fn tabOk0 mixed0 zq44.sig (zq44.E N) Tryz.func66 (by kernel_rfl) (by kernel_rfl) 507 0 0 [] 5523456 false [] [(false, [.any]), (false, [.any]), (true, [.any, .any])] (by kernel_rfl) rfl rfl ((zq44.g.run N a0 a1_0 a1_1).trans h)
def zq44.ent (N : Nat) : Ent Tryz.prog T0 := mkEnt 66 [(false, [.any]), (true, [.any, .any])] zq44.sig (fun t => zq44.g N t.1 t.2.1 t.2.2) (fun t r h => zq44.good N t.1 t.2.1 t.2.2 r h)
/-! ### zq5 -/
abbrev zq5.R : Type := Int × Bool
abbrev zq5.sig : Sig := ⟨[(false, 1), (true, 2)], [], [.int .i64, .int .i64, .int .i64], [(false, 1), (false, 1)], [], [.int .i64, .bool]⟩
def zq5.C : Cfg D0 := ⟨Tryz.prog, T0, 4219, 0, 21, 0, [], 16896, false, []⟩
def zq5.E (N : Nat) : List (Ent Tryz.prog T0) := [zq39.ent N, zq44.ent N]
def zq5.O (N : Nat) : Orc D0 zq5.R := orcOf (zq5.E N)
def zq5.K0 : Ex → St D0 → Option zq5.R := exitK zq5.C Tryz.f13.results.toList [(false, [.any]), (false, [.any])] (decOut zq5.sig)
def zq5.c1 : Code := codeAt (Tryz.f13.body.getD .skip) []
def zq5.o0 (N : Nat) (a0 : Int) (a1_0 : Int) (a1_1 : Int) : Option zq5.R :=
 (zq39.g N a0 a1_0 a1_1).bind fun r1 =>
 bif (!r1) then
  some (0, false)
 else
 (zq44.g N a0 a1_0 a1_1).bind fun r2 =>
 some (r2.1, true)
theorem zq5.o0.run (N : Nat) (a0 : Int) (a1_0 : Int) (a1_1 : Int) : runC zq5.C (zq5.O N) N zq5.c1 1 (st0 [.one (.int .i64 a0), .agg [.int .i64 a1_0, .int .i64 a1_1]] [] : St D0) zq5.K0 = zq5.o0 N a0 a1_0 a1_1 := by kernel_rfl
def zq5.g (N : Nat) (a0 : Int) (a1_0 : Int) (a1_1 : Int) : Option zq5.R := zq5.o0 N a0 a1_0 a1_1
theorem zq5.g.run (N : Nat) (a0 : Int) (a1_0 : Int) (a1_1 : Int) : runC zq5.C (zq5.O N) N zq5.c1 1 (st0 [.one (.int .i64 a0), .agg [.int .i64 a1_0, .int .i64 a1_1]] [] : St D0) zq5.K0 = zq5.g N a0 a1_0 a1_1 := by
  exact (zq5.o0.run N a0 a1_0 a1_1).trans rfl
theorem zq5.good (N : Nat) (a0 : Int) (a1_0 : Int) (a1_1 : Int) (r : zq5.R) (h : zq5.g N a0 a1_0 a1_1 = some r) : Go.PM.Good Tryz.prog T0 13 [.one (.int .i64 a0), .agg [.int .i64 a1_0, .int .i64 a1_1]] [] (zq5.sig.ret r) (zq5.sig.bs r) :=
  good_fn tabOk0 mixed0 zq5.sig (zq5.E N) Tryz.func13 (by kernel_rfl) (by kernel_rfl) 4219 0 0 [] 16896 false [] [(false, [.any]), (false, [.any])] (by kernel_rfl) rfl rfl ((zq5.g.run N a0 a1_0 a1_1).trans h)
def zq5.ent (N : Nat) : Ent Tryz.prog T0 := mkEnt 13 [(false, [.any]), (true, [.any, .any])] zq5.sig (fun t => zq5.g N t.1 t.2.1 t.2.2) (fun t r h => zq5.good N t.1 t.2.1 t.2.2 r h)
/-! ### zq67 -/
abbrev zq67.R : Type := Int × Bool
abbrev zq67.sig : Sig := ⟨[(false, 1), (true, 2)], [], [.int .i64, .int .i64, .int .i64], [(false, 1), (false, 1)], [], [.int .i64, .bool]⟩
def zq67.C : Cfg D0 := ⟨Tryz.prog, T0, 571, 0, 17, 0, [], 4160, false, []⟩
def zq67.E (N : Nat) : List (Ent Tryz.prog T0) := [zq87.ent N]
def zq67.O (N : Nat) : Orc D0 zq67.R := orcOf (zq67.E N)
def zq67.K0 : Ex → St D0 → Option zq67.R := exitK zq67.C Tryz.f14.results.toList [(false, [.any]), (false, [.any])] (decOut zq67.sig)
def zq67.c1 : Code := codeAt (Tryz.f14.body.getD .skip) []
def zq67.o0 (N : Nat) (a0 : Int) (a1_0 : Int) (a1_1 : Int) : Option zq67.R :=
 (zq87.g N a0 a1_0 a1_1).bind fun r1 =>
 bif (!r1) then
  some (0, false)
 else
 bif (a1_1 == 0) then
  none
 else
 some ((w64 (Int.tdiv (w64 (a1_0 * a0)) a1_1)), true)
theorem zq67.o0.run (N : Nat) (a0 : Int) (a1_0 : Int) (a1_1 : Int) : runC zq67.C (zq67.O N) N zq67.c1 1 (st0 [.one (.int .i64 a0), .agg [.int .i64 a1_0, .int .i64 a1_1]] [] : St D0) zq67.K0 = zq67.o0 N a0 a1_0 a1_1 := by kernel_rfl
def zq67.g (N : Nat) (a0 : Int) (a1_0 : Int) (a1_1 : Int) : Option zq67.R := zq67.o0 N a0 a1_0 a1_1
theorem zq67.g.run (N : Nat) (a0 : Int) (a1_0 : Int) (a1_1 : Int) : runC zq67.C (zq67.O N) N zq67.c1 1 (st0 [.one (.int .i64 a0), .agg [.int .i64 a1_0, .int .i64 a1_1]] [] : St D0) zq67.K0 = zq67.g N a0 a1_0 a1_1 := by
  exact (zq67.o0.run N a0 a1_0 a1_1).trans rfl
theorem zq67.good (N : Nat) (a0 : Int) (a1_0 : Int) (a1_1 : Int) (r : zq67.R) (h : zq67.g N a0 a1_0 a1_1 = some r) : Go.PM.Good Tryz.prog T0 14 [.one (.int .i64 a0), .agg [.int .i64 a1_0, .int .i64 a1_1]] [] (zq67.sig.ret r) (zq67.sig.bs r) :=
  good_fn tabOk0 mixed0 zq67.sig (zq67.E N) Tryz.func14 (by kernel_rfl) (by kernel_rfl) 571 0 0 [] 4160 false [] [(false, [.any]), (false, [.any])] (by kernel_rfl) rfl rfl ((zq67.g.run N a0 a1_0 a1_1).trans h)
def zq67.ent (N : Nat) : Ent Tryz.prog T0 := mkEnt 14 [(false, [.any]), (true, [.any, .any])] zq67.sig (fun t => zq67.g N t.1 t.2.1 t.2.2) (fun t r h => zq67.good N t.1 t.2.1 t.2.2 r h)
/-! ### zq13 -/
abbrev zq13.R : Type := Int × Bool
abbrev zq13.sig : Sig := ⟨[(false, 1), (true, 2)], [], [.int .i64, .int .i64, .int .i64], [(false, 1), (false, 1)], [], [.int .i64, .bool]⟩
def zq13.C : Cfg D0 := ⟨Tryz.prog, T0, 4283, 0, 21, 0, [], 16896, false, []⟩
def zq13.E (N : Nat) : List (Ent Tryz.prog T0) := [zq39.ent N, zq44.ent N]
def zq13.O (N : Nat) : Orc D0 zq13.R := orcOf (zq13.E N)
def zq13.K0 : Ex → St D0 → Option zq13.R := exitK zq13.C Tryz.f15.results.toList [(false, [.any]), (false, [.any])] (decOut zq13.sig)
def zq13.c1 : Code := codeAt (Tryz.f15.body.getD .skip) []
def zq13.o0 (N : Nat) (a0 : Int) (a1_0 : Int) (a1_1 : Int) : Option zq13.R :=
 (zq39.g N a0 a1_0 a1_1).bind fun r1 =>
 bif (!r1) then
  some (0, false)
 else
 (zq44.g N a0 a1_0 a1_1).bind fun r2 =>
 some (r2.2.1, true)
theorem zq13.o0.run (N : Nat) (a0 : Int) (a1_0 : Int) (a1_1 : Int) : runC zq13.C (zq13.O N) N zq13.c1 1 (st0 [.one (.int .i64 a0), .agg [.int .i64 a1_0, .int .i64 a1_1]] [] : St D0) zq13.K0 = zq13.o0 N a0 a1_0 a1_1 := by kernel_rfl
def zq13.g (N : Nat) (a0 : Int) (a1_0 : Int) (a1_1 : Int) : Option zq13.R := zq13.o0 N a0 a1_0 a1_1
theorem zq13.g.run (N : Nat) (a0 : Int) (a1_0 : Int) (a1_1 : Int) : runC zq13.C (zq13.O N) N zq13.c1 1 (st0 [.one (.int .i64 a0), .agg [.int .i64 a1_0, .int .i64 a1_1]] [] : St D0) zq13.K0 = zq13.g N a0 a1_0 a1_1 := by
  exact (zq13.o0.run N a0 a1_0 a1_1).trans rfl
theorem zq13.good (N : Nat) (a0 : Int) (a1_0 : Int) (a1_1 : Int) (r : zq13.R) (h : zq13.g N a0 a1_0 a1_1 = some r) : Go.PM.Good Tryz.prog T0 15 [.one (.int .i64 a0), .agg [.int .i64 a1_0, .int .i64 a1_1]] [] (zq13.sig.ret r) (zq13.sig.bs r) :=
  good_fn tabOk0 mixed0 zq13.sig (zq13.E N) Tryz.func15 (by kernel_rfl) (by kernel_rfl) 4283 0 0 [] 16896 false [] [(false, [.any]), (false, [.any])] (by kernel_rfl) rfl rfl ((zq13.g.run N a0 a1_0 a1_1).trans h)
def zq13.ent (N : Nat) : Ent Tryz.prog T0 := mkEnt 15 [(false, [.any]), (true, [.any, .any])] zq13.sig (fun t => zq13.g N t.1 t.2.1 t.2.2) (fun t r h => zq13.good N t.1 t.2.1 t.2.2 r h)
/-! ### zq69 -/
abbrev zq69.R : Type := Int × Bool
abbrev zq69.sig : Sig := ⟨[(false, 1), (true, 2)], [], [.int .i64, .int .i64, .int .i64], [(false, 1), (false, 1)], [], [.int .i64, .bool]⟩
def zq69.C : Cfg D0 := ⟨Tryz.prog, T0, 571, 0, 19, 0, [], 4160, false, []⟩
def zq69.E (N : Nat) : List (Ent Tryz.prog T0) := [zq87.ent N]
def zq69.O (N : Nat) : Orc D0 zq69.R := orcOf (zq69.E N)
def zq69.K0 : Ex → St D0 → Option zq69.R := exitK zq69.C Tryz.f16.results.toList [(false, [.any]), (false, [.any])] (decOut zq69.sig)
def zq69.c1 : Code := codeAt (Tryz.f16.body.getD .skip) []
def zq69.o0 (N : Nat) (a0 : Int) (a1_0 : Int) (a1_1 : Int) : Option zq69.R :=
 (zq87.g N a0 a1_0 a1_1).bind fun r1 =>
 bif (!r1) then
  some (0, false)
 else
 bif (a1_1 == 0) then
  none
 else
 some ((Int.tmod (w64 (Int.tdiv (w64 ((w64 (a1_0 * a0)) * 60)) a1_1)) 60), true)
theorem zq69.o0.run (N : Nat) (a0 : Int) (a1_0 : Int) (a1_1 : Int) : runC zq69.C (zq69.O N) N zq69.c1 1 (st0 [.one (.int .i64 a0), .agg [.int .i64 a1_0, .int .i64 a1_1]] [] : St D0) zq69.K0 = zq69.o0 N a0 a1_0 a1_1 := by kernel_rfl
def zq69.g (N : Nat) (a0 : Int) (a1_0 : Int) (a1_1 : Int) : Option zq69.R := zq69.o0 N a0 a1_0 a1_1
theorem zq69.g.run (N : Nat) (a0 : Int) (a1_0 : Int) (a1_1 : Int) : runC zq69.C (zq69.O N) N zq69.c1 1 (st0 [.one (.int .i64 a0), .agg [.int .i64 a1_0, .int .i64 a1_1]] [] : St D0) zq69.K0 = zq69.g N a0 a1_0 a1_1 := by
  exact (zq69.o0.run N a0 a1_0 a1_1).trans rfl
theorem zq69.good (N : Nat) (a0 : Int) (a1_0 : Int) (a1_1 : Int) (r : zq69.R) (h : zq69.g N a0 a1_0 a1_1 = some r) : Go.PM.Good Tryz.prog T0 16 [.one (.int .i64 a0), .agg [.int .i64 a1_0, .int .i64 a1_1]] [] (zq69.sig.ret r) (zq69.sig.bs r) :=
  good_fn tabOk0 mixed0 zq69.sig (zq69.E N) Tryz.func16 (by kernel_rfl) (by kernel_rfl) 571 0 0 [] 4160 false [] [(false, [.any]), (false, [.any])] (by kernel_rfl) rfl rfl ((zq69.g.run N a0 a1_0 a1_1).trans h)
def zq69.ent (N : Nat) : Ent Tryz.prog T0 := mkEnt 16 [(false, [.any]), (true, [.any, .any])] zq69.sig (fun t => zq69.g N t.1 t.2.1 t.2.2) (fun t r h => zq69.good N t.1 t.2.1 t.2.2 r h)
/-! ### zq18 -/
abbrev zq18.R : Type := Int × Int × Bool
abbrev zq18.sig : Sig := ⟨[(false, 1), (true, 2)], [], [.int .i64, .int .i64, .int .i64], [(true, 2), (false, 1)], [], [.int .i64, .int .i64, .bool]⟩
def zq18.C : Cfg D0 := ⟨Tryz.prog, T0, 4411, 0, 22, 0, [], 33280, false, []⟩
def zq18.E (N : Nat) : List (Ent Tryz.prog T0) := [zq39.ent N, zq44.ent N]
def zq18.O (N : Nat) : Orc D0 zq18.R := orcOf (zq18.E N)
def zq18.K0 : Ex → St D0 → Option zq18.R := exitK zq18.C Tryz.f17.results.toList [(true, [.any, .any]), (false, [.any])] (decOut zq18.sig)
def zq18.c1 : Code := codeAt (Tryz.f17.body.getD .skip) []
def zq18.o0 (N : Nat) (a0 : Int) (a1_0 : Int) (a1_1 : Int) : Option zq18.R :=
 (zq39.g N a0 a1_0 a1_1).bind fun r1 =>
 bif (!r1) then
  some (0, 0, false)
 else
 (zq44.g N a0 a1_0 a1_1).bind fun r2 =>
 some (r2.2.2.1, r2.2.2.2, true)
theorem zq18.o0.run (N : Nat) (a0 : Int) (a1_0 : Int) (a1_1 : Int) : runC zq18.C (zq18.O N) N zq18.c1 1 (st0 [.one (.int .i64 a0), .agg [.int .i64 a1_0, .int .i64 a1_1]] [] : St D0) zq18.K0 = zq18.o0 N a0 a1_0 a1_1 := by kernel_rfl
def zq18.g (N : Nat) (a0 : Int) (a1_0 : Int) (a1_1 : Int) : Option zq18.R := zq18.o0 N a0 a1_0 a1_1
theorem zq18.g.run (N : Nat) (a0 : Int) (a1_0 : Int) (a1_1 : Int) : runC zq18.C (zq18.O N) N zq18.c1 1 (st0 [.one (.int .i64 a0), .agg [.int .i64 a1_0, .int .i64 a1_1]] [] : St D0) zq18.K0 = zq18.g N a0 a1_0 a1_1 := by
  exact (zq18.o0.run N a0 a1_0 a1_1).trans rfl
theorem zq18.good (N : Nat) (a0 : Int) (a1_0 : Int) (a1_1 : Int) (r : zq18.R) (h : zq18.g N a0 a1_0 a1_1 = some r) : Go.PM.Good Tryz.prog T0 17 [.one (.int .i64 a0), .agg [.int .i64 a1_0, .int .i64 a1_1]] [] (zq18.sig.ret r) (zq18.sig.bs r) :=
  good_fn tabOk0 mixed0 zq18.sig (zq18.E N) Tryz.func17 (by kernel_rfl) (by kernel_rfl) 4411 0 0 [] 33280 false [] [(true, [.any, .any]), (false, [.any])] (by kernel_rfl) rfl rfl ((zq18.g.run N a0 a1_0 a1_1).trans h)
def zq18.ent (N : Nat) : Ent Tryz.prog T0 := mkEnt 17 [(false, [.any]), (true, [.any, .any])] zq18.sig (fun t => zq18.g N t.1 t.2.1 t.2.2) (fun t r h => zq18.good N t.1 t.2.1 t.2.2 r h)
/-! ### zq74 -/
abbrev zq74.R : Type := Int × Int × Bool
abbrev zq74.sig : Sig := ⟨[(false, 1), (true, 2)], [], [.int .i64, .int .i64, .int .i64], [(true, 2), (false, 1)], [], [.int .i64, .int .i64, .bool]⟩
def zq74.C : Cfg D0 := ⟨Tryz.prog, T0, 571, 0, 15, 0, [], 4160, false, []⟩
def zq74.E (N : Nat) : List (Ent Tryz.prog T0) := [zq87.ent N, zq97.ent N]
def zq74.O (N : Nat) : Orc D0 zq74.R := orcOf (zq74.E N)
def zq74.K0 : Ex → St D0 → Option zq74.R := exitK zq74.C Tryz.f18.results.toList [(true, [.any, .any]), (false, [.any])] (decOut zq74.sig)
def zq74.c1 : Code := codeAt (Tryz.f18.body.getD .skip) []
def zq74.o0 (N : Nat) (a0 : Int) (a1_0 : Int) (a1_1 : Int) : Option zq74.R :=
 (zq87.g N a0 a1_0 a1_1).bind fun r1 =>
 bif (!r1) then
  some (0, 0, false)
 else
 (zq97.g N a1_0 a1_1 (w64 (60 * a0))).bind fun r2 =>
 some (r2.1, r2.2, true)
theorem zq74.o0.run (N : Nat) (a0 : Int) (a1_0 : Int) (a1_1 : Int) : runC zq74.C (zq74.O N) N zq74.c1 1 (st0 [.one (.int .i64 a0), .agg [.int .i64 a1_0, .int .i64 a1_1]] [] : St D0) zq74.K0 = zq74.o0 N a0 a1_0 a1_1 := by kernel_rfl
def zq74.g (N : Nat) (a0 : Int) (a1_0 : Int) (a1_1 : Int) : Option zq74.R := zq74.o0 N a0 a1_0 a1_1
theorem zq74.g.run (N : Nat) (a0 : Int) (a1_0 : Int) (a1_1 : Int) : runC zq74.C (zq74.O N) N zq74.c1 1 (st0 [.one (.int .i64 a0), .agg [.int .i64 a1_0, .int .i64 a1_1]] [] : St D0) zq74.K0 = zq74.g N a0 a1_0 a1_1 := by
  exact (zq74.o0.run N a0 a1_0 a1_1).trans rfl
theorem zq74.good (N : Nat) (a0 : Int) (a1_0 : Int) (a1_1 : Int) (r : zq74.R) (h : zq74.g N a0 a1_0 a1_1 = some r) : Go.PM.Good Tryz.prog T0 18 [.one (.int .i64 a0), .agg [.int .i64 a1_0, .int .i64 a1_1]] [] (zq74.sig.ret r) (zq74.sig.bs r) :=
  good_fn tabOk0 mixed0 zq74.sig (zq74.E N) Tryz.func18 (by kernel_rfl) (by kernel_rfl) 571 0 0 [] 4160 false [] [(true, [.any, .any]), (false, [.any])] (by kernel_rfl) rfl rfl ((zq74.g.run N a0 a1_0 a1_1).trans h)
def zq74.ent (N : Nat) : Ent Tryz.prog T0 := mkEnt 18 [(false, [.any]), (true, [.any, .any])] zq74.sig (fun t => zq74.g N t.1 t.2.1 t.2.2) (fun t r h => zq74.good N t.1 t.2.1 t.2.2 r h)
/-! ### zq31 -/
abbrev zq31.R : Type := Bool
abbrev zq31.sig : Sig := ⟨[(true, 2)], [], [.int .i64, .int .i64], [(false, 1)], [], [.bool]⟩
def zq31.C : Cfg D0 := ⟨Tryz.prog, T0, 7, 0, 6, 0, [], 0, false, []⟩
def zq31.E (N : Nat) : List (Ent Tryz.prog T0) := [zq7.ent N]
def zq31.O (N : Nat) : Orc D0 zq31.R := orcOf (zq31.E N)
def zq31.K0 : Ex → St D0 → Option zq31.R := exitK zq31.C Tryz.f114.results.toList [(false, [.any])] (decOut zq31.sig)
def zq31.c1 : Code := codeAt (Tryz.f114.body.getD .skip) []
def zq31.o0 (N : Nat) (a0_0 : Int) (a0_1 : Int) : Option zq31.R :=
 (zq7.g N a0_0 a0_1).bind fun r1 =>
 some ((!r1))
theorem zq31.o0.run (N : Nat) (a0_0 : Int) (a0_1 : Int) : runC zq31.C (zq31.O N) N zq31.c1 1 (st0 [.agg [.int .i64 a0_0, .int .i64 a0_1]] [] : St D0) zq31.K0 = zq31.o0 N a0_0 a0_1 := by kernel_rfl
def zq31.g (N : Nat) (a0_0 : Int) (a0_1 : Int) : Option zq31.R := zq31.o0 N a0_0 a0_1
theorem zq31.g.run (N : Nat) (a0_0 : Int) (a0_1 : Int) : runC zq31.C (zq31.O N) N zq31.c1 1 (st0 [.agg [.int .i64 a0_0, .int .i64 a0_1]] [] : St D0) zq31.K0 = zq31.g N a0_0 a0_1 := by
  exact (zq31.o0.run N a0_0 a0_1).trans rfl
theorem zq31.good (N : Nat) (a0_0 : Int) (a0_1 : Int) (r : zq31.R) (h : zq31.g N a0_0 a0_1 = some r) : Go.PM.Good Tryz.prog T0 114 [.agg [.int .i64 a0_0, .int .i64 a0_1]] [] (zq31.sig.ret r) (zq31.sig.bs r) :=
  good_fn tabOk0 mixed0 zq31.sig (zq31.E N) Tryz.func114 (by kernel_rfl) (by kernel_rfl) 7 0 0 [] 0 false [] [(false, [.any])] (by kernel_rfl) rfl rfl ((zq31.g.run N a0_0 a0_1).trans h)
def zq31.ent (N : Nat) : Ent Tryz.prog T0 := mkEnt 114 [(true, [.any, .any])] zq31.sig (fun t => zq31.g N t.1 t.2) (fun t r h => zq31.good N t.1 t.2 r h)
/-! ### zq55 -/
abbrev zq55.R : Type := Int
abbrev zq55.sig : Sig := ⟨[(false, 1), (false, 1)], [], [.sl false 25, .fn 114 []], [(false, 1)], [], [.int .i64]⟩
def zq55.C : Cfg D0 := ⟨Tryz.prog, T0, 66483, 0, 19, 0, [(26, [0, 1, 7, 8], [])], 14400, false, []⟩
def zq55.E (N : Nat) : List (Ent Tryz.prog T0) := [zq31.ent N]
def zq55.O (N : Nat) : Orc D0 zq55.R := orcOf (zq55.E N)
def zq55.K0 : Ex → St D0 → Option zq55.R := exitK zq55.C Tryz.f128.results.toList [(false, [.any])] (decOut zq55.sig)
def zq55.c1 : Code := codeAt (Tryz.f128.body.getD .skip) []
def zq55.c2 : Code := codeAt (Tryz.f128.body.getD .skip) [false]
def zq55.c7 : Code := codeAt (Tryz.f128.body.getD .skip) [true, true]
def zq55.c12 : Code := codeAt (Tryz.f128.body.getD .skip) [true, false, false]
def zq55.c52 : Code := codeAt (Tryz.f128.body.getD .skip) [true, false, true, false, false]
def zq55.K52 (N : Nat) (Kn26 : St D0 → Option zq55.R) : Ex → St D0 → Option zq55.R := ((fun up => (onN (fun s => zq55.C.tidy 26 s ((onN Kn26 up) .normal)) (onN Kn26 up))) (blockK 0 (onN (fun s => zq55.C.tidy 6 s (fun s' => runC zq55.C (zq55.O N) N zq55.c7 7 s' zq55.K0)) zq55.K0)))
def zq55.o1 (N : Nat) (v0 : List S25) (v1 : Int) (v2 : Int) (c1 : (List S25) → Int → Int → Option zq55.R) : Option zq55.R :=
 bif (decide (v2 < v1)) then
  bif (decide (0 ≤ v2)) then
   bif (decide (v2 < (v0.length : Int))) then
    (v0[(v2 : Int).toNat]?).bind fun x1 =>
    (zq31.g N x1.f0 x1.f1).bind fun r2 =>
    bif r2 then
     some (v2)
    else
    c1 v0 v1 (w64 (v2 + 1))
   else
   none
  else
  none
 else
 some ((-1))
theorem zq55.o1.run (N : Nat) (Kn26 : St D0 → Option zq55.R) (v0 : List S25) (v1 : Int) (v2 : Int) : runC zq55.C (zq55.O N) N zq55.c52 52 (mkSt [(0, .one (.sl false 25 v0)), (1, .one (.fn 114 [])), (7, .one (.int .i64 v1)), (8, .one (.int .i64 v2))] [] : St D0) ((fun up => (onN (fun s => zq55.C.tidy 26 s ((onN Kn26 up) .normal)) (onN Kn26 up))) (blockK 0 (onN (fun s => zq55.C.tidy 6 s (fun s' => runC zq55.C (zq55.O N) N zq55.c7 7 s' zq55.K0)) zq55.K0))) = zq55.o1 N v0 v1 v2 ((fun w0 w1 w2 => Kn26 (mkSt [(0, .one (.sl false 25 w0)), (1, .one (.fn 114 [])), (7, .one (.int .i64 w1)), (8, .one (.int .i64 w2))] [] : St D0))) := by kernel_rfl
def zq55.d1 (N : Nat) (v0 : List S25) (v1 : Int) (v2 : Int) (c1 : (List S25) → Int → Int → Option zq55.R) : Option zq55.R := zq55.o1 N v0 v1 v2 c1
theorem zq55.d1.run (N : Nat) (Kn26 : St D0 → Option zq55.R) (v0 : List S25) (v1 : Int) (v2 : Int) : runC zq55.C (zq55.O N) N zq55.c52 52 (mkSt [(0, .one (.sl false 25 v0)), (1, .one (.fn 114 [])), (7, .one (.int .i64 v1)), (8, .one (.int .i64 v2))] [] : St D0) (zq55.K52 N Kn26) = zq55.d1 N v0 v1 v2 ((fun w0 w1 w2 => Kn26 (mkSt [(0, .one (.sl false 25 w0)), (1, .one (.fn 114 [])), (7, .one (.int .i64 w1)), (8, .one (.int .i64 w2))] [] : St D0))) := by
  exact (zq55.o1.run N Kn26 v0 v1 v2).trans rfl
def zq55.K26 (N : Nat) : Ex → St D0 → Option zq55.R := (blockK 0 (onN (fun s => zq55.C.tidy 6 s (fun s' => runC zq55.C (zq55.O N) N zq55.c7 7 s' zq55.K0)) zq55.K0))
def zq55.l1 (N : Nat) : Nat → (List S25) → Int → Int → Option zq55.R
  | 0, _, _, _ => none
  | n + 1, v0, v1, v2 => zq55.d1 N v0 v1 v2 ((fun w0 w1 w2 => zq55.l1 N n w0 w1 w2))
theorem zq55.loop26 (N : Nat) : ∀ n, (∀ (v0 : List S25) (v1 : Int) (v2 : Int), iter (loopF zq55.C (zq55.O N) N zq55.c52 26) n (mkSt [(0, .one (.sl false 25 v0)), (1, .one (.fn 114 [])), (7, .one (.int .i64 v1)), (8, .one (.int .i64 v2))] [] : St D0) (zq55.K26 N) = zq55.l1 N n v0 v1 v2)
  | 0 => (fun v0 v1 v2 => rfl)
  | n + 1 => (fun v0 v1 v2 => (zq55.d1.run N (fun s => iter (loopF zq55.C (zq55.O N) N zq55.c52 26) n s (zq55.K26 N)) v0 v1 v2).trans (show _ = zq55.d1 N v0 v1 v2 ((fun w0 w1 w2 => zq55.l1 N n w0 w1 w2)) from (congr rfl (funext fun w0 => funext fun w1 => funext fun w2 => (zq55.loop26 N n) w0 w1 w2))))
def zq55.o0 (N : Nat) (a0 : List S25) (c1 : (List S25) → Int → Int → Option zq55.R) : Option zq55.R :=
 c1 a0 (a0.length : Int) 0
theorem zq55.o0.run (N : Nat) (H52 : Code) (a0 : List S25) : runC zq55.C (zq55.O N) N (.seq zq55.c2 (.seq (.seq zq55.c12 (.block 0 (.loop H52))) zq55.c7)) 1 (st0 [.one (.sl false 25 a0), .one (.fn 114 [])] [] : St D0) zq55.K0 = zq55.o0 N a0 ((fun w0 w1 w2 => iter (loopF zq55.C (zq55.O N) N H52 26) N (mkSt [(0, .one (.sl false 25 w0)), (1, .one (.fn 114 [])), (7, .one (.int .i64 w1)), (8, .one (.int .i64 w2))] [] : St D0) (blockK 0 (onN (fun s => zq55.C.tidy 6 s (fun s' => runC zq55.C (zq55.O N) N zq55.c7 7 s' zq55.K0)) zq55.K0)))) := by kernel_rfl
def zq55.g (N : Nat) (a0 : List S25) : Option zq55.R := zq55.o0 N a0 ((fun w0 w1 w2 => zq55.l1 N N w0 w1 w2))
theorem zq55.c1_0 : zq55.c1 = (.seq zq55.c2 (.seq (.seq zq55.c12 (.block 0 (.loop zq55.c52))) zq55.c7)) := by kernel_rfl
theorem zq55.g.run (N : Nat) (a0 : List S25) : runC zq55.C (zq55.O N) N zq55.c1 1 (st0 [.one (.sl false 25 a0), .one (.fn 114 [])] [] : St D0) zq55.K0 = zq55.g N a0 := by
  rw [zq55.c1_0]; unfold zq55.g; exact (zq55.o0.run N zq55.c52 a0).trans (congr rfl (funext fun w0 => funext fun w1 => funext fun w2 => (zq55.loop26 N N) w0 w1 w2))
theorem zq55.good (N : Nat) (a0 : List S25) (r : zq55.R) (h : zq55.g N a0 = some r) : Go.PM.Good Tryz.prog T0 128 [.one (.sl false 25 a0), .one (.fn 114 [])] [] (zq55.sig.ret r) (zq55.sig.bs r) :=
  good_fn tabOk0 mixed0 zq55.sig (zq55.E N) Tryz.func128 (by kernel_rfl) (by kernel_rfl) 66483 0 0 [(26, [0, 1, 7, 8], [])] 14400 false [] [(false, [.any])] (by kernel_rfl) rfl rfl ((zq55.g.run N a0).trans h)
def zq55.ent (N : Nat) : Ent Tryz.prog T0 := mkEnt 128 [(false, [.ro 25]), (false, [.any])] zq55.sig (fun t => zq55.g N t.1) (fun t r h => zq55.good N t.1 r h)
/-! ### zq54 -/
abbrev zq54.R : Type := Bool
abbrev zq54.sig : Sig := ⟨[(false, 1), (false, 1)], [], [.sl false 25, .fn 114 []], [(false, 1)], [], [.bool]⟩
def zq54.C : Cfg D0 := ⟨Tryz.prog, T0, 19, 0, 9, 0, [], 96, false, []⟩
def zq54.E (N : Nat) : List (Ent Tryz.prog T0) := [zq55.ent N]
def zq54.O (N : Nat) : Orc D0 zq54.R := orcOf (zq54.E N)
def zq54.K0 : Ex → St D0 → Option zq54.R := exitK zq54.C Tryz.f113.results.toList [(false, [.any])] (decOut zq54.sig)
def zq54.c1 : Code := codeAt (Tryz.f113.body.getD .skip) []
def zq54.o0 (N : Nat) (a0 : List S25) : Option zq54.R :=
 (zq55.g N a0).bind fun r1 =>
 some ((decide (r1 ≥ 0)))
theorem zq54.o0.run (N : Nat) (a0 : List S25) : runC zq54.C (zq54.O N) N zq54.c1 1 (st0 [.one (.sl false 25 a0), .one (.fn 114 [])] [] : St D0) zq54.K0 = zq54.o0 N a0 := by kernel_rfl
def zq54.g (N : Nat) (a0 : List S25) : Option zq54.R := zq54.o0 N a0
theorem zq54.g.run (N : Nat) (a0 : List S25) : runC zq54.C (zq54.O N) N zq54.c1 1 (st0 [.one (.sl false 25 a0), .one (.fn 114 [])] [] : St D0) zq54.K0 = zq54.g N a0 := by
  exact (zq54.o0.run N a0).trans rfl
theorem zq54.good (N : Nat) (a0 : List S25) (r : zq54.R) (h : zq54.g N a0 = some r) : Go.PM.Good Tryz.prog T0 113 [.one (.sl false 25 a0), .one (.fn 114 [])] [] (zq54.sig.ret r) (zq54.sig.bs r) :=
  good_fn tabOk0 mixed0 zq54.sig (zq54.E N) Tryz.func113 (by kernel_rfl) (by kernel_rfl) 19 0 0 [] 96 false [] [(false, [.any])] (by kernel_rfl) rfl rfl ((zq54.g.run N a0).trans h)
def zq54.ent (N : Nat) : Ent Tryz.prog T0 := mkEnt 113 [(false, [.ro 25]), (false, [.any])] zq54.sig (fun t => zq54.g N t.1) (fun t r h => zq54.good N t.1 r h)
/-! ### zq30 -/
abbrev zq30.R : Type := Bool
abbrev zq30.sig : Sig := ⟨[(false, 1)], [], [.sl false 25], [(false, 1)], [], [.bool]⟩
def zq30.C : Cfg D0 := ⟨Tryz.prog, T0, 5, 0, 6, 0, [], 8, false, []⟩
def zq30.E (N : Nat) : List (Ent Tryz.prog T0) := [zq54.ent N]
def zq30.O (N : Nat) : Orc D0 zq30.R := orcOf (zq30.E N)
def zq30.K0 : Ex → St D0 → Option zq30.R := exitK zq30.C Tryz.f74.results.toList [(false, [.any])] (decOut zq30.sig)
def zq30.c1 : Code := codeAt (Tryz.f74.body.getD .skip) []
def zq30.o0 (N : Nat) (a0 : List S25) : Option zq30.R :=
 (zq54.g N a0).bind fun r1 =>
 some ((!r1))
theorem zq30.o0.run (N : Nat) (a0 : List S25) : runC zq30.C (zq30.O N) N zq30.c1 1 (st0 [.one (.sl false 25 a0)] [] : St D0) zq30.K0 = zq30.o0 N a0 := by kernel_rfl
def zq30.g (N : Nat) (a0 : List S25) : Option zq30.R := zq30.o0 N a0
theorem zq30.g.run (N : Nat) (a0 : List S25) : runC zq30.C (zq30.O N) N zq30.c1 1 (st0 [.one (.sl false 25 a0)] [] : St D0) zq30.K0 = zq30.g N a0 := by
  exact (zq30.o0.run N a0).trans rfl
theorem zq30.good (N : Nat) (a0 : List S25) (r : zq30.R) (h : zq30.g N a0 = some r) : Go.PM.Good Tryz.prog T0 74 [.one (.sl false 25 a0)] [] (zq30.sig.ret r) (zq30.sig.bs r) :=
  good_fn tabOk0 mixed0 zq30.sig (zq30.E N) Tryz.func74 (by kernel_rfl) (by kernel_rfl) 5 0 0 [] 8 false [] [(false, [.any])] (by kernel_rfl) rfl rfl ((zq30.g.run N a0).trans h)
def zq30.ent (N : Nat) : Ent Tryz.prog T0 := mkEnt 74 [(false, [.ro 25])] zq30.sig (fun t => zq30.g N t) (fun t r h => zq30.good N t r h)
/-! ### zq27 -/
abbrev zq27.R : Type := Int × Int
abbrev zq27.sig : Sig := ⟨[(true, 2), (true, 2)], [], [.int .i64, .int .i64, .int .i64, .int .i64], [(true, 2)], [], [.int .i64, .int .i64]⟩
def zq27.C : Cfg D0 := ⟨Tryz.prog, T0, 31, 0, 22, 0, [], 0, false, []⟩
def zq27.E (N : Nat) : List (Ent Tryz.prog T0) := [zq41.ent N]
def zq27.O (N : Nat) : Orc D0 zq27.R := orcOf (zq27.E N)
def zq27.K0 : Ex → St D0 → Option zq27.R := exitK zq27.C Tryz.f76.results.toList [(true, [.any, .any])] (decOut zq27.sig)
def zq27.c1 : Code := codeAt (Tryz.f76.body.getD .skip) []
def zq27.o0 (N : Nat) (a0_0 : Int) (a0_1 : Int) (a1_0 : Int) (a1_1 : Int) : Option zq27.R :=
 (zq41.g N (w64 ((w64 (a0_0 * a1_1)) + (w64 (a1_0 * a0_1)))) (w64 (a0_1 * a1_1))).bind fun r1 =>
 some (r1.1, r1.2)
theorem zq27.o0.run (N : Nat) (a0_0 : Int) (a0_1 : Int) (a1_0 : Int) (a1_1 : Int) : runC zq27.C (zq27.O N) N zq27.c1 1 (st0 [.agg [.int .i64 a0_0, .int .i64 a0_1], .agg [.int .i64 a1_0, .int .i64 a1_1]] [] : St D0) zq27.K0 = zq27.o0 N a0_0 a0_1 a1_0 a1_1 := by kernel_rfl
def zq27.g (N : Nat) (a0_0 : Int) (a0_1 : Int) (a1_0 : Int) (a1_1 : Int) : Option zq27.R := zq27.o0 N a0_0 a0_1 a1_0 a1_1
theorem zq27.g.run (N : Nat) (a0_0 : Int) (a0_1 : Int) (a1_0 : Int) (a1_1 : Int) : runC zq27.C (zq27.O N) N zq27.c1 1 (st0 [.agg [.int .i64 a0_0, .int .i64 a0_1], .agg [.int .i64 a1_0, .int .i64 a1_1]] [] : St D0) zq27.K0 = zq27.g N a0_0 a0_1 a1_0 a1_1 := by
  exact (zq27.o0.run N a0_0 a0_1 a1_0 a1_1).trans rfl
theorem zq27.good (N : Nat) (a0_0 : Int) (a0_1 : Int) (a1_0 : Int) (a1_1 : Int) (r : zq27.R) (h : zq27.g N a0_0 a0_1 a1_0 a1_1 = some r) : Go.PM.Good Tryz.prog T0 76 [.agg [.int .i64 a0_0, .int .i64 a0_1], .agg [.int .i64 a1_0, .int .i64 a1_1]] [] (zq27.sig.ret r) (zq27.sig.bs r) :=
  good_fn tabOk0 mixed0 zq27.sig (zq27.E N) Tryz.func76 (by kernel_rfl) (by kernel_rfl) 31 0 0 [] 0 false [] [(true, [.any, .any])] (by kernel_rfl) rfl rfl ((zq27.g.run N a0_0 a0_1 a1_0 a1_1).trans h)
def zq27.ent (N : Nat) : Ent Tryz.prog T0 := mkEnt 76 [(true, [.any, .any]), (true, [.any, .any])] zq27.sig (fun t => zq27.g N t.1 t.2.1 t.2.2.1 t.2.2.2) (fun t r h => zq27.good N t.1 t.2.1 t.2.2.1 t.2.2.2 r h)
/-! ### zq34 -/
abbrev zq34.R : Type := Int × Int × Bool
abbrev zq34.sig : Sig := ⟨[(true, 2)], [], [.int .i64, .int .i64], [(true, 2), (false, 1)], [], [.int .i64, .int .i64, .bool]⟩
def zq34.C : Cfg D0 := ⟨Tryz.prog, T0, 79, 0, 9, 0, [], 0, false, []⟩
def zq34.E (N : Nat) : List (Ent Tryz.prog T0) := [zq7.ent N]
def zq34.O (N : Nat) : Orc D0 zq34.R := orcOf (zq34.E N)
def zq34.K0 : Ex → St D0 → Option zq34.R := exitK zq34.C Tryz.f75.results.toList [(true, [.any, .any]), (false, [.any])] (decOut zq34.sig)
def zq34.c1 : Code := codeAt (Tryz.f75.body.getD .skip) []
def zq34.o0 (N : Nat) (a0_0 : Int) (a0_1 : Int) : Option zq34.R :=
 (zq7.g N a0_0 a0_1).bind fun r1 =>
 bif (!r1) then
  some (0, 0, false)
 else
 some (a0_0, a0_1, true)
theorem zq34.o0.run (N : Nat) (a0_0 : Int) (a0_1 : Int) : runC zq34.C (zq34.O N) N zq34.c1 1 (st0 [.agg [.int .i64 a0_0, .int .i64 a0_1]] [] : St D0) zq34.K0 = zq34.o0 N a0_0 a0_1 := by kernel_rfl
def zq34.g (N : Nat) (a0_0 : Int) (a0_1 : Int) : Option zq34.R := zq34.o0 N a0_0 a0_1
theorem zq34.g.run (N : Nat) (a0_0 : Int) (a0_1 : Int) : runC zq34.C (zq34.O N) N zq34.c1 1 (st0 [.agg [.int .i64 a0_0, .int .i64 a0_1]] [] : St D0) zq34.K0 = zq34.g N a0_0 a0_1 := by
  exact (zq34.o0.run N a0_0 a0_1).trans rfl
theorem zq34.good (N : Nat) (a0_0 : Int) (a0_1 : Int) (r : zq34.R) (h : zq34.g N a0_0 a0_1 = some r) : Go.PM.Good Tryz.prog T0 75 [.agg [.int .i64 a0_0, .int .i64 a0_1]] [] (zq34.sig.ret r) (zq34.sig.bs r) :=
  good_fn tabOk0 mixed0 zq34.sig (zq34.E N) Tryz.func75 (by kernel_rfl) (by kernel_rfl) 79 0 0 [] 0 false [] [(true, [.any, .any]), (false, [.any])] (by kernel_rfl) rfl rfl ((zq34.g.run N a0_0 a0_1).trans h)
def zq34.ent (N : Nat) : Ent Tryz.prog T0 := mkEnt 75 [(true, [.any, .any])] zq34.sig (fun t => zq34.g N t.1 t.2) (fun t r h => zq34.good N t.1 t.2 r h)
/-! ### zq2 -/
abbrev zq2.R : Type := Int × Int × Bool
abbrev zq2.sig : Sig := ⟨[(true, 2), (true, 2)], [], [.int .i64, .int .i64, .int .i64, .int .i64], [(true, 2), (false, 1)], [], [.int .i64, .int .i64, .bool]⟩
def zq2.C : Cfg D0 := ⟨Tryz.prog, T0, 1087, 0, 18, 0, [], 0, false, []⟩
def zq2.E (N : Nat) : List (Ent Tryz.prog T0) := [zq30.ent N, zq27.ent N, zq34.ent N]
def zq2.O (N : Nat) : Orc D0 zq2.R := orcOf (zq2.E N)
def zq2.K0 : Ex → St D0 → Option zq2.R := exitK zq2.C Tryz.f24.results.toList [(true, [.any, .any]), (false, [.any])] (decOut zq2.sig)
def zq2.c1 : Code := codeAt (Tryz.f24.body.getD .skip) []
def zq2.o0 (N : Nat) (a0_0 : Int) (a0_1 : Int) (a1_0 : Int) (a1_1 : Int) : Option zq2.R :=
 (zq30.g N ([(⟨a0_0, a0_1⟩ : S25), (⟨a1_0, a1_1⟩ : S25)] : List S25)).bind fun r1 =>
 bif (!r1) then
  some (0, 0, false)
 else
 (zq27.g N a0_0 a0_1 a1_0 a1_1).bind fun r2 =>
 (zq34.g N r2.1 r2.2).bind fun r3 =>
 some (r3.1, r3.2.1, r3.2.2)
theorem zq2.o0.run (N : Nat) (a0_0 : Int) (a0_1 : Int) (a1_0 : Int) (a1_1 : Int) : runC zq2.C (zq2.O N) N zq2.c1 1 (st0 [.agg [.int .i64 a0_0, .int .i64 a0_1], .agg [.int .i64 a1_0, .int .i64 a1_1]] [] : St D0) zq2.K0 = zq2.o0 N a0_0 a0_1 a1_0 a1_1 := by kernel_rfl
def zq2.g (N : Nat) (a0_0 : Int) (a0_1 : Int) (a1_0 : Int) (a1_1 : Int) : Option zq2.R := zq2.o0 N a0_0 a0_1 a1_0 a1_1
theorem zq2.g.run (N : Nat) (a0_0 : Int) (a0_1 : Int) (a1_0 : Int) (a1_1 : Int) : runC zq2.C (zq2.O N) N zq2.c1 1 (st0 [.agg [.int .i64 a0_0, .int .i64 a0_1], .agg [.int .i64 a1_0, .int .i64 a1_1]] [] : St D0) zq2.K0 = zq2.g N a0_0 a0_1 a1_0 a1_1 := by
  exact (zq2.o0.run N a0_0 a0_1 a1_0 a1_1).trans rfl
theorem zq2.good (N : Nat) (a0_0 : Int) (a0_1 : Int) (a1_0 : Int) (a1_1 : Int) (r : zq2.R) (h : zq2.g N a0_0 a0_1 a1_0 a1_1 = some r) : Go.PM.Good Tryz.prog T0 24 [.agg [.int .i64 a0_0, .int .i64 a0_1], .agg [.int .i64 a1_0, .int .i64 a1_1]] [] (zq2.sig.ret r) (zq2.sig.bs r) :=
  good_fn tabOk0 mixed0 zq2.sig (zq2.E N) Tryz.func24 (by kernel_rfl) (by kernel_rfl) 1087 0 0 [] 0 false [] [(true, [.any, .any]), (false, [.any])] (by kernel_rfl) rfl rfl ((zq2.g.run N a0_0 a0_1 a1_0 a1_1).trans h)
def zq2.ent (N : Nat) : Ent Tryz.prog T0 := mkEnt 24 [(true, [.any, .any]), (true, [.any, .any])] zq2.sig (fun t => zq2.g N t.1 t.2.1 t.2.2.1 t.2.2.2) (fun t r h => zq2.good N t.1 t.2.1 t.2.2.1 t.2.2.2 r h)
/-! ### zq43 -/
abbrev zq43.R : Type := List S25 × Bool
abbrev zq43.sig : Sig := ⟨[(true, 2), (false, 1)], [], [.int .i64, .int .i64, .int .i64], [(false, 1), (false, 1)], [], [.sl true 25, .bool]⟩
def zq43.C : Cfg D0 := ⟨Tryz.prog, T0, 3831, 0, 32, 0, [(58, [1, 2, 6, 9, 10], [2])], 1082195968, false, []⟩
def zq43.E (N : Nat) : List (Ent Tryz.prog T0) := [zq41.ent N, zq30.ent N]
def zq43.O (N : Nat) : Orc D0 zq43.R := orcOf (zq43.E N)
def zq43.K0 : Ex → St D0 → Option zq43.R := exitK zq43.C Tryz.f68.results.toList [(false, [.own 25]), (false, [.any])] (decOut zq43.sig)
def zq43.c1 : Code := codeAt (Tryz.f68.body.getD .skip) []
def zq43.c2 : Code := codeAt (Tryz.f68.body.getD .skip) [false]
def zq43.c6 : Code := codeAt (Tryz.f68.body.getD .skip) [true, false]
def zq43.c15 : Code := codeAt (Tryz.f68.body.getD .skip) [true, true, true]
def zq43.c28 : Code := codeAt (Tryz.f68.body.getD .skip) [true, true, false, false]
def zq43.c116 : Code := codeAt (Tryz.f68.body.getD .skip) [true, true, false, true, false, false]
def zq43.K116 (N : Nat) (Kn58 : St D0 → Option zq43.R) : Ex → St D0 → Option zq43.R := ((fun up => (onN (fun s => zq43.C.tidy 58 s ((onN Kn58 up) .normal)) (onN Kn58 up))) (blockK 0 (onN (fun s => zq43.C.tidy 14 s (fun s' => runC zq43.C (zq43.O N) N zq43.c15 15 s' zq43.K0)) zq43.K0)))
def zq43.o1 (N : Nat) (v0 : Int) (v1 : List S25) (v2 : Int) (v3 : Int) (v4 : Int) (v5 : Int) (c1 : Int → (List S25) → Int → Int → Int → Int → Option zq43.R) : Option zq43.R :=
 bif (decide (v3 < v2)) then
  (zq41.g N (w64 (v4 + (w64 (v3 * v5)))) (w64 (v5 * v0))).bind fun r1 =>
  bif (Nat.blt (v1.length + ([(⟨r1.1, r1.2⟩ : S25)] : List S25).length) 8796093022208) then
   c1 v0 (v1 ++ ([(⟨r1.1, r1.2⟩ : S25)] : List S25)) v2 (w64 (v3 + 1)) v4 v5
  else
  none
 else
 (zq30.g N v1).bind fun r2 =>
 some (v1, r2)
theorem zq43.o1.run (N : Nat) (Kn58 : St D0 → Option zq43.R) (v0 : Int) (v1 : List S25) (v2 : Int) (v3 : Int) (v4 : Int) (v5 : Int) : runC zq43.C (zq43.O N) N zq43.c116 116 (mkSt [(1, .one (.int .i64 v0)), (2, .one (.ptr 2 0)), (6, .one (.sl true 25 v1)), (9, .one (.int .i64 v2)), (10, .one (.int .i64 v3))] [(2, some (25, [.int .i64 v4, .int .i64 v5]))] : St D0) ((fun up => (onN (fun s => zq43.C.tidy 58 s ((onN Kn58 up) .normal)) (onN Kn58 up))) (blockK 0 (onN (fun s => zq43.C.tidy 14 s (fun s' => runC zq43.C (zq43.O N) N zq43.c15 15 s' zq43.K0)) zq43.K0))) = zq43.o1 N v0 v1 v2 v3 v4 v5 ((fun w0 w1 w2 w3 w4 w5 => Kn58 (mkSt [(1, .one (.int .i64 w0)), (2, .one (.ptr 2 0)), (6, .one (.sl true 25 w1)), (9, .one (.int .i64 w2)), (10, .one (.int .i64 w3))] [(2, some (25, [.int .i64 w4, .int .i64 w5]))] : St D0))) := by kernel_rfl
def zq43.d1 (N : Nat) (v0 : Int) (v1 : List S25) (v2 : Int) (v3 : Int) (v4 : Int) (v5 : Int) (c1 : Int → (List S25) → Int → Int → Int → Int → Option zq43.R) : Option zq43.R := zq43.o1 N v0 v1 v2 v3 v4 v5 c1
theorem zq43.d1.run (N : Nat) (Kn58 : St D0 → Option zq43.R) (v0 : Int) (v1 : List S25) (v2 : Int) (v3 : Int) (v4 : Int) (v5 : Int) : runC zq43.C (zq43.O N) N zq43.c116 116 (mkSt [(1, .one (.int .i64 v0)), (2, .one (.ptr 2 0)), (6, .one (.sl true 25 v1)), (9, .one (.int .i64 v2)), (10, .one (.int .i64 v3))] [(2, some (25, [.int .i64 v4, .int .i64 v5]))] : St D0) (zq43.K116 N Kn58) = zq43.d1 N v0 v1 v2 v3 v4 v5 ((fun w0 w1 w2 w3 w4 w5 => Kn58 (mkSt [(1, .one (.int .i64 w0)), (2, .one (.ptr 2 0)), (6, .one (.sl true 25 w1)), (9, .one (.int .i64 w2)), (10, .one (.int .i64 w3))] [(2, some (25, [.int .i64 w4, .int .i64 w5]))] : St D0))) := by
  exact (zq43.o1.run N Kn58 v0 v1 v2 v3 v4 v5).trans rfl
def zq43.K58 (N : Nat) : Ex → St D0 → Option zq43.R := (blockK 0 (onN (fun s => zq43.C.tidy 14 s (fun s' => runC zq43.C (zq43.O N) N zq43.c15 15 s' zq43.K0)) zq43.K0))
def zq43.l1 (N : Nat) : Nat → Int → (List S25) → Int → Int → Int → Int → Option zq43.R
  | 0, _, _, _, _, _, _ => none
  | n + 1, v0, v1, v2, v3, v4, v5 => zq43.d1 N v0 v1 v2 v3 v4 v5 ((fun w0 w1 w2 w3 w4 w5 => zq43.l1 N n w0 w1 w2 w3 w4 w5))
theorem zq43.loop58 (N : Nat) : ∀ n, (∀ (v0 : Int) (v1 : List S25) (v2 : Int) (v3 : Int) (v4 : Int) (v5 : Int), iter (loopF zq43.C (zq43.O N) N zq43.c116 58) n (mkSt [(1, .one (.int .i64 v0)), (2, .one (.ptr 2 0)), (6, .one (.sl true 25 v1)), (9, .one (.int .i64 v2)), (10, .one (.int .i64 v3))] [(2, some (25, [.int .i64 v4, .int .i64 v5]))] : St D0) (zq43.K58 N) = zq43.l1 N n v0 v1 v2 v3 v4 v5)
  | 0 => (fun v0 v1 v2 v3 v4 v5 => rfl)
  | n + 1 => (fun v0 v1 v2 v3 v4 v5 => (zq43.d1.run N (fun s => iter (loopF zq43.C (zq43.O N) N zq43.c116 58) n s (zq43.K58 N)) v0 v1 v2 v3 v4 v5).trans (show _ = zq43.d1 N v0 v1 v2 v3 v4 v5 ((fun w0 w1 w2 w3 w4 w5 => zq43.l1 N n w0 w1 w2 w3 w4 w5)) from (congr rfl (funext fun w0 => funext fun w1 => funext fun w2 => funext fun w3 => funext fun w4 => funext fun w5 => (zq43.loop58 N n) w0 w1 w2 w3 w4 w5))))
def zq43.o0 (N : Nat) (a0_0 : Int) (a0_1 : Int) (a1 : Int) (c1 : Int → (List S25) → Int → Int → Int → Int → Option zq43.R) : Option zq43.R :=
 c1 a1 ([] : List S25) a1 0 a0_0 a0_1
theorem zq43.o0.run (N : Nat) (H116 : Code) (a0_0 : Int) (a0_1 : Int) (a1 : Int) : runC zq43.C (zq43.O N) N (.seq zq43.c2 (.seq zq43.c6 (.seq (.seq zq43.c28 (.block 0 (.loop H116))) zq43.c15))) 1 (st0 [.agg [.int .i64 a0_0, .int .i64 a0_1], .one (.int .i64 a1)] [] : St D0) zq43.K0 = zq43.o0 N a0_0 a0_1 a1 ((fun w0 w1 w2 w3 w4 w5 => iter (loopF zq43.C (zq43.O N) N H116 58) N (mkSt [(1, .one (.int .i64 w0)), (2, .one (.ptr 2 0)), (6, .one (.sl true 25 w1)), (9, .one (.int .i64 w2)), (10, .one (.int .i64 w3))] [(2, some (25, [.int .i64 w4, .int .i64 w5]))] : St D0) (blockK 0 (onN (fun s => zq43.C.tidy 14 s (fun s' => runC zq43.C (zq43.O N) N zq43.c15 15 s' zq43.K0)) zq43.K0)))) := by kernel_rfl
def zq43.g (N : Nat) (a0_0 : Int) (a0_1 : Int) (a1 : Int) : Option zq43.R := zq43.o0 N a0_0 a0_1 a1 ((fun w0 w1 w2 w3 w4 w5 => zq43.l1 N N w0 w1 w2 w3 w4 w5))
theorem zq43.c1_0 : zq43.c1 = (.seq zq43.c2 (.seq zq43.c6 (.seq (.seq zq43.c28 (.block 0 (.loop zq43.c116))) zq43.c15))) := by kernel_rfl
theorem zq43.g.run (N : Nat) (a0_0 : Int) (a0_1 : Int) (a1 : Int) : runC zq43.C (zq43.O N) N zq43.c1 1 (st0 [.agg [.int .i64 a0_0, .int .i64 a0_1], .one (.int .i64 a1)] [] : St D0) zq43.K0 = zq43.g N a0_0 a0_1 a1 := by
  rw [zq43.c1_0]; unfold zq43.g; exact (zq43.o0.run N zq43.c116 a0_0 a0_1 a1).trans (congr rfl (funext fun w0 => funext fun w1 => funext fun w2 => funext fun w3 => funext fun w4 => funext fun w5 => (zq43.loop58 N N) w0 w1 w2 w3 w4 w5))
theorem zq43.good (N : Nat) (a0_0 : Int) (a0_1 : Int) (a1 : Int) (r : zq43.R) (h : zq43.g N a0_0 a0_1 a1 = some r) : Go.PM.Good Tryz.prog T0 68 [.agg [.int .i64 a0_0, .int .i64 a0_1], .one (.int .i64 a1)] [] (zq43.sig.ret r) (zq43.sig.bs r) :=
  good_fn tabOk0 mixed0 zq43.sig (zq43.E N) Tryz.func68 (by kernel_rfl) (by kernel_rfl) 3831 0 0 [(58, [1, 2, 6, 9, 10], [2])] 1082195968 false [] [(false, [.own 25]), (false, [.any])] (by kernel_rfl) rfl rfl ((zq43.g.run N a0_0 a0_1 a1).trans h)
def zq43.ent (N : Nat) : Ent Tryz.prog T0 := mkEnt 68 [(true, [.any, .any]), (false, [.any])] zq43.sig (fun t => zq43.g N t.1 t.2.1 t.2.2) (fun t r h => zq43.good N t.1 t.2.1 t.2.2 r h)
/-! ### zq35 -/
abbrev zq35.R : Type := List S25 × Bool
abbrev zq35.sig : Sig := ⟨[(false, 1), (false, 1)], [], [.sl false 25, .bool], [(false, 1), (false, 1)], [], [.sl false 25, .bool]⟩
def zq35.C : Cfg D0 := ⟨Tryz.prog, T0, 4147, 0, 14, 0, [(12, [0, 12], [])], 576, false, []⟩
def zq35.E (N : Nat) : List (Ent Tryz.prog T0) := [zq30.ent N]
def zq35.O (N : Nat) : Orc D0 zq35.R := orcOf (zq35.E N)
def zq35.K0 : Ex → St D0 → Option zq35.R := exitK zq35.C Tryz.f67.results.toList [(false, [.ro 25]), (false, [.any])] (decOut zq35.sig)
def zq35.c1 : Code := codeAt (Tryz.f67.body.getD .skip) []
def zq35.c2 : Code := codeAt (Tryz.f67.body.getD .skip) [false]
def zq35.c7 : Code := codeAt (Tryz.f67.body.getD .skip) [true, true]
def zq35.c12 : Code := codeAt (Tryz.f67.body.getD .skip) [true, false, false]
def zq35.c13 : Code := codeAt (Tryz.f67.body.getD .skip) [true, false, true]
def zq35.K13 (N : Nat) : Ex → St D0 → Option zq35.R := (onN (fun s => zq35.C.tidy 6 s (fun s' => runC zq35.C (zq35.O N) N zq35.c7 7 s' zq35.K0)) zq35.K0)
def zq35.o1 (N : Nat) (v0 : List S25) (v1 : Bool) : Option zq35.R :=
 bif v1 then
  some (([] : List S25), false)
 else
 some (v0, true)
theorem zq35.o1.run (N : Nat) (v0 : List S25) (v1 : Bool) : runC zq35.C (zq35.O N) N zq35.c13 13 (mkSt [(0, .one (.sl false 25 v0)), (12, .one (.bool v1))] [] : St D0) (onN (fun s => zq35.C.tidy 6 s (fun s' => runC zq35.C (zq35.O N) N zq35.c7 7 s' zq35.K0)) zq35.K0) = zq35.o1 N v0 v1 := by kernel_rfl
def zq35.d1 (N : Nat) (v0 : List S25) (v1 : Bool) : Option zq35.R := zq35.o1 N v0 v1
theorem zq35.d1.run (N : Nat) (v0 : List S25) (v1 : Bool) : runC zq35.C (zq35.O N) N zq35.c13 13 (mkSt [(0, .one (.sl false 25 v0)), (12, .one (.bool v1))] [] : St D0) (zq35.K13 N) = zq35.d1 N v0 v1 := by
  exact (zq35.o1.run N v0 v1).trans rfl
def zq35.o0 (N : Nat) (a0 : List S25) (a1 : Bool) (c1 : (List S25) → Bool → Option zq35.R) : Option zq35.R :=
 bif (!a1) then
  c1 a0 true
 else
 (zq30.g N a0).bind fun r1 =>
 c1 a0 (!r1)
theorem zq35.o0.run (N : Nat) (H13 : Code) (a0 : List S25) (a1 : Bool) : runC zq35.C (zq35.O N) N (.seq zq35.c2 (.seq (.seq zq35.c12 H13) zq35.c7)) 1 (st0 [.one (.sl false 25 a0), .one (.bool a1)] [] : St D0) zq35.K0 = zq35.o0 N a0 a1 ((fun w0 w1 => runC zq35.C (zq35.O N) N H13 13 (mkSt [(0, .one (.sl false 25 w0)), (12, .one (.bool w1))] [] : St D0) (onN (fun s => zq35.C.tidy 6 s (fun s' => runC zq35.C (zq35.O N) N zq35.c7 7 s' zq35.K0)) zq35.K0))) := by kernel_rfl
def zq35.g (N : Nat) (a0 : List S25) (a1 : Bool) : Option zq35.R := zq35.o0 N a0 a1 ((fun w0 w1 => zq35.d1 N w0 w1))
theorem zq35.c1_0 : zq35.c1 = (.seq zq35.c2 (.seq (.seq zq35.c12 zq35.c13) zq35.c7)) := by kernel_rfl
theorem zq35.g.run (N : Nat) (a0 : List S25) (a1 : Bool) : runC zq35.C (zq35.O N) N zq35.c1 1 (st0 [.one (.sl false 25 a0), .one (.bool a1)] [] : St D0) zq35.K0 = zq35.g N a0 a1 := by
  rw [zq35.c1_0]; unfold zq35.g; exact (zq35.o0.run N zq35.c13 a0 a1).trans (congr rfl (funext fun w0 => funext fun w1 => zq35.d1.run N w0 w1))
theorem zq35.good (N : Nat) (a0 : List S25) (a1 : Bool) (r : zq35.R) (h : zq35.g N a0 a1 = some r) : Go.PM.Good Tryz.prog T0 67 [.one (.sl false 25 a0), .one (.bool a1)] [] (zq35.sig.ret r) (zq35.sig.bs r) :=
  good_fn tabOk0 mixed0 zq35.sig (zq35.E N) Tryz.func67 (by kernel_rfl) (by kernel_rfl) 4147 0 0 [(12, [0, 12], [])] 576 false [] [(false, [.ro 25]), (false, [.any])] (by kernel_rfl) rfl rfl ((zq35.g.run N a0 a1).trans h)
def zq35.ent (N : Nat) : Ent Tryz.prog T0 := mkEnt 67 [(false, [.ro 25]), (false, [.any])] zq35.sig (fun t => zq35.g N t.1 t.2) (fun t r h => zq35.good N t.1 t.2 r h)
/-! ### zq24 -/
abbrev zq24.R : Type := List S25 × Bool
abbrev zq24.sig : Sig := ⟨[(false, 1), (true, 2)], [], [.int .i64, .int .i64, .int .i64], [(false, 1), (false, 1)], [], [.sl false 25, .bool]⟩
def zq24.C : Cfg D0 := ⟨Tryz.prog, T0, 571, 0, 18, 0, [], 2112, false, []⟩
def zq24.E (N : Nat) : List (Ent Tryz.prog T0) := [zq39.ent N, zq43.ent N, zq35.ent N]
def zq24.O (N : Nat) : Orc D0 zq24.R := orcOf (zq24.E N)
def zq24.K0 : Ex → St D0 → Option zq24.R := exitK zq24.C Tryz.f19.results.toList [(false, [.ro 25]), (false, [.any])] (decOut zq24.sig)
def zq24.c1 : Code := codeAt (Tryz.f19.body.getD .skip) []
def zq24.o0 (N : Nat) (a0 : Int) (a1_0 : Int) (a1_1 : Int) : Option zq24.R :=
 (zq39.g N a0 a1_0 a1_1).bind fun r1 =>
 bif (!r1) then
  some (([] : List S25), false)
 else
 (zq43.g N a1_0 a1_1 a0).bind fun r2 =>
 (zq35.g N r2.1 r2.2).bind fun r3 =>
 some (r3.1, r3.2)
theorem zq24.o0.run (N : Nat) (a0 : Int) (a1_0 : Int) (a1_1 : Int) : runC zq24.C (zq24.O N) N zq24.c1 1 (st0 [.one (.int .i64 a0), .agg [.int .i64 a1_0, .int .i64 a1_1]] [] : St D0) zq24.K0 = zq24.o0 N a0 a1_0 a1_1 := by kernel_rfl
def zq24.g (N : Nat) (a0 : Int) (a1_0 : Int) (a1_1 : Int) : Option zq24.R := zq24.o0 N a0 a1_0 a1_1
theorem zq24.g.run (N : Nat) (a0 : Int) (a1_0 : Int) (a1_1 : Int) : runC zq24.C (zq24.O N) N zq24.c1 1 (st0 [.one (.int .i64 a0), .agg [.int .i64 a1_0, .int .i64 a1_1]] [] : St D0) zq24.K0 = zq24.g N a0 a1_0 a1_1 := by
  exact (zq24.o0.run N a0 a1_0 a1_1).trans rfl
theorem zq24.good (N : Nat) (a0 : Int) (a1_0 : Int) (a1_1 : Int) (r : zq24.R) (h : zq24.g N a0 a1_0 a1_1 = some r) : Go.PM.Good Tryz.prog T0 19 [.one (.int .i64 a0), .agg [.int .i64 a1_0, .int .i64 a1_1]] [] (zq24.sig.ret r) (zq24.sig.bs r) :=
  good_fn tabOk0 mixed0 zq24.sig (zq24.E N) Tryz.func19 (by kernel_rfl) (by kernel_rfl) 571 0 0 [] 2112 false [] [(false, [.ro 25]), (false, [.any])] (by kernel_rfl) rfl rfl ((zq24.g.run N a0 a1_0 a1_1).trans h)
def zq24.ent (N : Nat) : Ent Tryz.prog T0 := mkEnt 19 [(false, [.any]), (true, [.any, .any])] zq24.sig (fun t => zq24.g N t.1 t.2.1 t.2.2) (fun t r h => zq24.good N t.1 t.2.1 t.2.2 r h)
/-! ### zq80 -/
abbrev zq80.R : Type := List S25 × Bool
abbrev zq80.sig : Sig := ⟨[(false, 1), (true, 2)], [], [.int .i64, .int .i64, .int .i64], [(false, 1), (false, 1)], [], [.sl true 25, .bool]⟩
def zq80.C : Cfg D0 := ⟨Tryz.prog, T0, 34359813115, 0, 41, 0, [(122, [0, 3, 6, 7], [3])], 17721115648, false, []⟩
def zq80.E (N : Nat) : List (Ent Tryz.prog T0) := [zq87.ent N, zq92.ent N]
def zq80.O (N : Nat) : Orc D0 zq80.R := orcOf (zq80.E N)
def zq80.K0 : Ex → St D0 → Option zq80.R := exitK zq80.C Tryz.f20.results.toList [(false, [.own 25]), (false, [.any])] (decOut zq80.sig)
def zq80.c1 : Code := codeAt (Tryz.f20.body.getD .skip) []
def zq80.c2 : Code := codeAt (Tryz.f20.body.getD .skip) [false]
def zq80.c6 : Code := codeAt (Tryz.f20.body.getD .skip) [true, false]
def zq80.c14 : Code := codeAt (Tryz.f20.body.getD .skip) [true, true, false]
def zq80.c31 : Code := codeAt (Tryz.f20.body.getD .skip) [true, true, true, true]
def zq80.c60 : Code := codeAt (Tryz.f20.body.getD .skip) [true, true, true, false, false]
def zq80.c244 : Code := codeAt (Tryz.f20.body.getD .skip) [true, true, true, false, true, false, false]
def zq80.K244 (N : Nat) (Kn122 : St D0 → Option zq80.R) : Ex → St D0 → Option zq80.R := ((fun up => (onN (fun s => zq80.C.tidy 122 s ((onN Kn122 up) .normal)) (onN Kn122 up))) (blockK 0 (onN (fun s => zq80.C.tidy 30 s (fun s' => runC zq80.C (zq80.O N) N zq80.c31 31 s' zq80.K0)) zq80.K0)))
def zq80.o1 (N : Nat) (v0 : Int) (v1 : Int) (v2 : Int) (v3 : Int) (c2 : Int → (List S25) → Int → Int → Int → Option zq80.R) : Option zq80.R :=
 bif (decide (v1 < v0)) then
  (zq92.g N (w64 (v2 + (w64 (v1 * v3)))) (w64 (v3 * v0))).bind fun r1 =>
  bif (!r1.2.2) then
   some (([] : List S25), false)
  else
  bif (Nat.blt (([] : List S25).length + ([(⟨r1.1, r1.2.1⟩ : S25)] : List S25).length) 8796093022208) then
   c2 v0 (([] : List S25) ++ ([(⟨r1.1, r1.2.1⟩ : S25)] : List S25)) (w64 (v1 + 1)) v2 v3
  else
  none
 else
 some (([] : List S25), true)
theorem zq80.o1.run (N : Nat) (Kn122 : St D0 → Option zq80.R) (v0 : Int) (v1 : Int) (v2 : Int) (v3 : Int) : runC zq80.C (zq80.O N) N zq80.c244 244 (mkSt [(0, .one (.int .i64 v0)), (3, .one (.ptr 3 0)), (6, .one (.nl)), (7, .one (.int .i64 v1))] [(3, some (25, [.int .i64 v2, .int .i64 v3]))] : St D0) ((fun up => (onN (fun s => zq80.C.tidy 122 s ((onN Kn122 up) .normal)) (onN Kn122 up))) (blockK 0 (onN (fun s => zq80.C.tidy 30 s (fun s' => runC zq80.C (zq80.O N) N zq80.c31 31 s' zq80.K0)) zq80.K0))) = zq80.o1 N v0 v1 v2 v3 ((fun w0 w1 w2 w3 w4 => Kn122 (mkSt [(0, .one (.int .i64 w0)), (3, .one (.ptr 3 0)), (6, .one (.sl true 25 w1)), (7, .one (.int .i64 w2))] [(3, some (25, [.int .i64 w3, .int .i64 w4]))] : St D0))) := by kernel_rfl
def zq80.d1 (N : Nat) (v0 : Int) (v1 : Int) (v2 : Int) (v3 : Int) (c2 : Int → (List S25) → Int → Int → Int → Option zq80.R) : Option zq80.R := zq80.o1 N v0 v1 v2 v3 c2
theorem zq80.d1.run (N : Nat) (Kn122 : St D0 → Option zq80.R) (v0 : Int) (v1 : Int) (v2 : Int) (v3 : Int) : runC zq80.C (zq80.O N) N zq80.c244 244 (mkSt [(0, .one (.int .i64 v0)), (3, .one (.ptr 3 0)), (6, .one (.nl)), (7, .one (.int .i64 v1))] [(3, some (25, [.int .i64 v2, .int .i64 v3]))] : St D0) (zq80.K244 N Kn122) = zq80.d1 N v0 v1 v2 v3 ((fun w0 w1 w2 w3 w4 => Kn122 (mkSt [(0, .one (.int .i64 w0)), (3, .one (.ptr 3 0)), (6, .one (.sl true 25 w1)), (7, .one (.int .i64 w2))] [(3, some (25, [.int .i64 w3, .int .i64 w4]))] : St D0))) := by
  exact (zq80.o1.run N Kn122 v0 v1 v2 v3).trans rfl
def zq80.o2 (N : Nat) (v0 : Int) (v1 : List S25) (v2 : Int) (v3 : Int) (v4 : Int) (c2 : Int → (List S25) → Int → Int → Int → Option zq80.R) : Option zq80.R :=
 bif (decide (v2 < v0)) then
  (zq92.g N (w64 (v3 + (w64 (v2 * v4)))) (w64 (v4 * v0))).bind fun r1 =>
  bif (!r1.2.2) then
   some (([] : List S25), false)
  else
  bif (Nat.blt (v1.length + ([(⟨r1.1, r1.2.1⟩ : S25)] : List S25).length) 8796093022208) then
   c2 v0 (v1 ++ ([(⟨r1.1, r1.2.1⟩ : S25)] : List S25)) (w64 (v2 + 1)) v3 v4
  else
  none
 else
 some (v1, true)
theorem zq80.o2.run (N : Nat) (Kn122 : St D0 → Option zq80.R) (v0 : Int) (v1 : List S25) (v2 : Int) (v3 : Int) (v4 : Int) : runC zq80.C (zq80.O N) N zq80.c244 244 (mkSt [(0, .one (.int .i64 v0)), (3, .one (.ptr 3 0)), (6, .one (.sl true 25 v1)), (7, .one (.int .i64 v2))] [(3, some (25, [.int .i64 v3, .int .i64 v4]))] : St D0) ((fun up => (onN (fun s => zq80.C.tidy 122 s ((onN Kn122 up) .normal)) (onN Kn122 up))) (blockK 0 (onN (fun s => zq80.C.tidy 30 s (fun s' => runC zq80.C (zq80.O N) N zq80.c31 31 s' zq80.K0)) zq80.K0))) = zq80.o2 N v0 v1 v2 v3 v4 ((fun w0 w1 w2 w3 w4 => Kn122 (mkSt [(0, .one (.int .i64 w0)), (3, .one (.ptr 3 0)), (6, .one (.sl true 25 w1)), (7, .one (.int .i64 w2))] [(3, some (25, [.int .i64 w3, .int .i64 w4]))] : St D0))) := by kernel_rfl
def zq80.d2 (N : Nat) (v0 : Int) (v1 : List S25) (v2 : Int) (v3 : Int) (v4 : Int) (c2 : Int → (List S25) → Int → Int → Int → Option zq80.R) : Option zq80.R := zq80.o2 N v0 v1 v2 v3 v4 c2
theorem zq80.d2.run (N : Nat) (Kn122 : St D0 → Option zq80.R) (v0 : Int) (v1 : List S25) (v2 : Int) (v3 : Int) (v4 : Int) : runC zq80.C (zq80.O N) N zq80.c244 244 (mkSt [(0, .one (.int .i64 v0)), (3, .one (.ptr 3 0)), (6, .one (.sl true 25 v1)), (7, .one (.int .i64 v2))] [(3, some (25, [.int .i64 v3, .int .i64 v4]))] : St D0) (zq80.K244 N Kn122) = zq80.d2 N v0 v1 v2 v3 v4 ((fun w0 w1 w2 w3 w4 => Kn122 (mkSt [(0, .one (.int .i64 w0)), (3, .one (.ptr 3 0)), (6, .one (.sl true 25 w1)), (7, .one (.int .i64 w2))] [(3, some (25, [.int .i64 w3, .int .i64 w4]))] : St D0))) := by
  exact (zq80.o2.run N Kn122 v0 v1 v2 v3 v4).trans rfl
def zq80.K122 (N : Nat) : Ex → St D0 → Option zq80.R := (blockK 0 (onN (fun s => zq80.C.tidy 30 s (fun s' => runC zq80.C (zq80.O N) N zq80.c31 31 s' zq80.K0)) zq80.K0))
mutual
def zq80.l1 (N : Nat) : Nat → Int → Int → Int → Int → Option zq80.R
  | 0, _, _, _, _ => none
  | n + 1, v0, v1, v2, v3 => zq80.d1 N v0 v1 v2 v3 ((fun w0 w1 w2 w3 w4 => zq80.l2 N n w0 w1 w2 w3 w4))
def zq80.l2 (N : Nat) : Nat → Int → (List S25) → Int → Int → Int → Option zq80.R
  | 0, _, _, _, _, _ => none
  | n + 1, v0, v1, v2, v3, v4 => zq80.d2 N v0 v1 v2 v3 v4 ((fun w0 w1 w2 w3 w4 => zq80.l2 N n w0 w1 w2 w3 w4))
end
theorem zq80.loop122 (N : Nat) : ∀ n, (∀ (v0 : Int) (v1 : Int) (v2 : Int) (v3 : Int), iter (loopF zq80.C (zq80.O N) N zq80.c244 122) n (mkSt [(0, .one (.int .i64 v0)), (3, .one (.ptr 3 0)), (6, .one (.nl)), (7, .one (.int .i64 v1))] [(3, some (25, [.int .i64 v2, .int .i64 v3]))] : St D0) (zq80.K122 N) = zq80.l1 N n v0 v1 v2 v3) ∧ (∀ (v0 : Int) (v1 : List S25) (v2 : Int) (v3 : Int) (v4 : Int), iter (loopF zq80.C (zq80.O N) N zq80.c244 122) n (mkSt [(0, .one (.int .i64 v0)), (3, .one (.ptr 3 0)), (6, .one (.sl true 25 v1)), (7, .one (.int .i64 v2))] [(3, some (25, [.int .i64 v3, .int .i64 v4]))] : St D0) (zq80.K122 N) = zq80.l2 N n v0 v1 v2 v3 v4)
  | 0 => ⟨(fun v0 v1 v2 v3 => rfl), (fun v0 v1 v2 v3 v4 => rfl)⟩
  | n + 1 => ⟨(fun v0 v1 v2 v3 => (zq80.d1.run N (fun s => iter (loopF zq80.C (zq80.O N) N zq80.c244 122) n s (zq80.K122 N)) v0 v1 v2 v3).trans (show _ = zq80.d1 N v0 v1 v2 v3 ((fun w0 w1 w2 w3 w4 => zq80.l2 N n w0 w1 w2 w3 w4)) from (congr rfl (funext fun w0 => funext fun w1 => funext fun w2 => funext fun w3 => funext fun w4 => (zq80.loop122 N n).2 w0 w1 w2 w3 w4)))), (fun v0 v1 v2 v3 v4 => (zq80.d2.run N (fun s => iter (loopF zq80.C (zq80.O N) N zq80.c244 122) n s (zq80.K122 N)) v0 v1 v2 v3 v4).trans (show _ = zq80.d2 N v0 v1 v2 v3 v4 ((fun w0 w1 w2 w3 w4 => zq80.l2 N n w0 w1 w2 w3 w4)) from (congr rfl (funext fun w0 => funext fun w1 => funext fun w2 => funext fun w3 => funext fun w4 => (zq80.loop122 N n).2 w0 w1 w2 w3 w4))))⟩
def zq80.o0 (N : Nat) (a0 : Int) (a1_0 : Int) (a1_1 : Int) (c1 : Int → Int → Int → Int → Option zq80.R) : Option zq80.R :=
 (zq87.g N a0 a1_0 a1_1).bind fun r1 =>
 bif (!r1) then
  some (([] : List S25), false)
 else
 c1 a0 0 a1_0 a1_1
theorem zq80.o0.run (N : Nat) (H244 : Code) (a0 : Int) (a1_0 : Int) (a1_1 : Int) : runC zq80.C (zq80.O N) N (.seq zq80.c2 (.seq zq80.c6 (.seq zq80.c14 (.seq (.seq zq80.c60 (.block 0 (.loop H244))) zq80.c31)))) 1 (st0 [.one (.int .i64 a0), .agg [.int .i64 a1_0, .int .i64 a1_1]] [] : St D0) zq80.K0 = zq80.o0 N a0 a1_0 a1_1 ((fun w0 w1 w2 w3 => iter (loopF zq80.C (zq80.O N) N H244 122) N (mkSt [(0, .one (.int .i64 w0)), (3, .one (.ptr 3 0)), (6, .one (.nl)), (7, .one (.int .i64 w1))] [(3, some (25, [.int .i64 w2, .int .i64 w3]))] : St D0) (blockK 0 (onN (fun s => zq80.C.tidy 30 s (fun s' => runC zq80.C (zq80.O N) N zq80.c31 31 s' zq80.K0)) zq80.K0)))) := by kernel_rfl
def zq80.g (N : Nat) (a0 : Int) (a1_0 : Int) (a1_1 : Int) : Option zq80.R := zq80.o0 N a0 a1_0 a1_1 ((fun w0 w1 w2 w3 => zq80.l1 N N w0 w1 w2 w3))
theorem zq80.c1_0 : zq80.c1 = (.seq zq80.c2 (.seq zq80.c6 (.seq zq80.c14 (.seq (.seq zq80.c60 (.block 0 (.loop zq80.c244))) zq80.c31)))) := by kernel_rfl
theorem zq80.g.run (N : Nat) (a0 : Int) (a1_0 : Int) (a1_1 : Int) : runC zq80.C (zq80.O N) N zq80.c1 1 (st0 [.one (.int .i64 a0), .agg [.int .i64 a1_0, .int .i64 a1_1]] [] : St D0) zq80.K0 = zq80.g N a0 a1_0 a1_1 := by
  rw [zq80.c1_0]; unfold zq80.g; exact (zq80.o0.run N zq80.c244 a0 a1_0 a1_1).trans (congr rfl (funext fun w0 => funext fun w1 => funext fun w2 => funext fun w3 => (zq80.loop122 N N).1 w0 w1 w2 w3))
theorem zq80.good (N : Nat) (a0 : Int) (a1_0 : Int) (a1_1 : Int) (r : zq80.R) (h : zq80.g N a0 a1_0 a1_1 = some r) : Go.PM.Good Tryz.prog T0 20 [.one (.int .i64 a0), .agg [.int .i64 a1_0, .int .i64 a1_1]] [] (zq80.sig.ret r) (zq80.sig.bs r) :=
  good_fn tabOk0 mixed0 zq80.sig (zq80.E N) Tryz.func20 (by kernel_rfl) (by kernel_rfl) 34359813115 0 0 [(122, [0, 3, 6, 7], [3])] 17721115648 false [] [(false, [.own 25]), (false, [.any])] (by kernel_rfl) rfl rfl ((zq80.g.run N a0 a1_0 a1_1).trans h)
def zq80.ent (N : Nat) : Ent Tryz.prog T0 := mkEnt 20 [(false, [.any]), (true, [.any, .any])] zq80.sig (fun t => zq80.g N t.1 t.2.1 t.2.2) (fun t r h => zq80.good N t.1 t.2.1 t.2.2 r h)
/-! ### zq45 -/
abbrev zq45.R : Type := ByteArray
abbrev zq45.sig : Sig := ⟨[(false, 1)], [], [.int .i64], [(false, 1)], [], [.str]⟩
def zq45.C : Cfg D0 := ⟨Tryz.prog, T0, 21, 0, 10, 0, [], 296, false, []⟩
def zq45.E (N : Nat) : List (Ent Tryz.prog T0) := [zq118.ent N]
def zq45.O (N : Nat) : Orc D0 zq45.R := orcOf (zq45.E N)
def zq45.K0 : Ex → St D0 → Option zq45.R := exitK zq45.C Tryz.f70.results.toList [(false, [.any])] (decOut zq45.sig)
def zq45.c1 : Code := codeAt (Tryz.f70.body.getD .skip) []
def zq45.o0 (N : Nat) (a0 : Int) : Option zq45.R :=
 bif (decide (a0 < 10)) then
  (zq118.g N a0).bind fun r1 =>
  bif (Nat.ble ((⟨#[48]⟩ : ByteArray).size + r1.size) 9223372036854775807) then
   some (((⟨#[48]⟩ : ByteArray) ++ r1))
  else
  none
 else
 (zq118.g N a0).bind fun r2 =>
 some (r2)
theorem zq45.o0.run (N : Nat) (a0 : Int) : runC zq45.C (zq45.O N) N zq45.c1 1 (st0 [.one (.int .i64 a0)] [] : St D0) zq45.K0 = zq45.o0 N a0 := by kernel_rfl
def zq45.g (N : Nat) (a0 : Int) : Option zq45.R := zq45.o0 N a0
theorem zq45.g.run (N : Nat) (a0 : Int) : runC zq45.C (zq45.O N) N zq45.c1 1 (st0 [.one (.int .i64 a0)] [] : St D0) zq45.K0 = zq45.g N a0 := by
  exact (zq45.o0.run N a0).trans rfl
theorem zq45.good (N : Nat) (a0 : Int) (r : zq45.R) (h : zq45.g N a0 = some r) : Go.PM.Good Tryz.prog T0 70 [.one (.int .i64 a0)] [] (zq45.sig.ret r) (zq45.sig.bs r) :=
  good_fn tabOk0 mixed0 zq45.sig (zq45.E N) Tryz.func70 (by kernel_rfl) (by kernel_rfl) 21 0 0 [] 296 false [] [(false, [.any])] (by kernel_rfl) rfl rfl ((zq45.g.run N a0).trans h)
def zq45.ent (N : Nat) : Ent Tryz.prog T0 := mkEnt 70 [(false, [.any])] zq45.sig (fun t => zq45.g N t) (fun t r h => zq45.good N t r h)
/-! ### zq23 -/
abbrev zq23.R : Type := ByteArray × Bool
abbrev zq23.sig : Sig := ⟨[(false, 1), (true, 2)], [], [.int .i64, .int .i64, .int .i64], [(false, 1), (false, 1)], [], [.str, .bool]⟩
def zq23.C : Cfg D0 := ⟨Tryz.prog, T0, 35184372125691, 0, 58, 0, [(126, [10], [])], 70927694041088, false, []⟩
def zq23.E (N : Nat) : List (Ent Tryz.prog T0) := [zq39.ent N, zq44.ent N, zq45.ent N, zq41.ent N, zq118.ent N]
def zq23.O (N : Nat) : Orc D0 zq23.R := orcOf (zq23.E N)
def zq23.K0 : Ex → St D0 → Option zq23.R := exitK zq23.C Tryz.f21.results.toList [(false, [.any]), (false, [.any])] (decOut zq23.sig)
def zq23.c1 : Code := codeAt (Tryz.f21.body.getD .skip) []
def zq23.c2 : Code := codeAt (Tryz.f21.body.getD .skip) [false]
def zq23.c6 : Code := codeAt (Tryz.f21.body.getD .skip) [true, false]
def zq23.c14 : Code := codeAt (Tryz.f21.body.getD .skip) [true, true, false]
def zq23.c30 : Code := codeAt (Tryz.f21.body.getD .skip) [true, true, true, false]
def zq23.c62 : Code := codeAt (Tryz.f21.body.getD .skip) [true, true, true, true, false]
def zq23.c126 : Code := codeAt (Tryz.f21.body.getD .skip) [true, true, true, true, true, false]
def zq23.c127 : Code := codeAt (Tryz.f21.body.getD .skip) [true, true, true, true, true, true]
def zq23.K127 (N : Nat) : Ex → St D0 → Option zq23.R := zq23.K0
def zq23.o1 (N : Nat) (v0 : ByteArray) : Option zq23.R :=
 some (v0, true)
theorem zq23.o1.run (N : Nat) (v0 : ByteArray) : runC zq23.C (zq23.O N) N zq23.c127 127 (mkSt [(10, .one (.str v0))] [] : St D0) zq23.K0 = zq23.o1 N v0 := by kernel_rfl
def zq23.d1 (N : Nat) (v0 : ByteArray) : Option zq23.R := zq23.o1 N v0
theorem zq23.d1.run (N : Nat) (v0 : ByteArray) : runC zq23.C (zq23.O N) N zq23.c127 127 (mkSt [(10, .one (.str v0))] [] : St D0) (zq23.K127 N) = zq23.d1 N v0 := by
  exact (zq23.o1.run N v0).trans rfl
def zq23.o0 (N : Nat) (a0 : Int) (a1_0 : Int) (a1_1 : Int) (c1 : ByteArray → Option zq23.R) : Option zq23.R :=
 (zq39.g N a0 a1_0 a1_1).bind fun r1 =>
 bif (!r1) then
  some ((⟨#[]⟩ : ByteArray), false)
 else
 (zq44.g N a0 a1_0 a1_1).bind fun r2 =>
 (zq45.g N r2.1).bind fun r3 =>
 bif (Nat.ble (r3.size + (⟨#[58]⟩ : ByteArray).size) 9223372036854775807) then
  (zq45.g N r2.2.1).bind fun r4 =>
  bif (Nat.ble ((r3 ++ (⟨#[58]⟩ : ByteArray)).size + r4.size) 9223372036854775807) then
   bif (Nat.ble (((r3 ++ (⟨#[58]⟩ : ByteArray)) ++ r4).size + (⟨#[58]⟩ : ByteArray).size) 9223372036854775807) then
    bif (r2.2.2.2 == 0) then
     none
    else
    (zq45.g N (w64 (Int.tdiv (w64 (r2.2.2.1 * 60)) r2.2.2.2))).bind fun r5 =>
    bif (Nat.ble ((((r3 ++ (⟨#[58]⟩ : ByteArray)) ++ r4) ++ (⟨#[58]⟩ : ByteArray)).size + r5.size) 9223372036854775807) then
     (zq41.g N (w64 (r2.2.2.1 * 60)) r2.2.2.2).bind fun r6 =>
     bif (decide (r6.1 > 0)) then
      (zq118.g N r6.1).bind fun r7 =>
      bif (Nat.ble ((⟨#[43]⟩ : ByteArray).size + r7.size) 9223372036854775807) then
       bif (Nat.ble (((⟨#[43]⟩ : ByteArray) ++ r7).size + (⟨#[47]⟩ : ByteArray).size) 9223372036854775807) then
        (zq118.g N r6.2).bind fun r8 =>
        bif (Nat.ble ((((⟨#[43]⟩ : ByteArray) ++ r7) ++ (⟨#[47]⟩ : ByteArray)).size + r8.size) 9223372036854775807) then
         bif (Nat.ble (((((r3 ++ (⟨#[58]⟩ : ByteArray)) ++ r4) ++ (⟨#[58]⟩ : ByteArray)) ++ r5).size + ((((⟨#[43]⟩ : ByteArray) ++ r7) ++ (⟨#[47]⟩ : ByteArray)) ++ r8).size) 9223372036854775807) then
          c1 (((((r3 ++ (⟨#[58]⟩ : ByteArray)) ++ r4) ++ (⟨#[58]⟩ : ByteArray)) ++ r5) ++ ((((⟨#[43]⟩ : ByteArray) ++ r7) ++ (⟨#[47]⟩ : ByteArray)) ++ r8))
         else
         none
        else
        none
       else
       none
      else
      none
     else
     c1 ((((r3 ++ (⟨#[58]⟩ : ByteArray)) ++ r4) ++ (⟨#[58]⟩ : ByteArray)) ++ r5)
    else
    none
   else
   none
  else
  none
 else
 none
theorem zq23.o0.run (N : Nat) (H127 : Code) (a0 : Int) (a1_0 : Int) (a1_1 : Int) : runC zq23.C (zq23.O N) N (.seq zq23.c2 (.seq zq23.c6 (.seq zq23.c14 (.seq zq23.c30 (.seq zq23.c62 (.seq zq23.c126 H127)))))) 1 (st0 [.one (.int .i64 a0), .agg [.int .i64 a1_0, .int .i64 a1_1]] [] : St D0) zq23.K0 = zq23.o0 N a0 a1_0 a1_1 ((fun w0 => runC zq23.C (zq23.O N) N H127 127 (mkSt [(10, .one (.str w0))] [] : St D0) zq23.K0)) := by kernel_rfl
def zq23.B63 (N : Nat) : St D0 → Option zq23.R := fun s' => runC zq23.C (zq23.O N) N zq23.c127 127 s' (zq23.K127 N)
def zq23.g (N : Nat) (a0 : Int) (a1_0 : Int) (a1_1 : Int) : Option zq23.R := zq23.o0 N a0 a1_0 a1_1 ((fun w0 => zq23.d1 N w0))
theorem zq23.c1_0 : zq23.c1 = (.seq zq23.c2 (.seq zq23.c6 (.seq zq23.c14 (.seq zq23.c30 (.seq zq23.c62 (.seq zq23.c126 zq23.c127)))))) := by kernel_rfl
theorem zq23.g.run (N : Nat) (a0 : Int) (a1_0 : Int) (a1_1 : Int) : runC zq23.C (zq23.O N) N zq23.c1 1 (st0 [.one (.int .i64 a0), .agg [.int .i64 a1_0, .int .i64 a1_1]] [] : St D0) zq23.K0 = zq23.g N a0 a1_0 a1_1 := by
  rw [zq23.c1_0]; unfold zq23.g; exact (zq23.o0.run N zq23.c127 a0 a1_0 a1_1).trans (congr rfl (funext fun w0 => zq23.d1.run N w0))
theorem zq23.good (N : Nat) (a0 : Int) (a1_0 : Int) (a1_1 : Int) (r : zq23.R) (h : zq23.g N a0 a1_0 a1_1 = some r) : Go.PM.Good Tryz.prog T0 21 [.one (.int .i64 a0), .agg [.int .i64 a1_0, .int .i64 a1_1]] [] (zq23.sig.ret r) (zq23.sig.bs r) :=
  good_fn tabOk0 mixed0 zq23.sig (zq23.E N) Tryz.func21 (by kernel_rfl) (by kernel_rfl) 35184372125691 0 0 [(126, [10], [])] 70927694041088 false [] [(false, [.any]), (false, [.any])] (by kernel_rfl) rfl rfl ((zq23.g.run N a0 a1_0 a1_1).trans h)
def zq23.ent (N : Nat) : Ent Tryz.prog T0 := mkEnt 21 [(false, [.any]), (true, [.any, .any])] zq23.sig (fun t => zq23.g N t.1 t.2.1 t.2.2) (fun t r h => zq23.good N t.1 t.2.1 t.2.2 r h)
/-! ### zq98 -/
abbrev zq98.R : Type := ByteArray
abbrev zq98.sig : Sig := ⟨[(false, 1)], [], [.int .i64], [(false, 1)], [], [.str]⟩
def zq98.C : Cfg D0 := ⟨Tryz.prog, T0, 21, 0, 10, 0, [], 296, false, []⟩
def zq98.E (N : Nat) : List (Ent Tryz.prog T0) := [zq112.ent N]
def zq98.O (N : Nat) : Orc D0 zq98.R := orcOf (zq98.E N)
def zq98.K0 : Ex → St D0 → Option zq98.R := exitK zq98.C Tryz.f111.results.toList [(false, [.any])] (decOut zq98.sig)
def zq98.c1 : Code := codeAt (Tryz.f111.body.getD .skip) []
def zq98.o0 (N : Nat) (a0 : Int) : Option zq98.R :=
 bif (decide (a0 < 10)) then
  (zq112.g N a0).bind fun r1 =>
  bif (Nat.ble ((⟨#[48]⟩ : ByteArray).size + r1.size) 9223372036854775807) then
   some (((⟨#[48]⟩ : ByteArray) ++ r1))
  else
  none
 else
 (zq112.g N a0).bind fun r2 =>
 some (r2)
theorem zq98.o0.run (N : Nat) (a0 : Int) : runC zq98.C (zq98.O N) N zq98.c1 1 (st0 [.one (.int .i64 a0)] [] : St D0) zq98.K0 = zq98.o0 N a0 := by kernel_rfl
def zq98.g (N : Nat) (a0 : Int) : Option zq98.R := zq98.o0 N a0
theorem zq98.g.run (N : Nat) (a0 : Int) : runC zq98.C (zq98.O N) N zq98.c1 1 (st0 [.one (.int .i64 a0)] [] : St D0) zq98.K0 = zq98.g N a0 := by
  exact (zq98.o0.run N a0).trans rfl
theorem zq98.good (N : Nat) (a0 : Int) (r : zq98.R) (h : zq98.g N a0 = some r) : Go.PM.Good Tryz.prog T0 111 [.one (.int .i64 a0)] [] (zq98.sig.ret r) (zq98.sig.bs r) :=
  good_fn tabOk0 mixed0 zq98.sig (zq98.E N) Tryz.func111 (by kernel_rfl) (by kernel_rfl) 21 0 0 [] 296 false [] [(false, [.any])] (by kernel_rfl) rfl rfl ((zq98.g.run N a0).trans h)
def zq98.ent (N : Nat) : Ent Tryz.prog T0 := mkEnt 111 [(false, [.any])] zq98.sig (fun t => zq98.g N t) (fun t r h => zq98.good N t r h)
/-! ### zq95 -/
abbrev zq95.R : Type := ByteArray
abbrev zq95.sig : Sig := ⟨[(false, 1), (true, 2)], [], [.int .i64, .int .i64, .int .i64], [(false, 1)], [], [.str]⟩
def zq95.C : Cfg D0 := ⟨Tryz.prog, T0, 68719476987, 0, 49, 0, [(30, [6], [])], 139654661120, false, []⟩
def zq95.E (N : Nat) : List (Ent Tryz.prog T0) := [zq98.ent N, zq97.ent N, zq112.ent N]
def zq95.O (N : Nat) : Orc D0 zq95.R := orcOf (zq95.E N)
def zq95.K0 : Ex → St D0 → Option zq95.R := exitK zq95.C Tryz.f73.results.toList [(false, [.any])] (decOut zq95.sig)
def zq95.c1 : Code := codeAt (Tryz.f73.body.getD .skip) []
def zq95.c2 : Code := codeAt (Tryz.f73.body.getD .skip) [false]
def zq95.c6 : Code := codeAt (Tryz.f73.body.getD .skip) [true, false]
def zq95.c14 : Code := codeAt (Tryz.f73.body.getD .skip) [true, true, false]
def zq95.c30 : Code := codeAt (Tryz.f73.body.getD .skip) [true, true, true, false]
def zq95.c31 : Code := codeAt (Tryz.f73.body.getD .skip) [true, true, true, true]
def zq95.K31 (N : Nat) : Ex → St D0 → Option zq95.R := zq95.K0
def zq95.o1 (N : Nat) (v0 : ByteArray) : Option zq95.R :=
 some (v0)
theorem zq95.o1.run (N : Nat) (v0 : ByteArray) : runC zq95.C (zq95.O N) N zq95.c31 31 (mkSt [(6, .one (.str v0))] [] : St D0) zq95.K0 = zq95.o1 N v0 := by kernel_rfl
def zq95.d1 (N : Nat) (v0 : ByteArray) : Option zq95.R := zq95.o1 N v0
theorem zq95.d1.run (N : Nat) (v0 : ByteArray) : runC zq95.C (zq95.O N) N zq95.c31 31 (mkSt [(6, .one (.str v0))] [] : St D0) (zq95.K31 N) = zq95.d1 N v0 := by
  exact (zq95.o1.run N v0).trans rfl
def zq95.o0 (N : Nat) (a0 : Int) (a1_0 : Int) (a1_1 : Int) (c1 : ByteArray → Option zq95.R) : Option zq95.R :=
 bif (a1_1 == 0) then
  none
 else
 (zq98.g N (w64 (Int.tdiv (w64 (Int.tdiv (w64 ((w64 (a1_0 * a0)) * 3600)) a1_1)) 3600))).bind fun r1 =>
 bif (Nat.ble (r1.size + (⟨#[58]⟩ : ByteArray).size) 9223372036854775807) then
  (zq98.g N (Int.tmod (w64 (Int.tdiv (w64 (Int.tdiv (w64 ((w64 (a1_0 * a0)) * 3600)) a1_1)) 60)) 60)).bind fun r2 =>
  bif (Nat.ble ((r1 ++ (⟨#[58]⟩ : ByteArray)).size + r2.size) 9223372036854775807) then
   bif (Nat.ble (((r1 ++ (⟨#[58]⟩ : ByteArray)) ++ r2).size + (⟨#[58]⟩ : ByteArray).size) 9223372036854775807) then
    (zq98.g N (Int.tmod (w64 (Int.tdiv (w64 ((w64 (a1_0 * a0)) * 3600)) a1_1)) 60)).bind fun r3 =>
    bif (Nat.ble ((((r1 ++ (⟨#[58]⟩ : ByteArray)) ++ r2) ++ (⟨#[58]⟩ : ByteArray)).size + r3.size) 9223372036854775807) then
     (zq97.g N a1_0 a1_1 (w64 (a0 * 3600))).bind fun r4 =>
     bif (decide (r4.1 > 0)) then
      (zq112.g N r4.1).bind fun r5 =>
      bif (Nat.ble ((⟨#[43]⟩ : ByteArray).size + r5.size) 9223372036854775807) then
       bif (Nat.ble (((⟨#[43]⟩ : ByteArray) ++ r5).size + (⟨#[47]⟩ : ByteArray).size) 9223372036854775807) then
        (zq112.g N r4.2).bind fun r6 =>
        bif (Nat.ble ((((⟨#[43]⟩ : ByteArray) ++ r5) ++ (⟨#[47]⟩ : ByteArray)).size + r6.size) 9223372036854775807) then
         bif (Nat.ble (((((r1 ++ (⟨#[58]⟩ : ByteArray)) ++ r2) ++ (⟨#[58]⟩ : ByteArray)) ++ r3).size + ((((⟨#[43]⟩ : ByteArray) ++ r5) ++ (⟨#[47]⟩ : ByteArray)) ++ r6).size) 9223372036854775807) then
          c1 (((((r1 ++ (⟨#[58]⟩ : ByteArray)) ++ r2) ++ (⟨#[58]⟩ : ByteArray)) ++ r3) ++ ((((⟨#[43]⟩ : ByteArray) ++ r5) ++ (⟨#[47]⟩ : ByteArray)) ++ r6))
         else
         none
        else
        none
       else
       none
      else
      none
     else
     c1 ((((r1 ++ (⟨#[58]⟩ : ByteArray)) ++ r2) ++ (⟨#[58]⟩ : ByteArray)) ++ r3)
    else
    none
   else
   none
  else
  none
 else
 none
theorem zq95.o0.run (N : Nat) (H31 : Code) (a0 : Int) (a1_0 : Int) (a1_1 : Int) : runC zq95.C (zq95.O N) N (.seq zq95.c2 (.seq zq95.c6 (.seq zq95.c14 (.seq zq95.c30 H31)))) 1 (st0 [.one (.int .i64 a0), .agg [.int .i64 a1_0, .int .i64 a1_1]] [] : St D0) zq95.K0 = zq95.o0 N a0 a1_0 a1_1 ((fun w0 => runC zq95.C (zq95.O N) N H31 31 (mkSt [(6, .one (.str w0))] [] : St D0) zq95.K0)) := by kernel_rfl
def zq95.B15 (N : Nat) : St D0 → Option zq95.R := fun s' => runC zq95.C (zq95.O N) N zq95.c31 31 s' (zq95.K31 N)
def zq95.g (N : Nat) (a0 : Int) (a1_0 : Int) (a1_1 : Int) : Option zq95.R := zq95.o0 N a0 a1_0 a1_1 ((fun w0 => zq95.d1 N w0))
theorem zq95.c1_0 : zq95.c1 = (.seq zq95.c2 (.seq zq95.c6 (.seq zq95.c14 (.seq zq95.c30 zq95.c31)))) := by kernel_rfl
theorem zq95.g.run (N : Nat) (a0 : Int) (a1_0 : Int) (a1_1 : Int) : runC zq95.C (zq95.O N) N zq95.c1 1 (st0 [.one (.int .i64 a0), .agg [.int .i64 a1_0, .int .i64 a1_1]] [] : St D0) zq95.K0 = zq95.g N a0 a1_0 a1_1 := by
  rw [zq95.c1_0]; unfold zq95.g; exact (zq95.o0.run N zq95.c31 a0 a1_0 a1_1).trans (congr rfl (funext fun w0 => zq95.d1.run N w0))
theorem zq95.good (N : Nat) (a0 : Int) (a1_0 : Int) (a1_1 : Int) (r : zq95.R) (h : zq95.g N a0 a1_0 a1_1 = some r) : Go.PM.Good Tryz.prog T0 73 [.one (.int .i64 a0), .agg [.int .i64 a1_0, .int .i64 a1_1]] [] (zq95.sig.ret r) (zq95.sig.bs r) :=
  good_fn tabOk0 mixed0 zq95.sig (zq95.E N) Tryz.func73 (by kernel_rfl) (by kernel_rfl) 68719476987 0 0 [(30, [6], [])] 139654661120 false [] [(false, [.any])] (by kernel_rfl) rfl rfl ((zq95.g.run N a0 a1_0 a1_1).trans h)
def zq95.ent (N : Nat) : Ent Tryz.prog T0 := mkEnt 73 [(false, [.any]), (true, [.any, .any])] zq95.sig (fun t => zq95.g N t.1 t.2.1 t.2.2) (fun t r h => zq95.good N t.1 t.2.1 t.2.2 r h)
/-! ### zq79 -/
abbrev zq79.R : Type := ByteArray × Bool
abbrev zq79.sig : Sig := ⟨[(false, 1), (true, 2)], [], [.int .i64, .int .i64, .int .i64], [(false, 1), (false, 1)], [], [.str, .bool]⟩
def zq79.C : Cfg D0 := ⟨Tryz.prog, T0, 571, 0, 13, 0, [], 1088, false, []⟩
def zq79.E (N : Nat) : List (Ent Tryz.prog T0) := [zq87.ent N, zq95.ent N]
def zq79.O (N : Nat) : Orc D0 zq79.R := orcOf (zq79.E N)
def zq79.K0 : Ex → St D0 → Option zq79.R := exitK zq79.C Tryz.f22.results.toList [(false, [.any]), (false, [.any])] (decOut zq79.sig)
def zq79.c1 : Code := codeAt (Tryz.f22.body.getD .skip) []
def zq79.o0 (N : Nat) (a0 : Int) (a1_0 : Int) (a1_1 : Int) : Option zq79.R :=
 (zq87.g N a0 a1_0 a1_1).bind fun r1 =>
 bif (!r1) then
  some ((⟨#[]⟩ : ByteArray), false)
 else
 (zq95.g N a0 a1_0 a1_1).bind fun r2 =>
 some (r2, true)
theorem zq79.o0.run (N : Nat) (a0 : Int) (a1_0 : Int) (a1_1 : Int) : runC zq79.C (zq79.O N) N zq79.c1 1 (st0 [.one (.int .i64 a0), .agg [.int .i64 a1_0, .int .i64 a1_1]] [] : St D0) zq79.K0 = zq79.o0 N a0 a1_0 a1_1 := by kernel_rfl
def zq79.g (N : Nat) (a0 : Int) (a1_0 : Int) (a1_1 : Int) : Option zq79.R := zq79.o0 N a0 a1_0 a1_1
theorem zq79.g.run (N : Nat) (a0 : Int) (a1_0 : Int) (a1_1 : Int) : runC zq79.C (zq79.O N) N zq79.c1 1 (st0 [.one (.int .i64 a0), .agg [.int .i64 a1_0, .int .i64 a1_1]] [] : St D0) zq79.K0 = zq79.g N a0 a1_0 a1_1 := by
  exact (zq79.o0.run N a0 a1_0 a1_1).trans rfl
theorem zq79.good (N : Nat) (a0 : Int) (a1_0 : Int) (a1_1 : Int) (r : zq79.R) (h : zq79.g N a0 a1_0 a1_1 = some r) : Go.PM.Good Tryz.prog T0 22 [.one (.int .i64 a0), .agg [.int .i64 a1_0, .int .i64 a1_1]] [] (zq79.sig.ret r) (zq79.sig.bs r) :=
  good_fn tabOk0 mixed0 zq79.sig (zq79.E N) Tryz.func22 (by kernel_rfl) (by kernel_rfl) 571 0 0 [] 1088 false [] [(false, [.any]), (false, [.any])] (by kernel_rfl) rfl rfl ((zq79.g.run N a0 a1_0 a1_1).trans h)
def zq79.ent (N : Nat) : Ent Tryz.prog T0 := mkEnt 22 [(false, [.any]), (true, [.any, .any])] zq79.sig (fun t => zq79.g N t.1 t.2.1 t.2.2) (fun t r h => zq79.good N t.1 t.2.1 t.2.2 r h)
end Go.Proofs.YtccjoegnkiaibaaGreatDoor.M
end
