/- What the program's functions compute, walked by the machine (part 1). No conditions but those stated. -/
import Derived.Test.YtpeleommbipeaaaGreatDoorPm3
import Derived.Test.YtpeleommbipeaaaGreatDoorProg
import Derived.Lib.ItoaNum
import Derived.Lib.LaidTab
noncomputable section
namespace Go.Proofs.YtpeleommbipeaaaGreatDoor.M
open Go Go.PM
set_option linter.unusedVariables false
set_option maxRecDepth 100000
end Go.Proofs.YtpeleommbipeaaaGreatDoor.M
namespace Go.Proofs.YtpeleommbipeaaaGreatDoor.P
structure S41 where
  f0 : Int
  f1 : Int
  f2 : Int
structure S46 where
  f0 : Int
  f1 : Int
end Go.Proofs.YtpeleommbipeaaaGreatDoor.P
namespace Go.Proofs.YtpeleommbipeaaaGreatDoor.M
open Go Go.PM Go.Proofs.YtpeleommbipeaaaGreatDoor.P
abbrev D0 : TypeId → Type
  | 3 => Int
  | 5 => Int
  | 9 => ByteArray
  | 41 => S41
  | 46 => S46
  | _ => Unit
def glE : Obj → Prop := fun o => ∃ tp p t fr, o = .cells #[.iface tp p] t fr
def glT : Obj → Prop := fun o => ∃ t fr, o = .cells ((Lib.pow10Tab.map fun z => Value.int .u64 z).toArray) t fr
def T0 : Tab D0 where
  size := fun e => match e with
    | 3 => 1
    | 5 => 1
    | 9 => 1
    | 41 => 3
    | 46 => 2
    | _ => 0
  out := fun e x => match e, x with
    | 3, x => [.int .i64 x]
    | 5, x => [.int .u8 x]
    | 9, x => [.str x]
    | 41, x => [.int .i64 x.f0, .int .i64 x.f1, .int .i64 x.f2]
    | 46, x => [.int .i64 x.f0, .int .i64 x.f1]
    | _, _ => []
  inn := fun e ls => match e, ls with
    | 3, [.int .i64 x0] => some x0
    | 5, [.int .u8 x0] => some x0
    | 9, [.str x0] => some x0
    | 41, [.int .i64 x0, .int .i64 x1, .int .i64 x2] => some ⟨x0, x1, x2⟩
    | 46, [.int .i64 x0, .int .i64 x1] => some ⟨x0, x1⟩
    | _, _ => none
  kd := fun e => match e with
    | 3 => [13]
    | 5 => [14]
    | 9 => [2]
    | 41 => [13, 13, 13]
    | 46 => [13, 13]
    | _ => []
  gl := [(1, glE), (2, glE), (3, glT)]
theorem tabOk0 : TabOk T0 where
  out_len := by
    intro e x
    simp only [T0]
    split <;> first | rfl | (split <;> first | rfl | (rename_i h _ _ _ _; exact absurd HEq.rfl (fun h' => h _ rfl h')) | simp_all)
  kd_ok := by
    intro e x
    simp only [T0]
    split <;> first | rfl | (split <;> first | rfl | (rename_i h _ _ _ _; exact absurd HEq.rfl (fun h' => h _ rfl h')) | simp_all)
  inn_ok := by
    intro e ls x h C blk vs hF
    simp only [T0] at h
    split at h <;> first | (cases h; done) | (simp only [Option.some.injEq] at h; subst h; exact tab_inn hF rfl) | (split at h <;> first | (cases h; done) | (rename_i he; simp only [Option.some.injEq] at h; subst h; subst he; exact tab_inn_sl rfl hF))
theorem mixed0 : Tryz.prog.follows .mixedOrders = true := by kernel_rfl
/-! ### variables that never change -/
def GlW (w : World) : Prop := ∀ x ∈ T0.gl, ∃ o, w.heap[x.1]? = some o ∧ x.2 o
theorem GlW.below {w W : World} (h : GlW w) (hb : Go.RowKit.Below w.heap.size w W) : GlW W := fun x hx => by
  obtain ⟨o, h1, h2⟩ := h x hx
  exact ⟨o, (hb.block _ (Array.getElem?_eq_some_iff.1 h1).1).trans h1, h2⟩
theorem GlW.errS {w : World} (h : GlW w) : ∃ tp p, w.cell? ⟨1, 0, none⟩ = some (.iface tp p) := by
  obtain ⟨o, h1, tp, p, t, fr, rfl⟩ := h (1, glE) (List.mem_cons_self ..)
  exact ⟨tp, p, by simpa using World.var?_cell (show Tryz.prog.globalNamed "strconv.ErrSyntax" = some 1 by kernel_rfl) (var_blk (by kernel_rfl) h1) 0⟩
theorem GlW.errR {w : World} (h : GlW w) : ∃ tp p, w.cell? ⟨2, 0, none⟩ = some (.iface tp p) := by
  obtain ⟨o, h1, tp, p, t, fr, rfl⟩ := h (2, glE) (List.mem_cons_of_mem _ (List.mem_cons_self ..))
  exact ⟨tp, p, by simpa using World.var?_cell (show Tryz.prog.globalNamed "strconv.ErrRange" = some 2 by kernel_rfl) (var_blk (by kernel_rfl) h1) 0⟩
theorem GlW.tab {w : World} (h : GlW w) : Lib.TabIs Tryz.prog w "internal/strconv.uint64pow10" .u64 Lib.pow10Tab := by
  obtain ⟨o, h1, t, fr, rfl⟩ := h (3, glT) (List.mem_cons_of_mem _ (List.mem_cons_of_mem _ (List.mem_cons_self ..)))
  exact var_blk (by kernel_rfl) h1
theorem GlW.of {w : World} {tp p tp' p'} (h1 : w.var? Tryz.prog "strconv.ErrSyntax" = some #[.iface tp p]) (h2 : w.var? Tryz.prog "strconv.ErrRange" = some #[.iface tp' p'])
    (h3 : Lib.TabIs Tryz.prog w "internal/strconv.uint64pow10" .u64 Lib.pow10Tab) : GlW w := by
  intro x hx
  obtain ⟨t1, f1, e1⟩ := blk_var (g := 1) (by kernel_rfl) h1
  obtain ⟨t2, f2, e2⟩ := blk_var (g := 2) (by kernel_rfl) h2
  obtain ⟨t3, f3, e3⟩ := blk_var (g := 3) (by kernel_rfl) h3
  have hx : x ∈ [(1, glE), (2, glE), (3, glT)] := hx
  simp only [List.mem_cons, List.not_mem_nil, or_false] at hx
  rcases hx with rfl | rfl | rfl
  · exact ⟨_, e1, tp, p, t1, f1, rfl⟩
  · exact ⟨_, e2, tp', p', t2, f2, rfl⟩
  · exact ⟨_, e3, t3, f3, rfl⟩

end Go.Proofs.YtpeleommbipeaaaGreatDoor.M
namespace Go.Proofs.YtpeleommbipeaaaGreatDoor.M
open Go Go.PM Go.Proofs.YtpeleommbipeaaaGreatDoor.P
set_option linter.unusedVariables false
set_option maxRecDepth 100000
/-! ### zq31 -/
abbrev zq31.R : Type := Bool
abbrev zq31.sig : Sig := ⟨[(false, 1), (false, 1), (false, 1)], [], [.int .i64, .int .i64, .int .i64], [(false, 1)], [], [.bool]⟩
def zq31.C : Cfg D0 := ⟨Tryz.prog, T0, 71, 0, 15, 0, [], 6528, false, []⟩
def zq31.E (N : Nat) : List (Ent Tryz.prog T0) := []
def zq31.O (N : Nat) : Orc D0 zq31.R := orcOf (zq31.E N)
def zq31.K0 : Ex → St D0 → Option zq31.R := exitK zq31.C Tryz.f57.results.toList [(false, [.any])] (decOut zq31.sig)
def zq31.c1 : Code := codeAt (Tryz.f57.body.getD .skip) []
def zq31.o0 (N : Nat) (a0 : Int) (a1 : Int) (a2 : Int) : Option zq31.R :=
 bif (decide (a0 ≥ a1)) then
  some ((decide (a0 ≤ a2)))
 else
 some (false)
theorem zq31.o0.run (N : Nat) (a0 : Int) (a1 : Int) (a2 : Int) : runC zq31.C (zq31.O N) N zq31.c1 1 (st0 [.one (.int .i64 a0), .one (.int .i64 a1), .one (.int .i64 a2)] [] : St D0) zq31.K0 = zq31.o0 N a0 a1 a2 := by kernel_rfl
def zq31.g (N : Nat) (a0 : Int) (a1 : Int) (a2 : Int) : Option zq31.R := zq31.o0 N a0 a1 a2
theorem zq31.g.run (N : Nat) (a0 : Int) (a1 : Int) (a2 : Int) : runC zq31.C (zq31.O N) N zq31.c1 1 (st0 [.one (.int .i64 a0), .one (.int .i64 a1), .one (.int .i64 a2)] [] : St D0) zq31.K0 = zq31.g N a0 a1 a2 := by
  exact (zq31.o0.run N a0 a1 a2).trans rfl
theorem zq31.good (N : Nat) (a0 : Int) (a1 : Int) (a2 : Int) (r : zq31.R) (h : zq31.g N a0 a1 a2 = some r) : Go.PM.Good Tryz.prog T0 57 [.one (.int .i64 a0), .one (.int .i64 a1), .one (.int .i64 a2)] [] (zq31.sig.ret r) (zq31.sig.bs r) :=
  good_fn tabOk0 mixed0 zq31.sig (zq31.E N) Tryz.func57 (by kernel_rfl) (by kernel_rfl) 71 0 0 [] 6528 false [] [(false, [.any])] (by kernel_rfl) rfl rfl ((zq31.g.run N a0 a1 a2).trans h)
def zq31.ent (N : Nat) : Ent Tryz.prog T0 := mkEnt 57 [(false, [.any]), (false, [.any]), (false, [.any])] zq31.sig (fun t => zq31.g N t.1 t.2.1 t.2.2) (fun t r h => zq31.good N t.1 t.2.1 t.2.2 r h)
/-! ### zq21 -/
abbrev zq21.R : Type := Bool
abbrev zq21.sig : Sig := ⟨[(false, 1)], [], [.int .i64], [(false, 1)], [], [.bool]⟩
def zq21.C : Cfg D0 := ⟨Tryz.prog, T0, 5, 0, 5, 0, [], 8, false, []⟩
def zq21.E (N : Nat) : List (Ent Tryz.prog T0) := [zq31.ent N]
def zq21.O (N : Nat) : Orc D0 zq21.R := orcOf (zq21.E N)
def zq21.K0 : Ex → St D0 → Option zq21.R := exitK zq21.C Tryz.f49.results.toList [(false, [.any])] (decOut zq21.sig)
def zq21.c1 : Code := codeAt (Tryz.f49.body.getD .skip) []
def zq21.o0 (N : Nat) (a0 : Int) : Option zq21.R :=
 (zq31.g N a0 2 24).bind fun r1 =>
 some (r1)
theorem zq21.o0.run (N : Nat) (a0 : Int) : runC zq21.C (zq21.O N) N zq21.c1 1 (st0 [.one (.int .i64 a0)] [] : St D0) zq21.K0 = zq21.o0 N a0 := by kernel_rfl
def zq21.g (N : Nat) (a0 : Int) : Option zq21.R := zq21.o0 N a0
theorem zq21.g.run (N : Nat) (a0 : Int) : runC zq21.C (zq21.O N) N zq21.c1 1 (st0 [.one (.int .i64 a0)] [] : St D0) zq21.K0 = zq21.g N a0 := by
  exact (zq21.o0.run N a0).trans rfl
theorem zq21.good (N : Nat) (a0 : Int) (r : zq21.R) (h : zq21.g N a0 = some r) : Go.PM.Good Tryz.prog T0 49 [.one (.int .i64 a0)] [] (zq21.sig.ret r) (zq21.sig.bs r) :=
  good_fn tabOk0 mixed0 zq21.sig (zq21.E N) Tryz.func49 (by kernel_rfl) (by kernel_rfl) 5 0 0 [] 8 false [] [(false, [.any])] (by kernel_rfl) rfl rfl ((zq21.g.run N a0).trans h)
def zq21.ent (N : Nat) : Ent Tryz.prog T0 := mkEnt 49 [(false, [.any])] zq21.sig (fun t => zq21.g N t) (fun t r h => zq21.good N t r h)
/-! ### zq72 -/
abbrev zq72.R : Type := Bool
abbrev zq72.sig : Sig := ⟨[(false, 1), (false, 1), (false, 1)], [], [.int .i64, .int .i64, .int .i64], [(false, 1)], [], [.bool]⟩
def zq72.C : Cfg D0 := ⟨Tryz.prog, T0, 71, 0, 15, 0, [], 6528, false, []⟩
def zq72.E (N : Nat) : List (Ent Tryz.prog T0) := []
def zq72.O (N : Nat) : Orc D0 zq72.R := orcOf (zq72.E N)
def zq72.K0 : Ex → St D0 → Option zq72.R := exitK zq72.C Tryz.f89.results.toList [(false, [.any])] (decOut zq72.sig)
def zq72.c1 : Code := codeAt (Tryz.f89.body.getD .skip) []
def zq72.o0 (N : Nat) (a0 : Int) (a1 : Int) (a2 : Int) : Option zq72.R :=
 bif (decide (a0 ≥ a1)) then
  some ((decide (a0 ≤ a2)))
 else
 some (false)
theorem zq72.o0.run (N : Nat) (a0 : Int) (a1 : Int) (a2 : Int) : runC zq72.C (zq72.O N) N zq72.c1 1 (st0 [.one (.int .i64 a0), .one (.int .i64 a1), .one (.int .i64 a2)] [] : St D0) zq72.K0 = zq72.o0 N a0 a1 a2 := by kernel_rfl
def zq72.g (N : Nat) (a0 : Int) (a1 : Int) (a2 : Int) : Option zq72.R := zq72.o0 N a0 a1 a2
theorem zq72.g.run (N : Nat) (a0 : Int) (a1 : Int) (a2 : Int) : runC zq72.C (zq72.O N) N zq72.c1 1 (st0 [.one (.int .i64 a0), .one (.int .i64 a1), .one (.int .i64 a2)] [] : St D0) zq72.K0 = zq72.g N a0 a1 a2 := by
  exact (zq72.o0.run N a0 a1 a2).trans rfl
theorem zq72.good (N : Nat) (a0 : Int) (a1 : Int) (a2 : Int) (r : zq72.R) (h : zq72.g N a0 a1 a2 = some r) : Go.PM.Good Tryz.prog T0 89 [.one (.int .i64 a0), .one (.int .i64 a1), .one (.int .i64 a2)] [] (zq72.sig.ret r) (zq72.sig.bs r) :=
  good_fn tabOk0 mixed0 zq72.sig (zq72.E N) Tryz.func89 (by kernel_rfl) (by kernel_rfl) 71 0 0 [] 6528 false [] [(false, [.any])] (by kernel_rfl) rfl rfl ((zq72.g.run N a0 a1 a2).trans h)
def zq72.ent (N : Nat) : Ent Tryz.prog T0 := mkEnt 89 [(false, [.any]), (false, [.any]), (false, [.any])] zq72.sig (fun t => zq72.g N t.1 t.2.1 t.2.2) (fun t r h => zq72.good N t.1 t.2.1 t.2.2 r h)
/-! ### zq60 -/
abbrev zq60.R : Type := Bool
abbrev zq60.sig : Sig := ⟨[(false, 1)], [], [.int .i64], [(false, 1)], [], [.bool]⟩
def zq60.C : Cfg D0 := ⟨Tryz.prog, T0, 5, 0, 5, 0, [], 8, false, []⟩
def zq60.E (N : Nat) : List (Ent Tryz.prog T0) := [zq72.ent N]
def zq60.O (N : Nat) : Orc D0 zq60.R := orcOf (zq60.E N)
def zq60.K0 : Ex → St D0 → Option zq60.R := exitK zq60.C Tryz.f67.results.toList [(false, [.any])] (decOut zq60.sig)
def zq60.c1 : Code := codeAt (Tryz.f67.body.getD .skip) []
def zq60.o0 (N : Nat) (a0 : Int) : Option zq60.R :=
 (zq72.g N a0 2 24).bind fun r1 =>
 some (r1)
theorem zq60.o0.run (N : Nat) (a0 : Int) : runC zq60.C (zq60.O N) N zq60.c1 1 (st0 [.one (.int .i64 a0)] [] : St D0) zq60.K0 = zq60.o0 N a0 := by kernel_rfl
def zq60.g (N : Nat) (a0 : Int) : Option zq60.R := zq60.o0 N a0
theorem zq60.g.run (N : Nat) (a0 : Int) : runC zq60.C (zq60.O N) N zq60.c1 1 (st0 [.one (.int .i64 a0)] [] : St D0) zq60.K0 = zq60.g N a0 := by
  exact (zq60.o0.run N a0).trans rfl
theorem zq60.good (N : Nat) (a0 : Int) (r : zq60.R) (h : zq60.g N a0 = some r) : Go.PM.Good Tryz.prog T0 67 [.one (.int .i64 a0)] [] (zq60.sig.ret r) (zq60.sig.bs r) :=
  good_fn tabOk0 mixed0 zq60.sig (zq60.E N) Tryz.func67 (by kernel_rfl) (by kernel_rfl) 5 0 0 [] 8 false [] [(false, [.any])] (by kernel_rfl) rfl rfl ((zq60.g.run N a0).trans h)
def zq60.ent (N : Nat) : Ent Tryz.prog T0 := mkEnt 67 [(false, [.any])] zq60.sig (fun t => zq60.g N t) (fun t r h => zq60.good N t r h)
/-! ### zq38 -/
abbrev zq38.R : Type := Bool
abbrev zq38.sig : Sig := ⟨[(false, 1), (false, 1)], [], [.sl false 3, .sl false 3], [(false, 1)], [], [.bool]⟩
def zq38.C : Cfg D0 := ⟨Tryz.prog, T0, 16806963, 0, 26, 0, [(58, [0, 1, 12, 13], [])], 3344704, false, []⟩
def zq38.E (N : Nat) : List (Ent Tryz.prog T0) := []
def zq38.O (N : Nat) : Orc D0 zq38.R := orcOf (zq38.E N)
def zq38.K0 : Ex → St D0 → Option zq38.R := exitK zq38.C Tryz.f23.results.toList [(false, [.any])] (decOut zq38.sig)
def zq38.c1 : Code := codeAt (Tryz.f23.body.getD .skip) []
def zq38.c2 : Code := codeAt (Tryz.f23.body.getD .skip) [false]
def zq38.c6 : Code := codeAt (Tryz.f23.body.getD .skip) [true, false]
def zq38.c15 : Code := codeAt (Tryz.f23.body.getD .skip) [true, true, true]
def zq38.c28 : Code := codeAt (Tryz.f23.body.getD .skip) [true, true, false, false]
def zq38.c116 : Code := codeAt (Tryz.f23.body.getD .skip) [true, true, false, true, false, false]
def zq38.K116 (N : Nat) (Kn58 : St D0 → Option zq38.R) : Ex → St D0 → Option zq38.R := ((fun up => (onN (fun s => zq38.C.tidy 58 s ((onN Kn58 up) .normal)) (onN Kn58 up))) (blockK 0 (onN (fun s => zq38.C.tidy 14 s (fun s' => runC zq38.C (zq38.O N) N zq38.c15 15 s' zq38.K0)) zq38.K0)))
def zq38.o1 (N : Nat) (v0 : List Int) (v1 : List Int) (v2 : Int) (v3 : Int) (c1 : (List Int) → (List Int) → Int → Int → Option zq38.R) : Option zq38.R :=
 bif (decide (v3 < v2)) then
  bif (decide (0 ≤ v3)) then
   bif (decide (v3 < (v0.length : Int))) then
    (v0[(v3 : Int).toNat]?).bind fun x1 =>
    bif (decide (0 ≤ v3)) then
     bif (decide (v3 < (v1.length : Int))) then
      (v1[(v3 : Int).toNat]?).bind fun x2 =>
      bif (x1 != x2) then
       some (false)
      else
      c1 v0 v1 v2 (w64 (v3 + 1))
     else
     none
    else
    none
   else
   none
  else
  none
 else
 some (true)
theorem zq38.o1.run (N : Nat) (Kn58 : St D0 → Option zq38.R) (v0 : List Int) (v1 : List Int) (v2 : Int) (v3 : Int) : runC zq38.C (zq38.O N) N zq38.c116 116 (mkSt [(0, .one (.sl false 3 v0)), (1, .one (.sl false 3 v1)), (12, .one (.int .i64 v2)), (13, .one (.int .i64 v3))] [] : St D0) ((fun up => (onN (fun s => zq38.C.tidy 58 s ((onN Kn58 up) .normal)) (onN Kn58 up))) (blockK 0 (onN (fun s => zq38.C.tidy 14 s (fun s' => runC zq38.C (zq38.O N) N zq38.c15 15 s' zq38.K0)) zq38.K0))) = zq38.o1 N v0 v1 v2 v3 ((fun w0 w1 w2 w3 => Kn58 (mkSt [(0, .one (.sl false 3 w0)), (1, .one (.sl false 3 w1)), (12, .one (.int .i64 w2)), (13, .one (.int .i64 w3))] [] : St D0))) := by kernel_rfl
def zq38.d1 (N : Nat) (v0 : List Int) (v1 : List Int) (v2 : Int) (v3 : Int) (c1 : (List Int) → (List Int) → Int → Int → Option zq38.R) : Option zq38.R := zq38.o1 N v0 v1 v2 v3 c1
theorem zq38.d1.run (N : Nat) (Kn58 : St D0 → Option zq38.R) (v0 : List Int) (v1 : List Int) (v2 : Int) (v3 : Int) : runC zq38.C (zq38.O N) N zq38.c116 116 (mkSt [(0, .one (.sl false 3 v0)), (1, .one (.sl false 3 v1)), (12, .one (.int .i64 v2)), (13, .one (.int .i64 v3))] [] : St D0) (zq38.K116 N Kn58) = zq38.d1 N v0 v1 v2 v3 ((fun w0 w1 w2 w3 => Kn58 (mkSt [(0, .one (.sl false 3 w0)), (1, .one (.sl false 3 w1)), (12, .one (.int .i64 w2)), (13, .one (.int .i64 w3))] [] : St D0))) := by
  exact (zq38.o1.run N Kn58 v0 v1 v2 v3).trans rfl
def zq38.K58 (N : Nat) : Ex → St D0 → Option zq38.R := (blockK 0 (onN (fun s => zq38.C.tidy 14 s (fun s' => runC zq38.C (zq38.O N) N zq38.c15 15 s' zq38.K0)) zq38.K0))
def zq38.l1 (N : Nat) : Nat → (List Int) → (List Int) → Int → Int → Option zq38.R
  | 0, _, _, _, _ => none
  | n + 1, v0, v1, v2, v3 => zq38.d1 N v0 v1 v2 v3 ((fun w0 w1 w2 w3 => zq38.l1 N n w0 w1 w2 w3))
theorem zq38.loop58 (N : Nat) : ∀ n, (∀ (v0 : List Int) (v1 : List Int) (v2 : Int) (v3 : Int), iter (loopF zq38.C (zq38.O N) N zq38.c116 58) n (mkSt [(0, .one (.sl false 3 v0)), (1, .one (.sl false 3 v1)), (12, .one (.int .i64 v2)), (13, .one (.int .i64 v3))] [] : St D0) (zq38.K58 N) = zq38.l1 N n v0 v1 v2 v3)
  | 0 => (fun v0 v1 v2 v3 => rfl)
  | n + 1 => (fun v0 v1 v2 v3 => (zq38.d1.run N (fun s => iter (loopF zq38.C (zq38.O N) N zq38.c116 58) n s (zq38.K58 N)) v0 v1 v2 v3).trans (show _ = zq38.d1 N v0 v1 v2 v3 ((fun w0 w1 w2 w3 => zq38.l1 N n w0 w1 w2 w3)) from (congr rfl (funext fun w0 => funext fun w1 => funext fun w2 => funext fun w3 => (zq38.loop58 N n) w0 w1 w2 w3))))
def zq38.o0 (N : Nat) (a0 : List Int) (a1 : List Int) (c1 : (List Int) → (List Int) → Int → Int → Option zq38.R) : Option zq38.R :=
 bif ((a0.length : Int) != (a1.length : Int)) then
  some (false)
 else
 c1 a0 a1 (a0.length : Int) 0
theorem zq38.o0.run (N : Nat) (H116 : Code) (a0 : List Int) (a1 : List Int) : runC zq38.C (zq38.O N) N (.seq zq38.c2 (.seq zq38.c6 (.seq (.seq zq38.c28 (.block 0 (.loop H116))) zq38.c15))) 1 (st0 [.one (.sl false 3 a0), .one (.sl false 3 a1)] [] : St D0) zq38.K0 = zq38.o0 N a0 a1 ((fun w0 w1 w2 w3 => iter (loopF zq38.C (zq38.O N) N H116 58) N (mkSt [(0, .one (.sl false 3 w0)), (1, .one (.sl false 3 w1)), (12, .one (.int .i64 w2)), (13, .one (.int .i64 w3))] [] : St D0) (blockK 0 (onN (fun s => zq38.C.tidy 14 s (fun s' => runC zq38.C (zq38.O N) N zq38.c15 15 s' zq38.K0)) zq38.K0)))) := by kernel_rfl
def zq38.g (N : Nat) (a0 : List Int) (a1 : List Int) : Option zq38.R := zq38.o0 N a0 a1 ((fun w0 w1 w2 w3 => zq38.l1 N N w0 w1 w2 w3))
theorem zq38.c1_0 : zq38.c1 = (.seq zq38.c2 (.seq zq38.c6 (.seq (.seq zq38.c28 (.block 0 (.loop zq38.c116))) zq38.c15))) := by kernel_rfl
theorem zq38.g.run (N : Nat) (a0 : List Int) (a1 : List Int) : runC zq38.C (zq38.O N) N zq38.c1 1 (st0 [.one (.sl false 3 a0), .one (.sl false 3 a1)] [] : St D0) zq38.K0 = zq38.g N a0 a1 := by
  rw [zq38.c1_0]; unfold zq38.g; exact (zq38.o0.run N zq38.c116 a0 a1).trans (congr rfl (funext fun w0 => funext fun w1 => funext fun w2 => funext fun w3 => (zq38.loop58 N N) w0 w1 w2 w3))
theorem zq38.good (N : Nat) (a0 : List Int) (a1 : List Int) (r : zq38.R) (h : zq38.g N a0 a1 = some r) : Go.PM.Good Tryz.prog T0 23 [.one (.sl false 3 a0), .one (.sl false 3 a1)] [] (zq38.sig.ret r) (zq38.sig.bs r) :=
  good_fn tabOk0 mixed0 zq38.sig (zq38.E N) Tryz.func23 (by kernel_rfl) (by kernel_rfl) 16806963 0 0 [(58, [0, 1, 12, 13], [])] 3344704 false [] [(false, [.any])] (by kernel_rfl) rfl rfl ((zq38.g.run N a0 a1).trans h)
def zq38.ent (N : Nat) : Ent Tryz.prog T0 := mkEnt 23 [(false, [.ro 3]), (false, [.ro 3])] zq38.sig (fun t => zq38.g N t.1 t.2) (fun t r h => zq38.good N t.1 t.2 r h)
/-! ### zq78 -/
abbrev zq78.R : Type := Int
abbrev zq78.sig : Sig := ⟨[(false, 1), (false, 1)], [], [.int .i64, .int .i64], [(false, 1)], [], [.int .i64]⟩
def zq78.C : Cfg D0 := ⟨Tryz.prog, T0, 19, 0, 18, 0, [], 37536, false, []⟩
def zq78.E (N : Nat) : List (Ent Tryz.prog T0) := []
def zq78.O (N : Nat) : Orc D0 zq78.R := orcOf (zq78.E N)
def zq78.K0 : Ex → St D0 → Option zq78.R := exitK zq78.C Tryz.f90.results.toList [(false, [.any])] (decOut zq78.sig)
def zq78.c1 : Code := codeAt (Tryz.f90.body.getD .skip) []
def zq78.o0 (N : Nat) (a0 : Int) (a1 : Int) : Option zq78.R :=
 bif ((w64 (60 * a0)) == 0) then
  none
 else
 bif ((w64 (60 * a0)) == 0) then
  none
 else
 some ((Int.tmod (w64 ((Int.tmod (w64 ((w64 (a0 - 1)) * a1)) (w64 (60 * a0))) + (w64 (60 * a0)))) (w64 (60 * a0))))
theorem zq78.o0.run (N : Nat) (a0 : Int) (a1 : Int) : runC zq78.C (zq78.O N) N zq78.c1 1 (st0 [.one (.int .i64 a0), .one (.int .i64 a1)] [] : St D0) zq78.K0 = zq78.o0 N a0 a1 := by kernel_rfl
def zq78.g (N : Nat) (a0 : Int) (a1 : Int) : Option zq78.R := zq78.o0 N a0 a1
theorem zq78.g.run (N : Nat) (a0 : Int) (a1 : Int) : runC zq78.C (zq78.O N) N zq78.c1 1 (st0 [.one (.int .i64 a0), .one (.int .i64 a1)] [] : St D0) zq78.K0 = zq78.g N a0 a1 := by
  exact (zq78.o0.run N a0 a1).trans rfl
theorem zq78.good (N : Nat) (a0 : Int) (a1 : Int) (r : zq78.R) (h : zq78.g N a0 a1 = some r) : Go.PM.Good Tryz.prog T0 90 [.one (.int .i64 a0), .one (.int .i64 a1)] [] (zq78.sig.ret r) (zq78.sig.bs r) :=
  good_fn tabOk0 mixed0 zq78.sig (zq78.E N) Tryz.func90 (by kernel_rfl) (by kernel_rfl) 19 0 0 [] 37536 false [] [(false, [.any])] (by kernel_rfl) rfl rfl ((zq78.g.run N a0 a1).trans h)
def zq78.ent (N : Nat) : Ent Tryz.prog T0 := mkEnt 90 [(false, [.any]), (false, [.any])] zq78.sig (fun t => zq78.g N t.1 t.2) (fun t r h => zq78.good N t.1 t.2 r h)
/-! ### zq89 -/
abbrev zq89.R : Type := Int
abbrev zq89.sig : Sig := ⟨[(false, 1), (false, 1)], [], [.int .i64, .int .i64], [(false, 1)], [], [.int .i64]⟩
def zq89.C : Cfg D0 := ⟨Tryz.prog, T0, 563, 0, 15, 0, [], 9280, false, []⟩
def zq89.E (N : Nat) : List (Ent Tryz.prog T0) := []
def zq89.O (N : Nat) : Orc D0 zq89.R := orcOf (zq89.E N)
def zq89.K0 : Ex → St D0 → Option zq89.R := exitK zq89.C Tryz.f107.results.toList [(false, [.any])] (decOut zq89.sig)
def zq89.c1 : Code := codeAt (Tryz.f107.body.getD .skip) []
def zq89.o0 (N : Nat) (a0 : Int) (a1 : Int) : Option zq89.R :=
 bif ((Int.tmod a1 2) == 1) then
  some (1)
 else
 bif (a1 == 0) then
  some (a0)
 else
 some ((w64 (Int.tdiv a1 2)))
theorem zq89.o0.run (N : Nat) (a0 : Int) (a1 : Int) : runC zq89.C (zq89.O N) N zq89.c1 1 (st0 [.one (.int .i64 a0), .one (.int .i64 a1)] [] : St D0) zq89.K0 = zq89.o0 N a0 a1 := by kernel_rfl
def zq89.g (N : Nat) (a0 : Int) (a1 : Int) : Option zq89.R := zq89.o0 N a0 a1
theorem zq89.g.run (N : Nat) (a0 : Int) (a1 : Int) : runC zq89.C (zq89.O N) N zq89.c1 1 (st0 [.one (.int .i64 a0), .one (.int .i64 a1)] [] : St D0) zq89.K0 = zq89.g N a0 a1 := by
  exact (zq89.o0.run N a0 a1).trans rfl
theorem zq89.good (N : Nat) (a0 : Int) (a1 : Int) (r : zq89.R) (h : zq89.g N a0 a1 = some r) : Go.PM.Good Tryz.prog T0 107 [.one (.int .i64 a0), .one (.int .i64 a1)] [] (zq89.sig.ret r) (zq89.sig.bs r) :=
  good_fn tabOk0 mixed0 zq89.sig (zq89.E N) Tryz.func107 (by kernel_rfl) (by kernel_rfl) 563 0 0 [] 9280 false [] [(false, [.any])] (by kernel_rfl) rfl rfl ((zq89.g.run N a0 a1).trans h)
def zq89.ent (N : Nat) : Ent Tryz.prog T0 := mkEnt 107 [(false, [.any]), (false, [.any])] zq89.sig (fun t => zq89.g N t.1 t.2) (fun t r h => zq89.good N t.1 t.2 r h)
/-! ### zq83 -/
abbrev zq83.R : Type := Int
abbrev zq83.sig : Sig := ⟨[(false, 1), (false, 1)], [], [.int .i64, .int .i64], [(false, 1)], [], [.int .i64]⟩
def zq83.C : Cfg D0 := ⟨Tryz.prog, T0, 19, 0, 13, 0, [], 608, false, []⟩
def zq83.E (N : Nat) : List (Ent Tryz.prog T0) := [zq89.ent N]
def zq83.O (N : Nat) : Orc D0 zq83.R := orcOf (zq83.E N)
def zq83.K0 : Ex → St D0 → Option zq83.R := exitK zq83.C Tryz.f91.results.toList [(false, [.any])] (decOut zq83.sig)
def zq83.c1 : Code := codeAt (Tryz.f91.body.getD .skip) []
def zq83.o0 (N : Nat) (a0 : Int) (a1 : Int) : Option zq83.R :=
 bif (a0 == 0) then
  none
 else
 (zq89.g N a0 (w64 (2 * (Int.tmod (w64 ((w64 (Int.tdiv a1 60)) + 1)) a0)))).bind fun r1 =>
 some (r1)
theorem zq83.o0.run (N : Nat) (a0 : Int) (a1 : Int) : runC zq83.C (zq83.O N) N zq83.c1 1 (st0 [.one (.int .i64 a0), .one (.int .i64 a1)] [] : St D0) zq83.K0 = zq83.o0 N a0 a1 := by kernel_rfl
def zq83.g (N : Nat) (a0 : Int) (a1 : Int) : Option zq83.R := zq83.o0 N a0 a1
theorem zq83.g.run (N : Nat) (a0 : Int) (a1 : Int) : runC zq83.C (zq83.O N) N zq83.c1 1 (st0 [.one (.int .i64 a0), .one (.int .i64 a1)] [] : St D0) zq83.K0 = zq83.g N a0 a1 := by
  exact (zq83.o0.run N a0 a1).trans rfl
theorem zq83.good (N : Nat) (a0 : Int) (a1 : Int) (r : zq83.R) (h : zq83.g N a0 a1 = some r) : Go.PM.Good Tryz.prog T0 91 [.one (.int .i64 a0), .one (.int .i64 a1)] [] (zq83.sig.ret r) (zq83.sig.bs r) :=
  good_fn tabOk0 mixed0 zq83.sig (zq83.E N) Tryz.func91 (by kernel_rfl) (by kernel_rfl) 19 0 0 [] 608 false [] [(false, [.any])] (by kernel_rfl) rfl rfl ((zq83.g.run N a0 a1).trans h)
def zq83.ent (N : Nat) : Ent Tryz.prog T0 := mkEnt 91 [(false, [.any]), (false, [.any])] zq83.sig (fun t => zq83.g N t.1 t.2) (fun t r h => zq83.good N t.1 t.2 r h)
/-! ### zq73 -/
abbrev zq73.R : Type := Int
abbrev zq73.sig : Sig := ⟨[(false, 1), (false, 1)], [], [.int .i64, .int .i64], [(false, 1)], [], [.int .i64]⟩
def zq73.C : Cfg D0 := ⟨Tryz.prog, T0, 147, 0, 10, 0, [], 96, false, []⟩
def zq73.E (N : Nat) : List (Ent Tryz.prog T0) := []
def zq73.O (N : Nat) : Orc D0 zq73.R := orcOf (zq73.E N)
def zq73.K0 : Ex → St D0 → Option zq73.R := exitK zq73.C Tryz.f108.results.toList [(false, [.any])] (decOut zq73.sig)
def zq73.c1 : Code := codeAt (Tryz.f108.body.getD .skip) []
def zq73.o0 (N : Nat) (a0 : Int) (a1 : Int) : Option zq73.R :=
 bif (decide (a0 > a1)) then
  some (a0)
 else
 some (a1)
theorem zq73.o0.run (N : Nat) (a0 : Int) (a1 : Int) : runC zq73.C (zq73.O N) N zq73.c1 1 (st0 [.one (.int .i64 a0), .one (.int .i64 a1)] [] : St D0) zq73.K0 = zq73.o0 N a0 a1 := by kernel_rfl
def zq73.g (N : Nat) (a0 : Int) (a1 : Int) : Option zq73.R := zq73.o0 N a0 a1
theorem zq73.g.run (N : Nat) (a0 : Int) (a1 : Int) : runC zq73.C (zq73.O N) N zq73.c1 1 (st0 [.one (.int .i64 a0), .one (.int .i64 a1)] [] : St D0) zq73.K0 = zq73.g N a0 a1 := by
  exact (zq73.o0.run N a0 a1).trans rfl
theorem zq73.good (N : Nat) (a0 : Int) (a1 : Int) (r : zq73.R) (h : zq73.g N a0 a1 = some r) : Go.PM.Good Tryz.prog T0 108 [.one (.int .i64 a0), .one (.int .i64 a1)] [] (zq73.sig.ret r) (zq73.sig.bs r) :=
  good_fn tabOk0 mixed0 zq73.sig (zq73.E N) Tryz.func108 (by kernel_rfl) (by kernel_rfl) 147 0 0 [] 96 false [] [(false, [.any])] (by kernel_rfl) rfl rfl ((zq73.g.run N a0 a1).trans h)
def zq73.ent (N : Nat) : Ent Tryz.prog T0 := mkEnt 108 [(false, [.any]), (false, [.any])] zq73.sig (fun t => zq73.g N t.1 t.2) (fun t r h => zq73.good N t.1 t.2 r h)
/-! ### zq63 -/
abbrev zq63.R : Type := Int
abbrev zq63.sig : Sig := ⟨[(false, 1)], [], [.int .i64], [(false, 1)], [], [.int .i64]⟩
def zq63.C : Cfg D0 := ⟨Tryz.prog, T0, 5, 0, 7, 0, [], 24, false, []⟩
def zq63.E (N : Nat) : List (Ent Tryz.prog T0) := [zq73.ent N]
def zq63.O (N : Nat) : Orc D0 zq63.R := orcOf (zq63.E N)
def zq63.K0 : Ex → St D0 → Option zq63.R := exitK zq63.C Tryz.f92.results.toList [(false, [.any])] (decOut zq63.sig)
def zq63.c1 : Code := codeAt (Tryz.f92.body.getD .skip) []
def zq63.o0 (N : Nat) (a0 : Int) : Option zq63.R :=
 (zq73.g N a0 (w64 (0 - a0))).bind fun r1 =>
 some (r1)
theorem zq63.o0.run (N : Nat) (a0 : Int) : runC zq63.C (zq63.O N) N zq63.c1 1 (st0 [.one (.int .i64 a0)] [] : St D0) zq63.K0 = zq63.o0 N a0 := by kernel_rfl
def zq63.g (N : Nat) (a0 : Int) : Option zq63.R := zq63.o0 N a0
theorem zq63.g.run (N : Nat) (a0 : Int) : runC zq63.C (zq63.O N) N zq63.c1 1 (st0 [.one (.int .i64 a0)] [] : St D0) zq63.K0 = zq63.g N a0 := by
  exact (zq63.o0.run N a0).trans rfl
theorem zq63.good (N : Nat) (a0 : Int) (r : zq63.R) (h : zq63.g N a0 = some r) : Go.PM.Good Tryz.prog T0 92 [.one (.int .i64 a0)] [] (zq63.sig.ret r) (zq63.sig.bs r) :=
  good_fn tabOk0 mixed0 zq63.sig (zq63.E N) Tryz.func92 (by kernel_rfl) (by kernel_rfl) 5 0 0 [] 24 false [] [(false, [.any])] (by kernel_rfl) rfl rfl ((zq63.g.run N a0).trans h)
def zq63.ent (N : Nat) : Ent Tryz.prog T0 := mkEnt 92 [(false, [.any])] zq63.sig (fun t => zq63.g N t) (fun t r h => zq63.good N t r h)
/-! ### zq81 -/
abbrev zq81.R : Type := Bool
abbrev zq81.sig : Sig := ⟨[(false, 1), (true, 3), (false, 1)], [], [.int .i64, .int .i64, .int .i64, .int .i64, .int .i64], [(false, 1)], [], [.bool]⟩
def zq81.C : Cfg D0 := ⟨Tryz.prog, T0, 288300745971778007, 0, 73, 0, [], 224822790881512917504, false, []⟩
def zq81.E (N : Nat) : List (Ent Tryz.prog T0) := [zq78.ent N, zq83.ent N, zq63.ent N]
def zq81.O (N : Nat) : Orc D0 zq81.R := orcOf (zq81.E N)
def zq81.K0 : Ex → St D0 → Option zq81.R := exitK zq81.C Tryz.f69.results.toList [(false, [.any])] (decOut zq81.sig)
def zq81.c1 : Code := codeAt (Tryz.f69.body.getD .skip) []
def zq81.o0 (N : Nat) (a0 : Int) (a1_0 : Int) (a1_1 : Int) (a1_2 : Int) (a2 : Int) : Option zq81.R :=
 bif (a1_0 == 0) then
  some (((w64 (Int.tdiv a2 60)) == a1_1))
 else
 bif (a1_0 == 1) then
  bif (a1_1 == 0) then
   none
  else
  some (((Int.tmod (Int.tmod a2 60) a1_1) == a1_2))
 else
 bif (a1_0 == 2) then
  some (((w64 ((w64 ((w64 ((w64 (Int.tdiv (w64 (Int.tdiv a2 60)) 10)) + (Int.tmod (w64 (Int.tdiv a2 60)) 10))) + (w64 (Int.tdiv (Int.tmod a2 60) 10)))) + (Int.tmod (Int.tmod a2 60) 10))) == a1_1))
 else
 bif (a1_0 == 3) then
  (zq78.g N a0 a2).bind fun r1 =>
  some (((decide (r1 < (w64 (30 * a0)))) == (a1_1 == 1)))
 else
 bif (a1_0 == 4) then
  (zq83.g N a0 a2).bind fun r2 =>
  some ((r2 == a1_1))
 else
 (zq63.g N (w64 ((w64 (Int.tdiv a2 60)) - (Int.tmod a2 60)))).bind fun r3 =>
 some ((r3 == a1_1))
theorem zq81.o0.run (N : Nat) (a0 : Int) (a1_0 : Int) (a1_1 : Int) (a1_2 : Int) (a2 : Int) : runC zq81.C (zq81.O N) N zq81.c1 1 (st0 [.one (.int .i64 a0), .agg [.int .i64 a1_0, .int .i64 a1_1, .int .i64 a1_2], .one (.int .i64 a2)] [] : St D0) zq81.K0 = zq81.o0 N a0 a1_0 a1_1 a1_2 a2 := by kernel_rfl
def zq81.g (N : Nat) (a0 : Int) (a1_0 : Int) (a1_1 : Int) (a1_2 : Int) (a2 : Int) : Option zq81.R := zq81.o0 N a0 a1_0 a1_1 a1_2 a2
theorem zq81.g.run (N : Nat) (a0 : Int) (a1_0 : Int) (a1_1 : Int) (a1_2 : Int) (a2 : Int) : runC zq81.C (zq81.O N) N zq81.c1 1 (st0 [.one (.int .i64 a0), .agg [.int .i64 a1_0, .int .i64 a1_1, .int .i64 a1_2], .one (.int .i64 a2)] [] : St D0) zq81.K0 = zq81.g N a0 a1_0 a1_1 a1_2 a2 := by
  exact (zq81.o0.run N a0 a1_0 a1_1 a1_2 a2).trans rfl
theorem zq81.good (N : Nat) (a0 : Int) (a1_0 : Int) (a1_1 : Int) (a1_2 : Int) (a2 : Int) (r : zq81.R) (h : zq81.g N a0 a1_0 a1_1 a1_2 a2 = some r) : Go.PM.Good Tryz.prog T0 69 [.one (.int .i64 a0), .agg [.int .i64 a1_0, .int .i64 a1_1, .int .i64 a1_2], .one (.int .i64 a2)] [] (zq81.sig.ret r) (zq81.sig.bs r) :=
  good_fn tabOk0 mixed0 zq81.sig (zq81.E N) Tryz.func69 (by kernel_rfl) (by kernel_rfl) 288300745971778007 0 0 [] 224822790881512917504 false [] [(false, [.any])] (by kernel_rfl) rfl rfl ((zq81.g.run N a0 a1_0 a1_1 a1_2 a2).trans h)
def zq81.ent (N : Nat) : Ent Tryz.prog T0 := mkEnt 69 [(false, [.any]), (true, [.any, .any, .any]), (false, [.any])] zq81.sig (fun t => zq81.g N t.1 t.2.1 t.2.2.1 t.2.2.2.1 t.2.2.2.2) (fun t r h => zq81.good N t.1 t.2.1 t.2.2.1 t.2.2.2.1 t.2.2.2.2 r h)
/-! ### zq80 -/
abbrev zq80.R : Type := Bool
abbrev zq80.sig : Sig := ⟨[(false, 1), (true, 3)], [], [.int .i64, .int .i64, .int .i64, .int .i64], [(false, 1)], [], [.bool]⟩
def zq80.C : Cfg D0 := ⟨Tryz.prog, T0, 2288118061387803, 0, 56, 0, [(12, [0, 3, 12], [3])], 562949953945600, false, []⟩
def zq80.E (N : Nat) : List (Ent Tryz.prog T0) := [zq72.ent N]
def zq80.O (N : Nat) : Orc D0 zq80.R := orcOf (zq80.E N)
def zq80.K0 : Ex → St D0 → Option zq80.R := exitK zq80.C Tryz.f68.results.toList [(false, [.any])] (decOut zq80.sig)
def zq80.c1 : Code := codeAt (Tryz.f68.body.getD .skip) []
def zq80.c2 : Code := codeAt (Tryz.f68.body.getD .skip) [false]
def zq80.c7 : Code := codeAt (Tryz.f68.body.getD .skip) [true, true]
def zq80.c12 : Code := codeAt (Tryz.f68.body.getD .skip) [true, false, false]
def zq80.c13 : Code := codeAt (Tryz.f68.body.getD .skip) [true, false, true]
def zq80.K13 (N : Nat) : Ex → St D0 → Option zq80.R := (onN (fun s => zq80.C.tidy 6 s (fun s' => runC zq80.C (zq80.O N) N zq80.c7 7 s' zq80.K0)) zq80.K0)
def zq80.o1 (N : Nat) (v0 : Int) (v1 : Bool) (v2 : Int) (v3 : Int) (v4 : Int) : Option zq80.R :=
 bif v1 then
  some (false)
 else
 bif (v2 == 0) then
  (zq72.g N v3 0 (w64 (v0 - 1))).bind fun r1 =>
  some (r1)
 else
 bif (v2 == 1) then
  (zq72.g N v3 2 60).bind fun r2 =>
  bif r2 then
   (zq72.g N v4 0 (w64 (v3 - 1))).bind fun r3 =>
   some (r3)
  else
  some (false)
 else
 bif (v2 == 2) then
  (zq72.g N v3 0 30).bind fun r4 =>
  some (r4)
 else
 bif (v2 == 3) then
  (zq72.g N v3 0 1).bind fun r5 =>
  some (r5)
 else
 bif (v2 == 4) then
  (zq72.g N v3 1 v0).bind fun r6 =>
  some (r6)
 else
 bif (v2 == 5) then
  (zq72.g N v3 0 59).bind fun r7 =>
  some (r7)
 else
 some (false)
theorem zq80.o1.run (N : Nat) (v0 : Int) (v1 : Bool) (v2 : Int) (v3 : Int) (v4 : Int) : runC zq80.C (zq80.O N) N zq80.c13 13 (mkSt [(0, .one (.int .i64 v0)), (3, .one (.ptr 3 0)), (12, .one (.bool v1))] [(3, some (41, [.int .i64 v2, .int .i64 v3, .int .i64 v4]))] : St D0) (onN (fun s => zq80.C.tidy 6 s (fun s' => runC zq80.C (zq80.O N) N zq80.c7 7 s' zq80.K0)) zq80.K0) = zq80.o1 N v0 v1 v2 v3 v4 := by kernel_rfl
def zq80.d1 (N : Nat) (v0 : Int) (v1 : Bool) (v2 : Int) (v3 : Int) (v4 : Int) : Option zq80.R := zq80.o1 N v0 v1 v2 v3 v4
theorem zq80.d1.run (N : Nat) (v0 : Int) (v1 : Bool) (v2 : Int) (v3 : Int) (v4 : Int) : runC zq80.C (zq80.O N) N zq80.c13 13 (mkSt [(0, .one (.int .i64 v0)), (3, .one (.ptr 3 0)), (12, .one (.bool v1))] [(3, some (41, [.int .i64 v2, .int .i64 v3, .int .i64 v4]))] : St D0) (zq80.K13 N) = zq80.d1 N v0 v1 v2 v3 v4 := by
  exact (zq80.o1.run N v0 v1 v2 v3 v4).trans rfl
def zq80.o0 (N : Nat) (a0 : Int) (a1_0 : Int) (a1_1 : Int) (a1_2 : Int) (c1 : Int → Bool → Int → Int → Int → Option zq80.R) : Option zq80.R :=
 bif (a1_0 != 1) then
  c1 a0 (a1_2 != 0) a1_0 a1_1 a1_2
 else
 c1 a0 false a1_0 a1_1 a1_2
theorem zq80.o0.run (N : Nat) (H13 : Code) (a0 : Int) (a1_0 : Int) (a1_1 : Int) (a1_2 : Int) : runC zq80.C (zq80.O N) N (.seq zq80.c2 (.seq (.seq zq80.c12 H13) zq80.c7)) 1 (st0 [.one (.int .i64 a0), .agg [.int .i64 a1_0, .int .i64 a1_1, .int .i64 a1_2]] [] : St D0) zq80.K0 = zq80.o0 N a0 a1_0 a1_1 a1_2 ((fun w0 w1 w2 w3 w4 => runC zq80.C (zq80.O N) N H13 13 (mkSt [(0, .one (.int .i64 w0)), (3, .one (.ptr 3 0)), (12, .one (.bool w1))] [(3, some (41, [.int .i64 w2, .int .i64 w3, .int .i64 w4]))] : St D0) (onN (fun s => zq80.C.tidy 6 s (fun s' => runC zq80.C (zq80.O N) N zq80.c7 7 s' zq80.K0)) zq80.K0))) := by kernel_rfl
def zq80.g (N : Nat) (a0 : Int) (a1_0 : Int) (a1_1 : Int) (a1_2 : Int) : Option zq80.R := zq80.o0 N a0 a1_0 a1_1 a1_2 ((fun w0 w1 w2 w3 w4 => zq80.d1 N w0 w1 w2 w3 w4))
theorem zq80.c1_0 : zq80.c1 = (.seq zq80.c2 (.seq (.seq zq80.c12 zq80.c13) zq80.c7)) := by kernel_rfl
theorem zq80.g.run (N : Nat) (a0 : Int) (a1_0 : Int) (a1_1 : Int) (a1_2 : Int) : runC zq80.C (zq80.O N) N zq80.c1 1 (st0 [.one (.int .i64 a0), .agg [.int .i64 a1_0, .int .i64 a1_1, .int .i64 a1_2]] [] : St D0) zq80.K0 = zq80.g N a0 a1_0 a1_1 a1_2 := by
  rw [zq80.c1_0]; unfold zq80.g; exact (zq80.o0.run N zq80.c13 a0 a1_0 a1_1 a1_2).trans (congr rfl (funext fun w0 => funext fun w1 => funext fun w2 => funext fun w3 => funext fun w4 => zq80.d1.run N w0 w1 w2 w3 w4))
theorem zq80.good (N : Nat) (a0 : Int) (a1_0 : Int) (a1_1 : Int) (a1_2 : Int) (r : zq80.R) (h : zq80.g N a0 a1_0 a1_1 a1_2 = some r) : Go.PM.Good Tryz.prog T0 68 [.one (.int .i64 a0), .agg [.int .i64 a1_0, .int .i64 a1_1, .int .i64 a1_2]] [] (zq80.sig.ret r) (zq80.sig.bs r) :=
  good_fn tabOk0 mixed0 zq80.sig (zq80.E N) Tryz.func68 (by kernel_rfl) (by kernel_rfl) 2288118061387803 0 0 [(12, [0, 3, 12], [3])] 562949953945600 false [] [(false, [.any])] (by kernel_rfl) rfl rfl ((zq80.g.run N a0 a1_0 a1_1 a1_2).trans h)
def zq80.ent (N : Nat) : Ent Tryz.prog T0 := mkEnt 68 [(false, [.any]), (true, [.any, .any, .any])] zq80.sig (fun t => zq80.g N t.1 t.2.1 t.2.2.1 t.2.2.2) (fun t r h => zq80.good N t.1 t.2.1 t.2.2.1 t.2.2.2 r h)
/-! ### zq82 -/
abbrev zq82.R : Type := Bool
abbrev zq82.sig : Sig := ⟨[(true, 2)], [], [.int .i64, .sl false 41], [(false, 1)], [], [.bool]⟩
def zq82.C : Cfg D0 := ⟨Tryz.prog, T0, 68108311, 0, 28, 0, [(12, [1, 14], [1]), (58, [1, 16, 17, 18], [1])], 0, false, []⟩
def zq82.E (N : Nat) : List (Ent Tryz.prog T0) := [zq60.ent N, zq80.ent N]
def zq82.O (N : Nat) : Orc D0 zq82.R := orcOf (zq82.E N)
def zq82.K0 : Ex → St D0 → Option zq82.R := exitK zq82.C Tryz.f39.results.toList [(false, [.any])] (decOut zq82.sig)
def zq82.c1 : Code := codeAt (Tryz.f39.body.getD .skip) []
def zq82.c2 : Code := codeAt (Tryz.f39.body.getD .skip) [false]
def zq82.c7 : Code := codeAt (Tryz.f39.body.getD .skip) [true, true]
def zq82.c12 : Code := codeAt (Tryz.f39.body.getD .skip) [true, false, false]
def zq82.c13 : Code := codeAt (Tryz.f39.body.getD .skip) [true, false, true]
def zq82.c15 : Code := codeAt (Tryz.f39.body.getD .skip) [true, true, true]
def zq82.c28 : Code := codeAt (Tryz.f39.body.getD .skip) [true, true, false, false]
def zq82.c116 : Code := codeAt (Tryz.f39.body.getD .skip) [true, true, false, true, false, false]
def zq82.K116 (N : Nat) (Kn58 : St D0 → Option zq82.R) : Ex → St D0 → Option zq82.R := ((fun up => (onN (fun s => zq82.C.tidy 58 s ((onN Kn58 up) .normal)) (onN Kn58 up))) (blockK 0 (onN (fun s => zq82.C.tidy 14 s (fun s' => runC zq82.C (zq82.O N) N zq82.c15 15 s' zq82.K0)) zq82.K0)))
def zq82.o2 (N : Nat) (v0 : List S41) (v1 : Int) (v2 : Int) (v3 : Int) (v4 : List S41) (c2 : (List S41) → Int → Int → Int → (List S41) → Option zq82.R) : Option zq82.R :=
 bif (decide (v2 < v1)) then
  bif (decide (0 ≤ v2)) then
   bif (decide (v2 < (v0.length : Int))) then
    (v0[(v2 : Int).toNat]?).bind fun x1 =>
    (zq80.g N v3 x1.f0 x1.f1 x1.f2).bind fun r2 =>
    bif (!r2) then
     some (false)
    else
    c2 v0 v1 (w64 (v2 + 1)) v3 v4
   else
   none
  else
  none
 else
 some (true)
theorem zq82.o2.run (N : Nat) (Kn58 : St D0 → Option zq82.R) (v0 : List S41) (v1 : Int) (v2 : Int) (v3 : Int) (v4 : List S41) : runC zq82.C (zq82.O N) N zq82.c116 116 (mkSt [(1, .one (.ptr 1 0)), (16, .one (.sl false 41 v0)), (17, .one (.int .i64 v1)), (18, .one (.int .i64 v2))] [(1, some (24, [.int .i64 v3, .sl false 41 v4]))] : St D0) ((fun up => (onN (fun s => zq82.C.tidy 58 s ((onN Kn58 up) .normal)) (onN Kn58 up))) (blockK 0 (onN (fun s => zq82.C.tidy 14 s (fun s' => runC zq82.C (zq82.O N) N zq82.c15 15 s' zq82.K0)) zq82.K0))) = zq82.o2 N v0 v1 v2 v3 v4 ((fun w0 w1 w2 w3 w4 => Kn58 (mkSt [(1, .one (.ptr 1 0)), (16, .one (.sl false 41 w0)), (17, .one (.int .i64 w1)), (18, .one (.int .i64 w2))] [(1, some (24, [.int .i64 w3, .sl false 41 w4]))] : St D0))) := by kernel_rfl
def zq82.d2 (N : Nat) (v0 : List S41) (v1 : Int) (v2 : Int) (v3 : Int) (v4 : List S41) (c2 : (List S41) → Int → Int → Int → (List S41) → Option zq82.R) : Option zq82.R := zq82.o2 N v0 v1 v2 v3 v4 c2
theorem zq82.d2.run (N : Nat) (Kn58 : St D0 → Option zq82.R) (v0 : List S41) (v1 : Int) (v2 : Int) (v3 : Int) (v4 : List S41) : runC zq82.C (zq82.O N) N zq82.c116 116 (mkSt [(1, .one (.ptr 1 0)), (16, .one (.sl false 41 v0)), (17, .one (.int .i64 v1)), (18, .one (.int .i64 v2))] [(1, some (24, [.int .i64 v3, .sl false 41 v4]))] : St D0) (zq82.K116 N Kn58) = zq82.d2 N v0 v1 v2 v3 v4 ((fun w0 w1 w2 w3 w4 => Kn58 (mkSt [(1, .one (.ptr 1 0)), (16, .one (.sl false 41 w0)), (17, .one (.int .i64 w1)), (18, .one (.int .i64 w2))] [(1, some (24, [.int .i64 w3, .sl false 41 w4]))] : St D0))) := by
  exact (zq82.o2.run N Kn58 v0 v1 v2 v3 v4).trans rfl
def zq82.K58 (N : Nat) : Ex → St D0 → Option zq82.R := (blockK 0 (onN (fun s => zq82.C.tidy 14 s (fun s' => runC zq82.C (zq82.O N) N zq82.c15 15 s' zq82.K0)) zq82.K0))
def zq82.l2 (N : Nat) : Nat → (List S41) → Int → Int → Int → (List S41) → Option zq82.R
  | 0, _, _, _, _, _ => none
  | n + 1, v0, v1, v2, v3, v4 => zq82.d2 N v0 v1 v2 v3 v4 ((fun w0 w1 w2 w3 w4 => zq82.l2 N n w0 w1 w2 w3 w4))
theorem zq82.loop58 (N : Nat) : ∀ n, (∀ (v0 : List S41) (v1 : Int) (v2 : Int) (v3 : Int) (v4 : List S41), iter (loopF zq82.C (zq82.O N) N zq82.c116 58) n (mkSt [(1, .one (.ptr 1 0)), (16, .one (.sl false 41 v0)), (17, .one (.int .i64 v1)), (18, .one (.int .i64 v2))] [(1, some (24, [.int .i64 v3, .sl false 41 v4]))] : St D0) (zq82.K58 N) = zq82.l2 N n v0 v1 v2 v3 v4)
  | 0 => (fun v0 v1 v2 v3 v4 => rfl)
  | n + 1 => (fun v0 v1 v2 v3 v4 => (zq82.d2.run N (fun s => iter (loopF zq82.C (zq82.O N) N zq82.c116 58) n s (zq82.K58 N)) v0 v1 v2 v3 v4).trans (show _ = zq82.d2 N v0 v1 v2 v3 v4 ((fun w0 w1 w2 w3 w4 => zq82.l2 N n w0 w1 w2 w3 w4)) from (congr rfl (funext fun w0 => funext fun w1 => funext fun w2 => funext fun w3 => funext fun w4 => (zq82.loop58 N n) w0 w1 w2 w3 w4))))
def zq82.K13 (N : Nat) : Ex → St D0 → Option zq82.R := (onN (fun s => zq82.C.tidy 6 s (fun s' => runC zq82.C (zq82.O N) N zq82.c7 7 s' zq82.K0)) zq82.K0)
def zq82.o1 (N : Nat) (v0 : Bool) (v1 : Int) (v2 : List S41) (c2 : (List S41) → Int → Int → Int → (List S41) → Option zq82.R) : Option zq82.R :=
 bif v0 then
  some (false)
 else
 c2 v2 (v2.length : Int) 0 v1 v2
theorem zq82.o1.run (N : Nat) (H116 : Code) (v0 : Bool) (v1 : Int) (v2 : List S41) : runC zq82.C (zq82.O N) N zq82.c13 13 (mkSt [(1, .one (.ptr 1 0)), (14, .one (.bool v0))] [(1, some (24, [.int .i64 v1, .sl false 41 v2]))] : St D0) (onN (fun s => zq82.C.tidy 6 s (fun s' => runC zq82.C (zq82.O N) N (.seq (.seq zq82.c28 (.block 0 (.loop H116))) zq82.c15) 7 s' zq82.K0)) zq82.K0) = zq82.o1 N v0 v1 v2 ((fun w0 w1 w2 w3 w4 => iter (loopF zq82.C (zq82.O N) N H116 58) N (mkSt [(1, .one (.ptr 1 0)), (16, .one (.sl false 41 w0)), (17, .one (.int .i64 w1)), (18, .one (.int .i64 w2))] [(1, some (24, [.int .i64 w3, .sl false 41 w4]))] : St D0) (blockK 0 (onN (fun s => zq82.C.tidy 14 s (fun s' => runC zq82.C (zq82.O N) N zq82.c15 15 s' zq82.K0)) zq82.K0)))) := by kernel_rfl
def zq82.d1 (N : Nat) (v0 : Bool) (v1 : Int) (v2 : List S41) : Option zq82.R := zq82.o1 N v0 v1 v2 ((fun w0 w1 w2 w3 w4 => zq82.l2 N N w0 w1 w2 w3 w4))
theorem zq82.d1.run (N : Nat) (v0 : Bool) (v1 : Int) (v2 : List S41) : runC zq82.C (zq82.O N) N zq82.c13 13 (mkSt [(1, .one (.ptr 1 0)), (14, .one (.bool v0))] [(1, some (24, [.int .i64 v1, .sl false 41 v2]))] : St D0) (zq82.K13 N) = zq82.d1 N v0 v1 v2 := by
  unfold zq82.d1; exact (zq82.o1.run N zq82.c116 v0 v1 v2).trans (congr rfl (funext fun w0 => funext fun w1 => funext fun w2 => funext fun w3 => funext fun w4 => (zq82.loop58 N N) w0 w1 w2 w3 w4))
def zq82.o0 (N : Nat) (a0_0 : Int) (a0_1 : List S41) (c1 : Bool → Int → (List S41) → Option zq82.R) : Option zq82.R :=
 (zq60.g N a0_0).bind fun r1 =>
 bif (!r1) then
  c1 true a0_0 a0_1
 else
 c1 (decide ((a0_1.length : Int) > 6)) a0_0 a0_1
theorem zq82.o0.run (N : Nat) (H13 : Code) (a0_0 : Int) (a0_1 : List S41) : runC zq82.C (zq82.O N) N (.seq zq82.c2 (.seq (.seq zq82.c12 H13) zq82.c7)) 1 (st0 [.agg [.int .i64 a0_0, .sl false 41 a0_1]] [] : St D0) zq82.K0 = zq82.o0 N a0_0 a0_1 ((fun w0 w1 w2 => runC zq82.C (zq82.O N) N H13 13 (mkSt [(1, .one (.ptr 1 0)), (14, .one (.bool w0))] [(1, some (24, [.int .i64 w1, .sl false 41 w2]))] : St D0) (onN (fun s => zq82.C.tidy 6 s (fun s' => runC zq82.C (zq82.O N) N zq82.c7 7 s' zq82.K0)) zq82.K0))) := by kernel_rfl
def zq82.g (N : Nat) (a0_0 : Int) (a0_1 : List S41) : Option zq82.R := zq82.o0 N a0_0 a0_1 ((fun w0 w1 w2 => zq82.d1 N w0 w1 w2))
theorem zq82.c1_0 : zq82.c1 = (.seq zq82.c2 (.seq (.seq zq82.c12 zq82.c13) zq82.c7)) := by kernel_rfl
theorem zq82.g.run (N : Nat) (a0_0 : Int) (a0_1 : List S41) : runC zq82.C (zq82.O N) N zq82.c1 1 (st0 [.agg [.int .i64 a0_0, .sl false 41 a0_1]] [] : St D0) zq82.K0 = zq82.g N a0_0 a0_1 := by
  rw [zq82.c1_0]; unfold zq82.g; exact (zq82.o0.run N zq82.c13 a0_0 a0_1).trans (congr rfl (funext fun w0 => funext fun w1 => funext fun w2 => zq82.d1.run N w0 w1 w2))
theorem zq82.good (N : Nat) (a0_0 : Int) (a0_1 : List S41) (r : zq82.R) (h : zq82.g N a0_0 a0_1 = some r) : Go.PM.Good Tryz.prog T0 39 [.agg [.int .i64 a0_0, .sl false 41 a0_1]] [] (zq82.sig.ret r) (zq82.sig.bs r) :=
  good_fn tabOk0 mixed0 zq82.sig (zq82.E N) Tryz.func39 (by kernel_rfl) (by kernel_rfl) 68108311 0 0 [(12, [1, 14], [1]), (58, [1, 16, 17, 18], [1])] 0 false [] [(false, [.any])] (by kernel_rfl) rfl rfl ((zq82.g.run N a0_0 a0_1).trans h)
def zq82.ent (N : Nat) : Ent Tryz.prog T0 := mkEnt 39 [(true, [.any, .ro 41])] zq82.sig (fun t => zq82.g N t.1 t.2) (fun t r h => zq82.good N t.1 t.2 r h)
/-! ### zq30 -/
abbrev zq30.R : Type := Int × Int × Int
abbrev zq30.sig : Sig := ⟨[(false, 1), (false, 1), (false, 1), (false, 1)], [], [.int .i64, .int .i64, .int .i64, .int .i64], [(true, 3)], [], [.int .i64, .int .i64, .int .i64]⟩
def zq30.C : Cfg D0 := ⟨Tryz.prog, T0, 19167355200617582351, 0, 75, 0, [(30, [8, 11], [8, 11])], 1994592908296195166208, false, []⟩
def zq30.E (N : Nat) : List (Ent Tryz.prog T0) := []
def zq30.O (N : Nat) : Orc D0 zq30.R := orcOf (zq30.E N)
def zq30.K0 : Ex → St D0 → Option zq30.R := exitK zq30.C Tryz.f79.results.toList [(true, [.any, .any, .any])] (decOut zq30.sig)
def zq30.c1 : Code := codeAt (Tryz.f79.body.getD .skip) []
def zq30.c2 : Code := codeAt (Tryz.f79.body.getD .skip) [false]
def zq30.c6 : Code := codeAt (Tryz.f79.body.getD .skip) [true, false]
def zq30.c14 : Code := codeAt (Tryz.f79.body.getD .skip) [true, true, false]
def zq30.c30 : Code := codeAt (Tryz.f79.body.getD .skip) [true, true, true, false]
def zq30.c31 : Code := codeAt (Tryz.f79.body.getD .skip) [true, true, true, true]
def zq30.K31 (N : Nat) : Ex → St D0 → Option zq30.R := zq30.K0
def zq30.o1 (N : Nat) (v0 : Int) (v1 : Int) (v2 : Int) (v3 : Int) (v4 : Int) (v5 : Int) : Option zq30.R :=
 some (v3, v4, v5)
theorem zq30.o1.run (N : Nat) (v0 : Int) (v1 : Int) (v2 : Int) (v3 : Int) (v4 : Int) (v5 : Int) : runC zq30.C (zq30.O N) N zq30.c31 31 (mkSt [(8, .one (.ptr 8 0)), (11, .one (.ptr 11 0))] [(8, some (41, [.int .i64 v0, .int .i64 v1, .int .i64 v2])), (11, some (41, [.int .i64 v3, .int .i64 v4, .int .i64 v5]))] : St D0) zq30.K0 = zq30.o1 N v0 v1 v2 v3 v4 v5 := by kernel_rfl
def zq30.d1 (N : Nat) (v0 : Int) (v1 : Int) (v2 : Int) (v3 : Int) (v4 : Int) (v5 : Int) : Option zq30.R := zq30.o1 N v0 v1 v2 v3 v4 v5
theorem zq30.d1.run (N : Nat) (v0 : Int) (v1 : Int) (v2 : Int) (v3 : Int) (v4 : Int) (v5 : Int) : runC zq30.C (zq30.O N) N zq30.c31 31 (mkSt [(8, .one (.ptr 8 0)), (11, .one (.ptr 11 0))] [(8, some (41, [.int .i64 v0, .int .i64 v1, .int .i64 v2])), (11, some (41, [.int .i64 v3, .int .i64 v4, .int .i64 v5]))] : St D0) (zq30.K31 N) = zq30.d1 N v0 v1 v2 v3 v4 v5 := by
  exact (zq30.o1.run N v0 v1 v2 v3 v4 v5).trans rfl
def zq30.o0 (N : Nat) (a0 : Int) (a1 : Int) (a2 : Int) (a3 : Int) (c1 : Int → Int → Int → Int → Int → Int → Option zq30.R) : Option zq30.R :=
 bif (a2 == 0) then
  c1 0 0 0 a2 (w64 (Int.tdiv a1 60)) 0
 else
 bif (a2 == 1) then
  bif (a3 == 0) then
   none
  else
  c1 0 0 0 a2 a3 (Int.tmod (Int.tmod a1 60) a3)
 else
 bif (a2 == 2) then
  c1 0 0 0 a2 (w64 ((w64 ((w64 ((w64 (Int.tdiv (w64 (Int.tdiv a1 60)) 10)) + (Int.tmod (w64 (Int.tdiv a1 60)) 10))) + (w64 (Int.tdiv (Int.tmod a1 60) 10)))) + (Int.tmod (Int.tmod a1 60) 10))) 0
 else
 bif (a2 == 3) then
  bif ((w64 (60 * a0)) == 0) then
   none
  else
  bif (decide ((w64 (2 * (Int.tmod (w64 (a1 * (w64 (a0 - 1)))) (w64 (60 * a0))))) < (w64 (60 * a0)))) then
   c1 0 0 0 a2 1 0
  else
  c1 0 0 0 a2 0 0
 else
 bif (a2 == 4) then
  c1 0 0 0 a2 (w64 ((w64 (Int.tdiv a1 60)) + 1)) 0
 else
 bif (a2 == 5) then
  c1 0 0 0 a2 (if (w64 ((Int.tmod a1 60) - (w64 (Int.tdiv a1 60)))) > (w64 ((w64 (Int.tdiv a1 60)) - (Int.tmod a1 60))) then (w64 ((Int.tmod a1 60) - (w64 (Int.tdiv a1 60)))) else (w64 ((w64 (Int.tdiv a1 60)) - (Int.tmod a1 60)))) 0
 else
 c1 0 0 0 a2 0 0
theorem zq30.o0.run (N : Nat) (H31 : Code) (a0 : Int) (a1 : Int) (a2 : Int) (a3 : Int) : runC zq30.C (zq30.O N) N (.seq zq30.c2 (.seq zq30.c6 (.seq zq30.c14 (.seq zq30.c30 H31)))) 1 (st0 [.one (.int .i64 a0), .one (.int .i64 a1), .one (.int .i64 a2), .one (.int .i64 a3)] [] : St D0) zq30.K0 = zq30.o0 N a0 a1 a2 a3 ((fun w0 w1 w2 w3 w4 w5 => runC zq30.C (zq30.O N) N H31 31 (mkSt [(8, .one (.ptr 8 0)), (11, .one (.ptr 11 0))] [(8, some (41, [.int .i64 w0, .int .i64 w1, .int .i64 w2])), (11, some (41, [.int .i64 w3, .int .i64 w4, .int .i64 w5]))] : St D0) zq30.K0)) := by kernel_rfl
def zq30.g (N : Nat) (a0 : Int) (a1 : Int) (a2 : Int) (a3 : Int) : Option zq30.R := zq30.o0 N a0 a1 a2 a3 ((fun w0 w1 w2 w3 w4 w5 => zq30.d1 N w0 w1 w2 w3 w4 w5))
theorem zq30.c1_0 : zq30.c1 = (.seq zq30.c2 (.seq zq30.c6 (.seq zq30.c14 (.seq zq30.c30 zq30.c31)))) := by kernel_rfl
theorem zq30.g.run (N : Nat) (a0 : Int) (a1 : Int) (a2 : Int) (a3 : Int) : runC zq30.C (zq30.O N) N zq30.c1 1 (st0 [.one (.int .i64 a0), .one (.int .i64 a1), .one (.int .i64 a2), .one (.int .i64 a3)] [] : St D0) zq30.K0 = zq30.g N a0 a1 a2 a3 := by
  rw [zq30.c1_0]; unfold zq30.g; exact (zq30.o0.run N zq30.c31 a0 a1 a2 a3).trans (congr rfl (funext fun w0 => funext fun w1 => funext fun w2 => funext fun w3 => funext fun w4 => funext fun w5 => zq30.d1.run N w0 w1 w2 w3 w4 w5))
theorem zq30.good (N : Nat) (a0 : Int) (a1 : Int) (a2 : Int) (a3 : Int) (r : zq30.R) (h : zq30.g N a0 a1 a2 a3 = some r) : Go.PM.Good Tryz.prog T0 79 [.one (.int .i64 a0), .one (.int .i64 a1), .one (.int .i64 a2), .one (.int .i64 a3)] [] (zq30.sig.ret r) (zq30.sig.bs r) :=
  good_fn tabOk0 mixed0 zq30.sig (zq30.E N) Tryz.func79 (by kernel_rfl) (by kernel_rfl) 19167355200617582351 0 0 [(30, [8, 11], [8, 11])] 1994592908296195166208 false [] [(true, [.any, .any, .any])] (by kernel_rfl) rfl rfl ((zq30.g.run N a0 a1 a2 a3).trans h)
def zq30.ent (N : Nat) : Ent Tryz.prog T0 := mkEnt 79 [(false, [.any]), (false, [.any]), (false, [.any]), (false, [.any])] zq30.sig (fun t => zq30.g N t.1 t.2.1 t.2.2.1 t.2.2.2) (fun t r h => zq30.good N t.1 t.2.1 t.2.2.1 t.2.2.2 r h)
/-! ### zq18 -/
abbrev zq18.R : Type := Bool
abbrev zq18.sig : Sig := ⟨[(false, 1), (false, 1), (true, 3)], [], [.int .i64, .int .i64, .int .i64, .int .i64, .int .i64], [(false, 1)], [], [.bool]⟩
def zq18.C : Cfg D0 := ⟨Tryz.prog, T0, 103, 0, 16, 0, [], 384, false, []⟩
def zq18.E (N : Nat) : List (Ent Tryz.prog T0) := [zq30.ent N]
def zq18.O (N : Nat) : Orc D0 zq18.R := orcOf (zq18.E N)
def zq18.K0 : Ex → St D0 → Option zq18.R := exitK zq18.C Tryz.f54.results.toList [(false, [.any])] (decOut zq18.sig)
def zq18.c1 : Code := codeAt (Tryz.f54.body.getD .skip) []
def zq18.o0 (N : Nat) (a0 : Int) (a1 : Int) (a2_0 : Int) (a2_1 : Int) (a2_2 : Int) : Option zq18.R :=
 (zq30.g N a0 a1 a2_0 a2_1).bind fun r1 =>
 some (((r1.1 == a2_0) && ((r1.2.1 == a2_1) && ((r1.2.2 == a2_2) && true))))
theorem zq18.o0.run (N : Nat) (a0 : Int) (a1 : Int) (a2_0 : Int) (a2_1 : Int) (a2_2 : Int) : runC zq18.C (zq18.O N) N zq18.c1 1 (st0 [.one (.int .i64 a0), .one (.int .i64 a1), .agg [.int .i64 a2_0, .int .i64 a2_1, .int .i64 a2_2]] [] : St D0) zq18.K0 = zq18.o0 N a0 a1 a2_0 a2_1 a2_2 := by kernel_rfl
def zq18.g (N : Nat) (a0 : Int) (a1 : Int) (a2_0 : Int) (a2_1 : Int) (a2_2 : Int) : Option zq18.R := zq18.o0 N a0 a1 a2_0 a2_1 a2_2
theorem zq18.g.run (N : Nat) (a0 : Int) (a1 : Int) (a2_0 : Int) (a2_1 : Int) (a2_2 : Int) : runC zq18.C (zq18.O N) N zq18.c1 1 (st0 [.one (.int .i64 a0), .one (.int .i64 a1), .agg [.int .i64 a2_0, .int .i64 a2_1, .int .i64 a2_2]] [] : St D0) zq18.K0 = zq18.g N a0 a1 a2_0 a2_1 a2_2 := by
  exact (zq18.o0.run N a0 a1 a2_0 a2_1 a2_2).trans rfl
theorem zq18.good (N : Nat) (a0 : Int) (a1 : Int) (a2_0 : Int) (a2_1 : Int) (a2_2 : Int) (r : zq18.R) (h : zq18.g N a0 a1 a2_0 a2_1 a2_2 = some r) : Go.PM.Good Tryz.prog T0 54 [.one (.int .i64 a0), .one (.int .i64 a1), .agg [.int .i64 a2_0, .int .i64 a2_1, .int .i64 a2_2]] [] (zq18.sig.ret r) (zq18.sig.bs r) :=
  good_fn tabOk0 mixed0 zq18.sig (zq18.E N) Tryz.func54 (by kernel_rfl) (by kernel_rfl) 103 0 0 [] 384 false [] [(false, [.any])] (by kernel_rfl) rfl rfl ((zq18.g.run N a0 a1 a2_0 a2_1 a2_2).trans h)
def zq18.ent (N : Nat) : Ent Tryz.prog T0 := mkEnt 54 [(false, [.any]), (false, [.any]), (true, [.any, .any, .any])] zq18.sig (fun t => zq18.g N t.1 t.2.1 t.2.2.1 t.2.2.2.1 t.2.2.2.2) (fun t r h => zq18.good N t.1 t.2.1 t.2.2.1 t.2.2.2.1 t.2.2.2.2 r h)
/-! ### zq22 -/
abbrev zq22.R : Type := Bool
abbrev zq22.sig : Sig := ⟨[(false, 1), (false, 1)], [], [.int .i64, .int .i64], [(false, 1)], [], [.bool]⟩
def zq22.C : Cfg D0 := ⟨Tryz.prog, T0, 19, 0, 14, 0, [], 800, false, []⟩
def zq22.E (N : Nat) : List (Ent Tryz.prog T0) := [zq21.ent N, zq31.ent N]
def zq22.O (N : Nat) : Orc D0 zq22.R := orcOf (zq22.E N)
def zq22.K0 : Ex → St D0 → Option zq22.R := exitK zq22.C Tryz.f53.results.toList [(false, [.any])] (decOut zq22.sig)
def zq22.c1 : Code := codeAt (Tryz.f53.body.getD .skip) []
def zq22.o0 (N : Nat) (a0 : Int) (a1 : Int) : Option zq22.R :=
 (zq21.g N a0).bind fun r1 =>
 bif r1 then
  (zq31.g N a1 0 (w64 ((w64 (60 * a0)) - 1))).bind fun r2 =>
  some (r2)
 else
 some (false)
theorem zq22.o0.run (N : Nat) (a0 : Int) (a1 : Int) : runC zq22.C (zq22.O N) N zq22.c1 1 (st0 [.one (.int .i64 a0), .one (.int .i64 a1)] [] : St D0) zq22.K0 = zq22.o0 N a0 a1 := by kernel_rfl
def zq22.g (N : Nat) (a0 : Int) (a1 : Int) : Option zq22.R := zq22.o0 N a0 a1
theorem zq22.g.run (N : Nat) (a0 : Int) (a1 : Int) : runC zq22.C (zq22.O N) N zq22.c1 1 (st0 [.one (.int .i64 a0), .one (.int .i64 a1)] [] : St D0) zq22.K0 = zq22.g N a0 a1 := by
  exact (zq22.o0.run N a0 a1).trans rfl
theorem zq22.good (N : Nat) (a0 : Int) (a1 : Int) (r : zq22.R) (h : zq22.g N a0 a1 = some r) : Go.PM.Good Tryz.prog T0 53 [.one (.int .i64 a0), .one (.int .i64 a1)] [] (zq22.sig.ret r) (zq22.sig.bs r) :=
  good_fn tabOk0 mixed0 zq22.sig (zq22.E N) Tryz.func53 (by kernel_rfl) (by kernel_rfl) 19 0 0 [] 800 false [] [(false, [.any])] (by kernel_rfl) rfl rfl ((zq22.g.run N a0 a1).trans h)
def zq22.ent (N : Nat) : Ent Tryz.prog T0 := mkEnt 53 [(false, [.any]), (false, [.any])] zq22.sig (fun t => zq22.g N t.1 t.2) (fun t r h => zq22.good N t.1 t.2 r h)
/-! ### zq6 -/
abbrev zq6.R : Type := Bool
abbrev zq6.sig : Sig := ⟨[(false, 1), (true, 3)], [], [.int .i64, .int .i64, .int .i64, .int .i64], [(false, 1)], [], [.bool]⟩
def zq6.C : Cfg D0 := ⟨Tryz.prog, T0, 73219777964408859, 0, 61, 0, [(12, [0, 3, 17], [3])], 18014398526259232, false, []⟩
def zq6.E (N : Nat) : List (Ent Tryz.prog T0) := [zq21.ent N, zq31.ent N]
def zq6.O (N : Nat) : Orc D0 zq6.R := orcOf (zq6.E N)
def zq6.K0 : Ex → St D0 → Option zq6.R := exitK zq6.C Tryz.f52.results.toList [(false, [.any])] (decOut zq6.sig)
def zq6.c1 : Code := codeAt (Tryz.f52.body.getD .skip) []
def zq6.c2 : Code := codeAt (Tryz.f52.body.getD .skip) [false]
def zq6.c7 : Code := codeAt (Tryz.f52.body.getD .skip) [true, true]
def zq6.c12 : Code := codeAt (Tryz.f52.body.getD .skip) [true, false, false]
def zq6.c13 : Code := codeAt (Tryz.f52.body.getD .skip) [true, false, true]
def zq6.K13 (N : Nat) : Ex → St D0 → Option zq6.R := (onN (fun s => zq6.C.tidy 6 s (fun s' => runC zq6.C (zq6.O N) N zq6.c7 7 s' zq6.K0)) zq6.K0)
def zq6.o1 (N : Nat) (v0 : Int) (v1 : Bool) (v2 : Int) (v3 : Int) (v4 : Int) : Option zq6.R :=
 bif v1 then
  some (false)
 else
 bif (v2 == 0) then
  (zq31.g N v3 0 (w64 (v0 - 1))).bind fun r1 =>
  some (r1)
 else
 bif (v2 == 1) then
  (zq31.g N v3 2 60).bind fun r2 =>
  bif r2 then
   (zq31.g N v4 0 (w64 (v3 - 1))).bind fun r3 =>
   some (r3)
  else
  some (false)
 else
 bif (v2 == 2) then
  (zq31.g N v3 0 30).bind fun r4 =>
  some (r4)
 else
 bif (v2 == 3) then
  (zq31.g N v3 0 1).bind fun r5 =>
  some (r5)
 else
 bif (v2 == 4) then
  (zq31.g N v3 1 v0).bind fun r6 =>
  some (r6)
 else
 bif (v2 == 5) then
  (zq31.g N v3 0 59).bind fun r7 =>
  some (r7)
 else
 some (false)
theorem zq6.o1.run (N : Nat) (v0 : Int) (v1 : Bool) (v2 : Int) (v3 : Int) (v4 : Int) : runC zq6.C (zq6.O N) N zq6.c13 13 (mkSt [(0, .one (.int .i64 v0)), (3, .one (.ptr 3 0)), (17, .one (.bool v1))] [(3, some (41, [.int .i64 v2, .int .i64 v3, .int .i64 v4]))] : St D0) (onN (fun s => zq6.C.tidy 6 s (fun s' => runC zq6.C (zq6.O N) N zq6.c7 7 s' zq6.K0)) zq6.K0) = zq6.o1 N v0 v1 v2 v3 v4 := by kernel_rfl
def zq6.d1 (N : Nat) (v0 : Int) (v1 : Bool) (v2 : Int) (v3 : Int) (v4 : Int) : Option zq6.R := zq6.o1 N v0 v1 v2 v3 v4
theorem zq6.d1.run (N : Nat) (v0 : Int) (v1 : Bool) (v2 : Int) (v3 : Int) (v4 : Int) : runC zq6.C (zq6.O N) N zq6.c13 13 (mkSt [(0, .one (.int .i64 v0)), (3, .one (.ptr 3 0)), (17, .one (.bool v1))] [(3, some (41, [.int .i64 v2, .int .i64 v3, .int .i64 v4]))] : St D0) (zq6.K13 N) = zq6.d1 N v0 v1 v2 v3 v4 := by
  exact (zq6.o1.run N v0 v1 v2 v3 v4).trans rfl
def zq6.o0 (N : Nat) (a0 : Int) (a1_0 : Int) (a1_1 : Int) (a1_2 : Int) (c1 : Int → Bool → Int → Int → Int → Option zq6.R) : Option zq6.R :=
 (zq21.g N a0).bind fun r1 =>
 bif (!r1) then
  c1 a0 true a1_0 a1_1 a1_2
 else
 bif (a1_0 != 1) then
  c1 a0 (a1_2 != 0) a1_0 a1_1 a1_2
 else
 c1 a0 false a1_0 a1_1 a1_2
theorem zq6.o0.run (N : Nat) (H13 : Code) (a0 : Int) (a1_0 : Int) (a1_1 : Int) (a1_2 : Int) : runC zq6.C (zq6.O N) N (.seq zq6.c2 (.seq (.seq zq6.c12 H13) zq6.c7)) 1 (st0 [.one (.int .i64 a0), .agg [.int .i64 a1_0, .int .i64 a1_1, .int .i64 a1_2]] [] : St D0) zq6.K0 = zq6.o0 N a0 a1_0 a1_1 a1_2 ((fun w0 w1 w2 w3 w4 => runC zq6.C (zq6.O N) N H13 13 (mkSt [(0, .one (.int .i64 w0)), (3, .one (.ptr 3 0)), (17, .one (.bool w1))] [(3, some (41, [.int .i64 w2, .int .i64 w3, .int .i64 w4]))] : St D0) (onN (fun s => zq6.C.tidy 6 s (fun s' => runC zq6.C (zq6.O N) N zq6.c7 7 s' zq6.K0)) zq6.K0))) := by kernel_rfl
def zq6.g (N : Nat) (a0 : Int) (a1_0 : Int) (a1_1 : Int) (a1_2 : Int) : Option zq6.R := zq6.o0 N a0 a1_0 a1_1 a1_2 ((fun w0 w1 w2 w3 w4 => zq6.d1 N w0 w1 w2 w3 w4))
theorem zq6.c1_0 : zq6.c1 = (.seq zq6.c2 (.seq (.seq zq6.c12 zq6.c13) zq6.c7)) := by kernel_rfl
theorem zq6.g.run (N : Nat) (a0 : Int) (a1_0 : Int) (a1_1 : Int) (a1_2 : Int) : runC zq6.C (zq6.O N) N zq6.c1 1 (st0 [.one (.int .i64 a0), .agg [.int .i64 a1_0, .int .i64 a1_1, .int .i64 a1_2]] [] : St D0) zq6.K0 = zq6.g N a0 a1_0 a1_1 a1_2 := by
  rw [zq6.c1_0]; unfold zq6.g; exact (zq6.o0.run N zq6.c13 a0 a1_0 a1_1 a1_2).trans (congr rfl (funext fun w0 => funext fun w1 => funext fun w2 => funext fun w3 => funext fun w4 => zq6.d1.run N w0 w1 w2 w3 w4))
theorem zq6.good (N : Nat) (a0 : Int) (a1_0 : Int) (a1_1 : Int) (a1_2 : Int) (r : zq6.R) (h : zq6.g N a0 a1_0 a1_1 a1_2 = some r) : Go.PM.Good Tryz.prog T0 52 [.one (.int .i64 a0), .agg [.int .i64 a1_0, .int .i64 a1_1, .int .i64 a1_2]] [] (zq6.sig.ret r) (zq6.sig.bs r) :=
  good_fn tabOk0 mixed0 zq6.sig (zq6.E N) Tryz.func52 (by kernel_rfl) (by kernel_rfl) 73219777964408859 0 0 [(12, [0, 3, 17], [3])] 18014398526259232 false [] [(false, [.any])] (by kernel_rfl) rfl rfl ((zq6.g.run N a0 a1_0 a1_1 a1_2).trans h)
def zq6.ent (N : Nat) : Ent Tryz.prog T0 := mkEnt 52 [(false, [.any]), (true, [.any, .any, .any])] zq6.sig (fun t => zq6.g N t.1 t.2.1 t.2.2.1 t.2.2.2) (fun t r h => zq6.good N t.1 t.2.1 t.2.2.1 t.2.2.2 r h)
/-! ### zq2 -/
abbrev zq2.R : Type := Bool × Bool
abbrev zq2.sig : Sig := ⟨[(false, 1), (true, 3), (false, 1)], [], [.int .i64, .int .i64, .int .i64, .int .i64, .int .i64], [(false, 1), (false, 1)], [], [.bool, .bool]⟩
def zq2.C : Cfg D0 := ⟨Tryz.prog, T0, 131287, 0, 22, 0, [(12, [0, 2, 4, 17], [4])], 811264, false, []⟩
def zq2.E (N : Nat) : List (Ent Tryz.prog T0) := [zq6.ent N, zq22.ent N, zq18.ent N]
def zq2.O (N : Nat) : Orc D0 zq2.R := orcOf (zq2.E N)
def zq2.K0 : Ex → St D0 → Option zq2.R := exitK zq2.C Tryz.f27.results.toList [(false, [.any]), (false, [.any])] (decOut zq2.sig)
def zq2.c1 : Code := codeAt (Tryz.f27.body.getD .skip) []
def zq2.c2 : Code := codeAt (Tryz.f27.body.getD .skip) [false]
def zq2.c7 : Code := codeAt (Tryz.f27.body.getD .skip) [true, true]
def zq2.c12 : Code := codeAt (Tryz.f27.body.getD .skip) [true, false, false]
def zq2.c13 : Code := codeAt (Tryz.f27.body.getD .skip) [true, false, true]
def zq2.K13 (N : Nat) : Ex → St D0 → Option zq2.R := (onN (fun s => zq2.C.tidy 6 s (fun s' => runC zq2.C (zq2.O N) N zq2.c7 7 s' zq2.K0)) zq2.K0)
def zq2.o1 (N : Nat) (v0 : Int) (v1 : Int) (v2 : Bool) (v3 : Int) (v4 : Int) (v5 : Int) : Option zq2.R :=
 bif v2 then
  some (false, false)
 else
 (zq18.g N v0 v1 v3 v4 v5).bind fun r1 =>
 some (r1, true)
theorem zq2.o1.run (N : Nat) (v0 : Int) (v1 : Int) (v2 : Bool) (v3 : Int) (v4 : Int) (v5 : Int) : runC zq2.C (zq2.O N) N zq2.c13 13 (mkSt [(0, .one (.int .i64 v0)), (2, .one (.int .i64 v1)), (4, .one (.ptr 4 0)), (17, .one (.bool v2))] [(4, some (41, [.int .i64 v3, .int .i64 v4, .int .i64 v5]))] : St D0) (onN (fun s => zq2.C.tidy 6 s (fun s' => runC zq2.C (zq2.O N) N zq2.c7 7 s' zq2.K0)) zq2.K0) = zq2.o1 N v0 v1 v2 v3 v4 v5 := by kernel_rfl
def zq2.d1 (N : Nat) (v0 : Int) (v1 : Int) (v2 : Bool) (v3 : Int) (v4 : Int) (v5 : Int) : Option zq2.R := zq2.o1 N v0 v1 v2 v3 v4 v5
theorem zq2.d1.run (N : Nat) (v0 : Int) (v1 : Int) (v2 : Bool) (v3 : Int) (v4 : Int) (v5 : Int) : runC zq2.C (zq2.O N) N zq2.c13 13 (mkSt [(0, .one (.int .i64 v0)), (2, .one (.int .i64 v1)), (4, .one (.ptr 4 0)), (17, .one (.bool v2))] [(4, some (41, [.int .i64 v3, .int .i64 v4, .int .i64 v5]))] : St D0) (zq2.K13 N) = zq2.d1 N v0 v1 v2 v3 v4 v5 := by
  exact (zq2.o1.run N v0 v1 v2 v3 v4 v5).trans rfl
def zq2.o0 (N : Nat) (a0 : Int) (a1_0 : Int) (a1_1 : Int) (a1_2 : Int) (a2 : Int) (c1 : Int → Int → Bool → Int → Int → Int → Option zq2.R) : Option zq2.R :=
 (zq6.g N a0 a1_0 a1_1 a1_2).bind fun r1 =>
 bif (!r1) then
  c1 a0 a2 true a1_0 a1_1 a1_2
 else
 (zq22.g N a0 a2).bind fun r2 =>
 c1 a0 a2 (!r2) a1_0 a1_1 a1_2
theorem zq2.o0.run (N : Nat) (H13 : Code) (a0 : Int) (a1_0 : Int) (a1_1 : Int) (a1_2 : Int) (a2 : Int) : runC zq2.C (zq2.O N) N (.seq zq2.c2 (.seq (.seq zq2.c12 H13) zq2.c7)) 1 (st0 [.one (.int .i64 a0), .agg [.int .i64 a1_0, .int .i64 a1_1, .int .i64 a1_2], .one (.int .i64 a2)] [] : St D0) zq2.K0 = zq2.o0 N a0 a1_0 a1_1 a1_2 a2 ((fun w0 w1 w2 w3 w4 w5 => runC zq2.C (zq2.O N) N H13 13 (mkSt [(0, .one (.int .i64 w0)), (2, .one (.int .i64 w1)), (4, .one (.ptr 4 0)), (17, .one (.bool w2))] [(4, some (41, [.int .i64 w3, .int .i64 w4, .int .i64 w5]))] : St D0) (onN (fun s => zq2.C.tidy 6 s (fun s' => runC zq2.C (zq2.O N) N zq2.c7 7 s' zq2.K0)) zq2.K0))) := by kernel_rfl
def zq2.g (N : Nat) (a0 : Int) (a1_0 : Int) (a1_1 : Int) (a1_2 : Int) (a2 : Int) : Option zq2.R := zq2.o0 N a0 a1_0 a1_1 a1_2 a2 ((fun w0 w1 w2 w3 w4 w5 => zq2.d1 N w0 w1 w2 w3 w4 w5))
theorem zq2.c1_0 : zq2.c1 = (.seq zq2.c2 (.seq (.seq zq2.c12 zq2.c13) zq2.c7)) := by kernel_rfl
theorem zq2.g.run (N : Nat) (a0 : Int) (a1_0 : Int) (a1_1 : Int) (a1_2 : Int) (a2 : Int) : runC zq2.C (zq2.O N) N zq2.c1 1 (st0 [.one (.int .i64 a0), .agg [.int .i64 a1_0, .int .i64 a1_1, .int .i64 a1_2], .one (.int .i64 a2)] [] : St D0) zq2.K0 = zq2.g N a0 a1_0 a1_1 a1_2 a2 := by
  rw [zq2.c1_0]; unfold zq2.g; exact (zq2.o0.run N zq2.c13 a0 a1_0 a1_1 a1_2 a2).trans (congr rfl (funext fun w0 => funext fun w1 => funext fun w2 => funext fun w3 => funext fun w4 => funext fun w5 => zq2.d1.run N w0 w1 w2 w3 w4 w5))
theorem zq2.good (N : Nat) (a0 : Int) (a1_0 : Int) (a1_1 : Int) (a1_2 : Int) (a2 : Int) (r : zq2.R) (h : zq2.g N a0 a1_0 a1_1 a1_2 a2 = some r) : Go.PM.Good Tryz.prog T0 27 [.one (.int .i64 a0), .agg [.int .i64 a1_0, .int .i64 a1_1, .int .i64 a1_2], .one (.int .i64 a2)] [] (zq2.sig.ret r) (zq2.sig.bs r) :=
  good_fn tabOk0 mixed0 zq2.sig (zq2.E N) Tryz.func27 (by kernel_rfl) (by kernel_rfl) 131287 0 0 [(12, [0, 2, 4, 17], [4])] 811264 false [] [(false, [.any]), (false, [.any])] (by kernel_rfl) rfl rfl ((zq2.g.run N a0 a1_0 a1_1 a1_2 a2).trans h)
def zq2.ent (N : Nat) : Ent Tryz.prog T0 := mkEnt 27 [(false, [.any]), (true, [.any, .any, .any]), (false, [.any])] zq2.sig (fun t => zq2.g N t.1 t.2.1 t.2.2.1 t.2.2.2.1 t.2.2.2.2) (fun t r h => zq2.good N t.1 t.2.1 t.2.2.1 t.2.2.2.1 t.2.2.2.2 r h)
/-! ### zq8 -/
abbrev zq8.R : Type := Bool × Int × List S41
abbrev zq8.sig : Sig := ⟨[(true, 3), (false, 1)], [(24, 2)], [.int .i64, .int .i64, .int .i64, .ptr 0 0, .int .i64, .sl false 41], [(false, 1)], [(24, 2)], [.bool, .int .i64, .sl false 41]⟩
def zq8.C : Cfg D0 := ⟨Tryz.prog, T0, 15, 0, 9, 1, [], 0, false, []⟩
def zq8.E (N : Nat) : List (Ent Tryz.prog T0) := [zq6.ent N]
def zq8.O (N : Nat) : Orc D0 zq8.R := orcOf (zq8.E N)
def zq8.K0 : Ex → St D0 → Option zq8.R := exitK zq8.C Tryz.f51.results.toList [(false, [.any])] (decOut zq8.sig)
def zq8.c1 : Code := codeAt (Tryz.f51.body.getD .skip) []
def zq8.o0 (N : Nat) (a0_0 : Int) (a0_1 : Int) (a0_2 : Int) (b0_0 : Int) (b0_1 : List S41) : Option zq8.R :=
 (zq6.g N b0_0 a0_0 a0_1 a0_2).bind fun r1 =>
 some ((!r1), b0_0, b0_1)
theorem zq8.o0.run (N : Nat) (a0_0 : Int) (a0_1 : Int) (a0_2 : Int) (b0_0 : Int) (b0_1 : List S41) : runC zq8.C (zq8.O N) N zq8.c1 1 (st0 [.agg [.int .i64 a0_0, .int .i64 a0_1, .int .i64 a0_2], .one (.ptr 0 0)] [(24, [.int .i64 b0_0, .sl false 41 b0_1])] : St D0) zq8.K0 = zq8.o0 N a0_0 a0_1 a0_2 b0_0 b0_1 := by kernel_rfl
def zq8.g (N : Nat) (a0_0 : Int) (a0_1 : Int) (a0_2 : Int) (b0_0 : Int) (b0_1 : List S41) : Option zq8.R := zq8.o0 N a0_0 a0_1 a0_2 b0_0 b0_1
theorem zq8.g.run (N : Nat) (a0_0 : Int) (a0_1 : Int) (a0_2 : Int) (b0_0 : Int) (b0_1 : List S41) : runC zq8.C (zq8.O N) N zq8.c1 1 (st0 [.agg [.int .i64 a0_0, .int .i64 a0_1, .int .i64 a0_2], .one (.ptr 0 0)] [(24, [.int .i64 b0_0, .sl false 41 b0_1])] : St D0) zq8.K0 = zq8.g N a0_0 a0_1 a0_2 b0_0 b0_1 := by
  exact (zq8.o0.run N a0_0 a0_1 a0_2 b0_0 b0_1).trans rfl
theorem zq8.good (N : Nat) (a0_0 : Int) (a0_1 : Int) (a0_2 : Int) (b0_0 : Int) (b0_1 : List S41) (r : zq8.R) (h : zq8.g N a0_0 a0_1 a0_2 b0_0 b0_1 = some r) : Go.PM.Good Tryz.prog T0 51 [.agg [.int .i64 a0_0, .int .i64 a0_1, .int .i64 a0_2], .one (.ptr 0 0)] [(24, [.int .i64 b0_0, .sl false 41 b0_1])] (zq8.sig.ret r) (zq8.sig.bs r) :=
  good_fn tabOk0 mixed0 zq8.sig (zq8.E N) Tryz.func51 (by kernel_rfl) (by kernel_rfl) 15 0 1 [] 0 false [] [(false, [.any])] (by kernel_rfl) rfl rfl ((zq8.g.run N a0_0 a0_1 a0_2 b0_0 b0_1).trans h)
def zq8.ent (N : Nat) : Ent Tryz.prog T0 := mkEnt 51 [(true, [.any, .any, .any]), (false, [.any])] zq8.sig (fun t => zq8.g N t.1 t.2.1 t.2.2.1 t.2.2.2.2.1 t.2.2.2.2.2) (fun t r h => zq8.good N t.1 t.2.1 t.2.2.1 t.2.2.2.2.1 t.2.2.2.2.2 r h)
/-! ### zq43 -/
abbrev zq43.R : Type := Int × Int × List S41
abbrev zq43.sig : Sig := ⟨[(false, 1), (false, 1)], [(24, 2)], [.sl false 41, .fn 51 [0], .int .i64, .sl false 41], [(false, 1)], [(24, 2)], [.int .i64, .int .i64, .sl false 41]⟩
def zq43.C : Cfg D0 := ⟨Tryz.prog, T0, 66483, 0, 19, 1, [(26, [0, 1, 7, 8], [0])], 14400, false, []⟩
def zq43.E (N : Nat) : List (Ent Tryz.prog T0) := [zq8.ent N]
def zq43.O (N : Nat) : Orc D0 zq43.R := orcOf (zq43.E N)
def zq43.K0 : Ex → St D0 → Option zq43.R := exitK zq43.C Tryz.f78.results.toList [(false, [.any])] (decOut zq43.sig)
def zq43.c1 : Code := codeAt (Tryz.f78.body.getD .skip) []
def zq43.c2 : Code := codeAt (Tryz.f78.body.getD .skip) [false]
def zq43.c7 : Code := codeAt (Tryz.f78.body.getD .skip) [true, true]
def zq43.c12 : Code := codeAt (Tryz.f78.body.getD .skip) [true, false, false]
def zq43.c52 : Code := codeAt (Tryz.f78.body.getD .skip) [true, false, true, false, false]
def zq43.K52 (N : Nat) (Kn26 : St D0 → Option zq43.R) : Ex → St D0 → Option zq43.R := ((fun up => (onN (fun s => zq43.C.tidy 26 s ((onN Kn26 up) .normal)) (onN Kn26 up))) (blockK 0 (onN (fun s => zq43.C.tidy 6 s (fun s' => runC zq43.C (zq43.O N) N zq43.c7 7 s' zq43.K0)) zq43.K0)))
def zq43.o1 (N : Nat) (v0 : List S41) (v1 : Int) (v2 : Int) (v3 : Int) (v4 : List S41) (c1 : (List S41) → Int → Int → Int → (List S41) → Option zq43.R) : Option zq43.R :=
 bif (decide (v2 < v1)) then
  bif (decide (0 ≤ v2)) then
   bif (decide (v2 < (v0.length : Int))) then
    (v0[(v2 : Int).toNat]?).bind fun x1 =>
    (zq8.g N x1.f0 x1.f1 x1.f2 v3 v4).bind fun r2 =>
    bif r2.1 then
     some (v2, r2.2.1, r2.2.2)
    else
    c1 v0 v1 (w64 (v2 + 1)) r2.2.1 r2.2.2
   else
   none
  else
  none
 else
 some ((-1), v3, v4)
theorem zq43.o1.run (N : Nat) (Kn26 : St D0 → Option zq43.R) (v0 : List S41) (v1 : Int) (v2 : Int) (v3 : Int) (v4 : List S41) : runC zq43.C (zq43.O N) N zq43.c52 52 (mkSt [(0, .one (.sl false 41 v0)), (1, .one (.fn 51 [0])), (7, .one (.int .i64 v1)), (8, .one (.int .i64 v2))] [(0, some (24, [.int .i64 v3, .sl false 41 v4]))] : St D0) ((fun up => (onN (fun s => zq43.C.tidy 26 s ((onN Kn26 up) .normal)) (onN Kn26 up))) (blockK 0 (onN (fun s => zq43.C.tidy 6 s (fun s' => runC zq43.C (zq43.O N) N zq43.c7 7 s' zq43.K0)) zq43.K0))) = zq43.o1 N v0 v1 v2 v3 v4 ((fun w0 w1 w2 w3 w4 => Kn26 (mkSt [(0, .one (.sl false 41 w0)), (1, .one (.fn 51 [0])), (7, .one (.int .i64 w1)), (8, .one (.int .i64 w2))] [(0, some (24, [.int .i64 w3, .sl false 41 w4]))] : St D0))) := by kernel_rfl
def zq43.d1 (N : Nat) (v0 : List S41) (v1 : Int) (v2 : Int) (v3 : Int) (v4 : List S41) (c1 : (List S41) → Int → Int → Int → (List S41) → Option zq43.R) : Option zq43.R := zq43.o1 N v0 v1 v2 v3 v4 c1
theorem zq43.d1.run (N : Nat) (Kn26 : St D0 → Option zq43.R) (v0 : List S41) (v1 : Int) (v2 : Int) (v3 : Int) (v4 : List S41) : runC zq43.C (zq43.O N) N zq43.c52 52 (mkSt [(0, .one (.sl false 41 v0)), (1, .one (.fn 51 [0])), (7, .one (.int .i64 v1)), (8, .one (.int .i64 v2))] [(0, some (24, [.int .i64 v3, .sl false 41 v4]))] : St D0) (zq43.K52 N Kn26) = zq43.d1 N v0 v1 v2 v3 v4 ((fun w0 w1 w2 w3 w4 => Kn26 (mkSt [(0, .one (.sl false 41 w0)), (1, .one (.fn 51 [0])), (7, .one (.int .i64 w1)), (8, .one (.int .i64 w2))] [(0, some (24, [.int .i64 w3, .sl false 41 w4]))] : St D0))) := by
  exact (zq43.o1.run N Kn26 v0 v1 v2 v3 v4).trans rfl
def zq43.K26 (N : Nat) : Ex → St D0 → Option zq43.R := (blockK 0 (onN (fun s => zq43.C.tidy 6 s (fun s' => runC zq43.C (zq43.O N) N zq43.c7 7 s' zq43.K0)) zq43.K0))
def zq43.l1 (N : Nat) : Nat → (List S41) → Int → Int → Int → (List S41) → Option zq43.R
  | 0, _, _, _, _, _ => none
  | n + 1, v0, v1, v2, v3, v4 => zq43.d1 N v0 v1 v2 v3 v4 ((fun w0 w1 w2 w3 w4 => zq43.l1 N n w0 w1 w2 w3 w4))
theorem zq43.loop26 (N : Nat) : ∀ n, (∀ (v0 : List S41) (v1 : Int) (v2 : Int) (v3 : Int) (v4 : List S41), iter (loopF zq43.C (zq43.O N) N zq43.c52 26) n (mkSt [(0, .one (.sl false 41 v0)), (1, .one (.fn 51 [0])), (7, .one (.int .i64 v1)), (8, .one (.int .i64 v2))] [(0, some (24, [.int .i64 v3, .sl false 41 v4]))] : St D0) (zq43.K26 N) = zq43.l1 N n v0 v1 v2 v3 v4)
  | 0 => (fun v0 v1 v2 v3 v4 => rfl)
  | n + 1 => (fun v0 v1 v2 v3 v4 => (zq43.d1.run N (fun s => iter (loopF zq43.C (zq43.O N) N zq43.c52 26) n s (zq43.K26 N)) v0 v1 v2 v3 v4).trans (show _ = zq43.d1 N v0 v1 v2 v3 v4 ((fun w0 w1 w2 w3 w4 => zq43.l1 N n w0 w1 w2 w3 w4)) from (congr rfl (funext fun w0 => funext fun w1 => funext fun w2 => funext fun w3 => funext fun w4 => (zq43.loop26 N n) w0 w1 w2 w3 w4))))
def zq43.o0 (N : Nat) (a0 : List S41) (b0_0 : Int) (b0_1 : List S41) (c1 : (List S41) → Int → Int → Int → (List S41) → Option zq43.R) : Option zq43.R :=
 c1 a0 (a0.length : Int) 0 b0_0 b0_1
theorem zq43.o0.run (N : Nat) (H52 : Code) (a0 : List S41) (b0_0 : Int) (b0_1 : List S41) : runC zq43.C (zq43.O N) N (.seq zq43.c2 (.seq (.seq zq43.c12 (.block 0 (.loop H52))) zq43.c7)) 1 (st0 [.one (.sl false 41 a0), .one (.fn 51 [0])] [(24, [.int .i64 b0_0, .sl false 41 b0_1])] : St D0) zq43.K0 = zq43.o0 N a0 b0_0 b0_1 ((fun w0 w1 w2 w3 w4 => iter (loopF zq43.C (zq43.O N) N H52 26) N (mkSt [(0, .one (.sl false 41 w0)), (1, .one (.fn 51 [0])), (7, .one (.int .i64 w1)), (8, .one (.int .i64 w2))] [(0, some (24, [.int .i64 w3, .sl false 41 w4]))] : St D0) (blockK 0 (onN (fun s => zq43.C.tidy 6 s (fun s' => runC zq43.C (zq43.O N) N zq43.c7 7 s' zq43.K0)) zq43.K0)))) := by kernel_rfl
def zq43.g (N : Nat) (a0 : List S41) (b0_0 : Int) (b0_1 : List S41) : Option zq43.R := zq43.o0 N a0 b0_0 b0_1 ((fun w0 w1 w2 w3 w4 => zq43.l1 N N w0 w1 w2 w3 w4))
theorem zq43.c1_0 : zq43.c1 = (.seq zq43.c2 (.seq (.seq zq43.c12 (.block 0 (.loop zq43.c52))) zq43.c7)) := by kernel_rfl
theorem zq43.g.run (N : Nat) (a0 : List S41) (b0_0 : Int) (b0_1 : List S41) : runC zq43.C (zq43.O N) N zq43.c1 1 (st0 [.one (.sl false 41 a0), .one (.fn 51 [0])] [(24, [.int .i64 b0_0, .sl false 41 b0_1])] : St D0) zq43.K0 = zq43.g N a0 b0_0 b0_1 := by
  rw [zq43.c1_0]; unfold zq43.g; exact (zq43.o0.run N zq43.c52 a0 b0_0 b0_1).trans (congr rfl (funext fun w0 => funext fun w1 => funext fun w2 => funext fun w3 => funext fun w4 => (zq43.loop26 N N) w0 w1 w2 w3 w4))
theorem zq43.good (N : Nat) (a0 : List S41) (b0_0 : Int) (b0_1 : List S41) (r : zq43.R) (h : zq43.g N a0 b0_0 b0_1 = some r) : Go.PM.Good Tryz.prog T0 78 [.one (.sl false 41 a0), .one (.fn 51 [0])] [(24, [.int .i64 b0_0, .sl false 41 b0_1])] (zq43.sig.ret r) (zq43.sig.bs r) :=
  good_fn tabOk0 mixed0 zq43.sig (zq43.E N) Tryz.func78 (by kernel_rfl) (by kernel_rfl) 66483 0 1 [(26, [0, 1, 7, 8], [0])] 14400 false [] [(false, [.any])] (by kernel_rfl) rfl rfl ((zq43.g.run N a0 b0_0 b0_1).trans h)
def zq43.ent (N : Nat) : Ent Tryz.prog T0 := mkEnt 78 [(false, [.ro 41]), (false, [.any])] zq43.sig (fun t => zq43.g N t.1 t.2.2.1 t.2.2.2) (fun t r h => zq43.good N t.1 t.2.2.1 t.2.2.2 r h)
/-! ### zq41 -/
abbrev zq41.R : Type := Bool × Int × List S41
abbrev zq41.sig : Sig := ⟨[(false, 1), (false, 1)], [(24, 2)], [.sl false 41, .fn 51 [0], .int .i64, .sl false 41], [(false, 1)], [(24, 2)], [.bool, .int .i64, .sl false 41]⟩
def zq41.C : Cfg D0 := ⟨Tryz.prog, T0, 19, 0, 9, 1, [], 96, false, []⟩
def zq41.E (N : Nat) : List (Ent Tryz.prog T0) := [zq43.ent N]
def zq41.O (N : Nat) : Orc D0 zq41.R := orcOf (zq41.E N)
def zq41.K0 : Ex → St D0 → Option zq41.R := exitK zq41.C Tryz.f50.results.toList [(false, [.any])] (decOut zq41.sig)
def zq41.c1 : Code := codeAt (Tryz.f50.body.getD .skip) []
def zq41.o0 (N : Nat) (a0 : List S41) (b0_0 : Int) (b0_1 : List S41) : Option zq41.R :=
 (zq43.g N a0 b0_0 b0_1).bind fun r1 =>
 some ((decide (r1.1 ≥ 0)), r1.2.1, r1.2.2)
theorem zq41.o0.run (N : Nat) (a0 : List S41) (b0_0 : Int) (b0_1 : List S41) : runC zq41.C (zq41.O N) N zq41.c1 1 (st0 [.one (.sl false 41 a0), .one (.fn 51 [0])] [(24, [.int .i64 b0_0, .sl false 41 b0_1])] : St D0) zq41.K0 = zq41.o0 N a0 b0_0 b0_1 := by kernel_rfl
def zq41.g (N : Nat) (a0 : List S41) (b0_0 : Int) (b0_1 : List S41) : Option zq41.R := zq41.o0 N a0 b0_0 b0_1
theorem zq41.g.run (N : Nat) (a0 : List S41) (b0_0 : Int) (b0_1 : List S41) : runC zq41.C (zq41.O N) N zq41.c1 1 (st0 [.one (.sl false 41 a0), .one (.fn 51 [0])] [(24, [.int .i64 b0_0, .sl false 41 b0_1])] : St D0) zq41.K0 = zq41.g N a0 b0_0 b0_1 := by
  exact (zq41.o0.run N a0 b0_0 b0_1).trans rfl
theorem zq41.good (N : Nat) (a0 : List S41) (b0_0 : Int) (b0_1 : List S41) (r : zq41.R) (h : zq41.g N a0 b0_0 b0_1 = some r) : Go.PM.Good Tryz.prog T0 50 [.one (.sl false 41 a0), .one (.fn 51 [0])] [(24, [.int .i64 b0_0, .sl false 41 b0_1])] (zq41.sig.ret r) (zq41.sig.bs r) :=
  good_fn tabOk0 mixed0 zq41.sig (zq41.E N) Tryz.func50 (by kernel_rfl) (by kernel_rfl) 19 0 1 [] 96 false [] [(false, [.any])] (by kernel_rfl) rfl rfl ((zq41.g.run N a0 b0_0 b0_1).trans h)
def zq41.ent (N : Nat) : Ent Tryz.prog T0 := mkEnt 50 [(false, [.ro 41]), (false, [.any])] zq41.sig (fun t => zq41.g N t.1 t.2.2.1 t.2.2.2) (fun t r h => zq41.good N t.1 t.2.2.1 t.2.2.2 r h)
/-! ### zq7 -/
abbrev zq7.R : Type := Bool
abbrev zq7.sig : Sig := ⟨[(true, 2)], [], [.int .i64, .sl false 41], [(false, 1)], [], [.bool]⟩
def zq7.C : Cfg D0 := ⟨Tryz.prog, T0, 7, 0, 19, 0, [], 0, false, []⟩
def zq7.E (N : Nat) : List (Ent Tryz.prog T0) := [zq21.ent N, zq41.ent N]
def zq7.O (N : Nat) : Orc D0 zq7.R := orcOf (zq7.E N)
def zq7.K0 : Ex → St D0 → Option zq7.R := exitK zq7.C Tryz.f25.results.toList [(false, [.any])] (decOut zq7.sig)
def zq7.c1 : Code := codeAt (Tryz.f25.body.getD .skip) []
def zq7.o0 (N : Nat) (a0_0 : Int) (a0_1 : List S41) : Option zq7.R :=
 (zq21.g N a0_0).bind fun r1 =>
 bif r1 then
  bif (decide ((a0_1.length : Int) ≤ 6)) then
   (zq41.g N a0_1 a0_0 a0_1).bind fun r2 =>
   some ((!r2.1))
  else
  some (false)
 else
 some (false)
theorem zq7.o0.run (N : Nat) (a0_0 : Int) (a0_1 : List S41) : runC zq7.C (zq7.O N) N zq7.c1 1 (st0 [.agg [.int .i64 a0_0, .sl false 41 a0_1]] [] : St D0) zq7.K0 = zq7.o0 N a0_0 a0_1 := by kernel_rfl
def zq7.g (N : Nat) (a0_0 : Int) (a0_1 : List S41) : Option zq7.R := zq7.o0 N a0_0 a0_1
theorem zq7.g.run (N : Nat) (a0_0 : Int) (a0_1 : List S41) : runC zq7.C (zq7.O N) N zq7.c1 1 (st0 [.agg [.int .i64 a0_0, .sl false 41 a0_1]] [] : St D0) zq7.K0 = zq7.g N a0_0 a0_1 := by
  exact (zq7.o0.run N a0_0 a0_1).trans rfl
theorem zq7.good (N : Nat) (a0_0 : Int) (a0_1 : List S41) (r : zq7.R) (h : zq7.g N a0_0 a0_1 = some r) : Go.PM.Good Tryz.prog T0 25 [.agg [.int .i64 a0_0, .sl false 41 a0_1]] [] (zq7.sig.ret r) (zq7.sig.bs r) :=
  good_fn tabOk0 mixed0 zq7.sig (zq7.E N) Tryz.func25 (by kernel_rfl) (by kernel_rfl) 7 0 0 [] 0 false [] [(false, [.any])] (by kernel_rfl) rfl rfl ((zq7.g.run N a0_0 a0_1).trans h)
def zq7.ent (N : Nat) : Ent Tryz.prog T0 := mkEnt 25 [(true, [.any, .ro 41])] zq7.sig (fun t => zq7.g N t.1 t.2) (fun t r h => zq7.good N t.1 t.2 r h)
/-! ### zq28 -/
abbrev zq28.R : Type := Bool × Int × Int
abbrev zq28.sig : Sig := ⟨[(true, 3), (false, 1), (false, 1)], [(3, 1), (3, 1)], [.int .i64, .int .i64, .int .i64, .ptr 0 0, .ptr 1 0, .int .i64, .int .i64], [(false, 1)], [(3, 1), (3, 1)], [.bool, .int .i64, .int .i64]⟩
def zq28.C : Cfg D0 := ⟨Tryz.prog, T0, 31, 0, 10, 2, [], 0, false, []⟩
def zq28.E (N : Nat) : List (Ent Tryz.prog T0) := [zq18.ent N]
def zq28.O (N : Nat) : Orc D0 zq28.R := orcOf (zq28.E N)
def zq28.K0 : Ex → St D0 → Option zq28.R := exitK zq28.C Tryz.f66.results.toList [(false, [.any])] (decOut zq28.sig)
def zq28.c1 : Code := codeAt (Tryz.f66.body.getD .skip) []
def zq28.o0 (N : Nat) (a0_0 : Int) (a0_1 : Int) (a0_2 : Int) (b0_0 : Int) (b1_0 : Int) : Option zq28.R :=
 (zq18.g N b0_0 b1_0 a0_0 a0_1 a0_2).bind fun r1 =>
 some ((!r1), b0_0, b1_0)
theorem zq28.o0.run (N : Nat) (a0_0 : Int) (a0_1 : Int) (a0_2 : Int) (b0_0 : Int) (b1_0 : Int) : runC zq28.C (zq28.O N) N zq28.c1 1 (st0 [.agg [.int .i64 a0_0, .int .i64 a0_1, .int .i64 a0_2], .one (.ptr 0 0), .one (.ptr 1 0)] [(3, [.int .i64 b0_0]), (3, [.int .i64 b1_0])] : St D0) zq28.K0 = zq28.o0 N a0_0 a0_1 a0_2 b0_0 b1_0 := by kernel_rfl
def zq28.g (N : Nat) (a0_0 : Int) (a0_1 : Int) (a0_2 : Int) (b0_0 : Int) (b1_0 : Int) : Option zq28.R := zq28.o0 N a0_0 a0_1 a0_2 b0_0 b1_0
theorem zq28.g.run (N : Nat) (a0_0 : Int) (a0_1 : Int) (a0_2 : Int) (b0_0 : Int) (b1_0 : Int) : runC zq28.C (zq28.O N) N zq28.c1 1 (st0 [.agg [.int .i64 a0_0, .int .i64 a0_1, .int .i64 a0_2], .one (.ptr 0 0), .one (.ptr 1 0)] [(3, [.int .i64 b0_0]), (3, [.int .i64 b1_0])] : St D0) zq28.K0 = zq28.g N a0_0 a0_1 a0_2 b0_0 b1_0 := by
  exact (zq28.o0.run N a0_0 a0_1 a0_2 b0_0 b1_0).trans rfl
theorem zq28.good (N : Nat) (a0_0 : Int) (a0_1 : Int) (a0_2 : Int) (b0_0 : Int) (b1_0 : Int) (r : zq28.R) (h : zq28.g N a0_0 a0_1 a0_2 b0_0 b1_0 = some r) : Go.PM.Good Tryz.prog T0 66 [.agg [.int .i64 a0_0, .int .i64 a0_1, .int .i64 a0_2], .one (.ptr 0 0), .one (.ptr 1 0)] [(3, [.int .i64 b0_0]), (3, [.int .i64 b1_0])] (zq28.sig.ret r) (zq28.sig.bs r) :=
  good_fn tabOk0 mixed0 zq28.sig (zq28.E N) Tryz.func66 (by kernel_rfl) (by kernel_rfl) 31 0 2 [] 0 false [] [(false, [.any])] (by kernel_rfl) rfl rfl ((zq28.g.run N a0_0 a0_1 a0_2 b0_0 b1_0).trans h)
def zq28.ent (N : Nat) : Ent Tryz.prog T0 := mkEnt 66 [(true, [.any, .any, .any]), (false, [.any]), (false, [.any])] zq28.sig (fun t => zq28.g N t.1 t.2.1 t.2.2.1 t.2.2.2.2.2.1 t.2.2.2.2.2.2) (fun t r h => zq28.good N t.1 t.2.1 t.2.2.1 t.2.2.2.2.2.1 t.2.2.2.2.2.2 r h)
/-! ### zq44 -/
abbrev zq44.R : Type := Int × Int × Int
abbrev zq44.sig : Sig := ⟨[(false, 1), (false, 1)], [(3, 1), (3, 1)], [.sl false 41, .fn 66 [0, 1], .int .i64, .int .i64], [(false, 1)], [(3, 1), (3, 1)], [.int .i64, .int .i64, .int .i64]⟩
def zq44.C : Cfg D0 := ⟨Tryz.prog, T0, 66483, 0, 19, 2, [(26, [0, 1, 7, 8], [0, 1])], 14400, false, []⟩
def zq44.E (N : Nat) : List (Ent Tryz.prog T0) := [zq28.ent N]
def zq44.O (N : Nat) : Orc D0 zq44.R := orcOf (zq44.E N)
def zq44.K0 : Ex → St D0 → Option zq44.R := exitK zq44.C Tryz.f78.results.toList [(false, [.any])] (decOut zq44.sig)
def zq44.c1 : Code := codeAt (Tryz.f78.body.getD .skip) []
def zq44.c2 : Code := codeAt (Tryz.f78.body.getD .skip) [false]
def zq44.c7 : Code := codeAt (Tryz.f78.body.getD .skip) [true, true]
def zq44.c12 : Code := codeAt (Tryz.f78.body.getD .skip) [true, false, false]
def zq44.c52 : Code := codeAt (Tryz.f78.body.getD .skip) [true, false, true, false, false]
def zq44.K52 (N : Nat) (Kn26 : St D0 → Option zq44.R) : Ex → St D0 → Option zq44.R := ((fun up => (onN (fun s => zq44.C.tidy 26 s ((onN Kn26 up) .normal)) (onN Kn26 up))) (blockK 0 (onN (fun s => zq44.C.tidy 6 s (fun s' => runC zq44.C (zq44.O N) N zq44.c7 7 s' zq44.K0)) zq44.K0)))
def zq44.o1 (N : Nat) (v0 : List S41) (v1 : Int) (v2 : Int) (v3 : Int) (v4 : Int) (c1 : (List S41) → Int → Int → Int → Int → Option zq44.R) : Option zq44.R :=
 bif (decide (v2 < v1)) then
  bif (decide (0 ≤ v2)) then
   bif (decide (v2 < (v0.length : Int))) then
    (v0[(v2 : Int).toNat]?).bind fun x1 =>
    (zq28.g N x1.f0 x1.f1 x1.f2 v3 v4).bind fun r2 =>
    bif r2.1 then
     some (v2, r2.2.1, r2.2.2)
    else
    c1 v0 v1 (w64 (v2 + 1)) r2.2.1 r2.2.2
   else
   none
  else
  none
 else
 some ((-1), v3, v4)
theorem zq44.o1.run (N : Nat) (Kn26 : St D0 → Option zq44.R) (v0 : List S41) (v1 : Int) (v2 : Int) (v3 : Int) (v4 : Int) : runC zq44.C (zq44.O N) N zq44.c52 52 (mkSt [(0, .one (.sl false 41 v0)), (1, .one (.fn 66 [0, 1])), (7, .one (.int .i64 v1)), (8, .one (.int .i64 v2))] [(0, some (3, [.int .i64 v3])), (1, some (3, [.int .i64 v4]))] : St D0) ((fun up => (onN (fun s => zq44.C.tidy 26 s ((onN Kn26 up) .normal)) (onN Kn26 up))) (blockK 0 (onN (fun s => zq44.C.tidy 6 s (fun s' => runC zq44.C (zq44.O N) N zq44.c7 7 s' zq44.K0)) zq44.K0))) = zq44.o1 N v0 v1 v2 v3 v4 ((fun w0 w1 w2 w3 w4 => Kn26 (mkSt [(0, .one (.sl false 41 w0)), (1, .one (.fn 66 [0, 1])), (7, .one (.int .i64 w1)), (8, .one (.int .i64 w2))] [(0, some (3, [.int .i64 w3])), (1, some (3, [.int .i64 w4]))] : St D0))) := by kernel_rfl
def zq44.d1 (N : Nat) (v0 : List S41) (v1 : Int) (v2 : Int) (v3 : Int) (v4 : Int) (c1 : (List S41) → Int → Int → Int → Int → Option zq44.R) : Option zq44.R := zq44.o1 N v0 v1 v2 v3 v4 c1
theorem zq44.d1.run (N : Nat) (Kn26 : St D0 → Option zq44.R) (v0 : List S41) (v1 : Int) (v2 : Int) (v3 : Int) (v4 : Int) : runC zq44.C (zq44.O N) N zq44.c52 52 (mkSt [(0, .one (.sl false 41 v0)), (1, .one (.fn 66 [0, 1])), (7, .one (.int .i64 v1)), (8, .one (.int .i64 v2))] [(0, some (3, [.int .i64 v3])), (1, some (3, [.int .i64 v4]))] : St D0) (zq44.K52 N Kn26) = zq44.d1 N v0 v1 v2 v3 v4 ((fun w0 w1 w2 w3 w4 => Kn26 (mkSt [(0, .one (.sl false 41 w0)), (1, .one (.fn 66 [0, 1])), (7, .one (.int .i64 w1)), (8, .one (.int .i64 w2))] [(0, some (3, [.int .i64 w3])), (1, some (3, [.int .i64 w4]))] : St D0))) := by
  exact (zq44.o1.run N Kn26 v0 v1 v2 v3 v4).trans rfl
def zq44.K26 (N : Nat) : Ex → St D0 → Option zq44.R := (blockK 0 (onN (fun s => zq44.C.tidy 6 s (fun s' => runC zq44.C (zq44.O N) N zq44.c7 7 s' zq44.K0)) zq44.K0))
def zq44.l1 (N : Nat) : Nat → (List S41) → Int → Int → Int → Int → Option zq44.R
  | 0, _, _, _, _, _ => none
  | n + 1, v0, v1, v2, v3, v4 => zq44.d1 N v0 v1 v2 v3 v4 ((fun w0 w1 w2 w3 w4 => zq44.l1 N n w0 w1 w2 w3 w4))
theorem zq44.loop26 (N : Nat) : ∀ n, (∀ (v0 : List S41) (v1 : Int) (v2 : Int) (v3 : Int) (v4 : Int), iter (loopF zq44.C (zq44.O N) N zq44.c52 26) n (mkSt [(0, .one (.sl false 41 v0)), (1, .one (.fn 66 [0, 1])), (7, .one (.int .i64 v1)), (8, .one (.int .i64 v2))] [(0, some (3, [.int .i64 v3])), (1, some (3, [.int .i64 v4]))] : St D0) (zq44.K26 N) = zq44.l1 N n v0 v1 v2 v3 v4)
  | 0 => (fun v0 v1 v2 v3 v4 => rfl)
  | n + 1 => (fun v0 v1 v2 v3 v4 => (zq44.d1.run N (fun s => iter (loopF zq44.C (zq44.O N) N zq44.c52 26) n s (zq44.K26 N)) v0 v1 v2 v3 v4).trans (show _ = zq44.d1 N v0 v1 v2 v3 v4 ((fun w0 w1 w2 w3 w4 => zq44.l1 N n w0 w1 w2 w3 w4)) from (congr rfl (funext fun w0 => funext fun w1 => funext fun w2 => funext fun w3 => funext fun w4 => (zq44.loop26 N n) w0 w1 w2 w3 w4))))
def zq44.o0 (N : Nat) (a0 : List S41) (b0_0 : Int) (b1_0 : Int) (c1 : (List S41) → Int → Int → Int → Int → Option zq44.R) : Option zq44.R :=
 c1 a0 (a0.length : Int) 0 b0_0 b1_0
theorem zq44.o0.run (N : Nat) (H52 : Code) (a0 : List S41) (b0_0 : Int) (b1_0 : Int) : runC zq44.C (zq44.O N) N (.seq zq44.c2 (.seq (.seq zq44.c12 (.block 0 (.loop H52))) zq44.c7)) 1 (st0 [.one (.sl false 41 a0), .one (.fn 66 [0, 1])] [(3, [.int .i64 b0_0]), (3, [.int .i64 b1_0])] : St D0) zq44.K0 = zq44.o0 N a0 b0_0 b1_0 ((fun w0 w1 w2 w3 w4 => iter (loopF zq44.C (zq44.O N) N H52 26) N (mkSt [(0, .one (.sl false 41 w0)), (1, .one (.fn 66 [0, 1])), (7, .one (.int .i64 w1)), (8, .one (.int .i64 w2))] [(0, some (3, [.int .i64 w3])), (1, some (3, [.int .i64 w4]))] : St D0) (blockK 0 (onN (fun s => zq44.C.tidy 6 s (fun s' => runC zq44.C (zq44.O N) N zq44.c7 7 s' zq44.K0)) zq44.K0)))) := by kernel_rfl
def zq44.g (N : Nat) (a0 : List S41) (b0_0 : Int) (b1_0 : Int) : Option zq44.R := zq44.o0 N a0 b0_0 b1_0 ((fun w0 w1 w2 w3 w4 => zq44.l1 N N w0 w1 w2 w3 w4))
theorem zq44.c1_0 : zq44.c1 = (.seq zq44.c2 (.seq (.seq zq44.c12 (.block 0 (.loop zq44.c52))) zq44.c7)) := by kernel_rfl
theorem zq44.g.run (N : Nat) (a0 : List S41) (b0_0 : Int) (b1_0 : Int) : runC zq44.C (zq44.O N) N zq44.c1 1 (st0 [.one (.sl false 41 a0), .one (.fn 66 [0, 1])] [(3, [.int .i64 b0_0]), (3, [.int .i64 b1_0])] : St D0) zq44.K0 = zq44.g N a0 b0_0 b1_0 := by
  rw [zq44.c1_0]; unfold zq44.g; exact (zq44.o0.run N zq44.c52 a0 b0_0 b1_0).trans (congr rfl (funext fun w0 => funext fun w1 => funext fun w2 => funext fun w3 => funext fun w4 => (zq44.loop26 N N) w0 w1 w2 w3 w4))
theorem zq44.good (N : Nat) (a0 : List S41) (b0_0 : Int) (b1_0 : Int) (r : zq44.R) (h : zq44.g N a0 b0_0 b1_0 = some r) : Go.PM.Good Tryz.prog T0 78 [.one (.sl false 41 a0), .one (.fn 66 [0, 1])] [(3, [.int .i64 b0_0]), (3, [.int .i64 b1_0])] (zq44.sig.ret r) (zq44.sig.bs r) :=
  good_fn tabOk0 mixed0 zq44.sig (zq44.E N) Tryz.func78 (by kernel_rfl) (by kernel_rfl) 66483 0 2 [(26, [0, 1, 7, 8], [0, 1])] 14400 false [] [(false, [.any])] (by kernel_rfl) rfl rfl ((zq44.g.run N a0 b0_0 b1_0).trans h)
def zq44.ent (N : Nat) : Ent Tryz.prog T0 := mkEnt 78 [(false, [.ro 41]), (false, [.any])] zq44.sig (fun t => zq44.g N t.1 t.2.2.1 t.2.2.2) (fun t r h => zq44.good N t.1 t.2.2.1 t.2.2.2 r h)
/-! ### zq42 -/
abbrev zq42.R : Type := Bool × Int × Int
abbrev zq42.sig : Sig := ⟨[(false, 1), (false, 1)], [(3, 1), (3, 1)], [.sl false 41, .fn 66 [0, 1], .int .i64, .int .i64], [(false, 1)], [(3, 1), (3, 1)], [.bool, .int .i64, .int .i64]⟩
def zq42.C : Cfg D0 := ⟨Tryz.prog, T0, 19, 0, 9, 2, [], 96, false, []⟩
def zq42.E (N : Nat) : List (Ent Tryz.prog T0) := [zq44.ent N]
def zq42.O (N : Nat) : Orc D0 zq42.R := orcOf (zq42.E N)
def zq42.K0 : Ex → St D0 → Option zq42.R := exitK zq42.C Tryz.f50.results.toList [(false, [.any])] (decOut zq42.sig)
def zq42.c1 : Code := codeAt (Tryz.f50.body.getD .skip) []
def zq42.o0 (N : Nat) (a0 : List S41) (b0_0 : Int) (b1_0 : Int) : Option zq42.R :=
 (zq44.g N a0 b0_0 b1_0).bind fun r1 =>
 some ((decide (r1.1 ≥ 0)), r1.2.1, r1.2.2)
theorem zq42.o0.run (N : Nat) (a0 : List S41) (b0_0 : Int) (b1_0 : Int) : runC zq42.C (zq42.O N) N zq42.c1 1 (st0 [.one (.sl false 41 a0), .one (.fn 66 [0, 1])] [(3, [.int .i64 b0_0]), (3, [.int .i64 b1_0])] : St D0) zq42.K0 = zq42.o0 N a0 b0_0 b1_0 := by kernel_rfl
def zq42.g (N : Nat) (a0 : List S41) (b0_0 : Int) (b1_0 : Int) : Option zq42.R := zq42.o0 N a0 b0_0 b1_0
theorem zq42.g.run (N : Nat) (a0 : List S41) (b0_0 : Int) (b1_0 : Int) : runC zq42.C (zq42.O N) N zq42.c1 1 (st0 [.one (.sl false 41 a0), .one (.fn 66 [0, 1])] [(3, [.int .i64 b0_0]), (3, [.int .i64 b1_0])] : St D0) zq42.K0 = zq42.g N a0 b0_0 b1_0 := by
  exact (zq42.o0.run N a0 b0_0 b1_0).trans rfl
theorem zq42.good (N : Nat) (a0 : List S41) (b0_0 : Int) (b1_0 : Int) (r : zq42.R) (h : zq42.g N a0 b0_0 b1_0 = some r) : Go.PM.Good Tryz.prog T0 50 [.one (.sl false 41 a0), .one (.fn 66 [0, 1])] [(3, [.int .i64 b0_0]), (3, [.int .i64 b1_0])] (zq42.sig.ret r) (zq42.sig.bs r) :=
  good_fn tabOk0 mixed0 zq42.sig (zq42.E N) Tryz.func50 (by kernel_rfl) (by kernel_rfl) 19 0 2 [] 96 false [] [(false, [.any])] (by kernel_rfl) rfl rfl ((zq42.g.run N a0 b0_0 b1_0).trans h)
def zq42.ent (N : Nat) : Ent Tryz.prog T0 := mkEnt 50 [(false, [.ro 41]), (false, [.any])] zq42.sig (fun t => zq42.g N t.1 t.2.2.1 t.2.2.2) (fun t r h => zq42.good N t.1 t.2.2.1 t.2.2.2 r h)
/-! ### zq27 -/
abbrev zq27.R : Type := List Int
abbrev zq27.sig : Sig := ⟨[(false, 1), (false, 1)], [], [.int .i64, .sl false 41], [(false, 1)], [], [.sl true 3]⟩
def zq27.C : Cfg D0 := ⟨Tryz.prog, T0, 69239, 0, 23, 0, [(58, [1, 2, 5, 9, 10], [2])], 8192, false, []⟩
def zq27.E (N : Nat) : List (Ent Tryz.prog T0) := [zq42.ent N]
def zq27.O (N : Nat) : Orc D0 zq27.R := orcOf (zq27.E N)
def zq27.K0 : Ex → St D0 → Option zq27.R := exitK zq27.C Tryz.f38.results.toList [(false, [.own 3])] (decOut zq27.sig)
def zq27.c1 : Code := codeAt (Tryz.f38.body.getD .skip) []
def zq27.c2 : Code := codeAt (Tryz.f38.body.getD .skip) [false]
def zq27.c6 : Code := codeAt (Tryz.f38.body.getD .skip) [true, false]
def zq27.c15 : Code := codeAt (Tryz.f38.body.getD .skip) [true, true, true]
def zq27.c28 : Code := codeAt (Tryz.f38.body.getD .skip) [true, true, false, false]
def zq27.c116 : Code := codeAt (Tryz.f38.body.getD .skip) [true, true, false, true, false, false]
def zq27.K116 (N : Nat) (Kn58 : St D0 → Option zq27.R) : Ex → St D0 → Option zq27.R := ((fun up => (onN (fun s => zq27.C.tidy 58 s ((onN Kn58 up) .normal)) (onN Kn58 up))) (blockK 0 (onN (fun s => zq27.C.tidy 14 s (fun s' => runC zq27.C (zq27.O N) N zq27.c15 15 s' zq27.K0)) zq27.K0)))
def zq27.o1 (N : Nat) (v0 : List S41) (v1 : List Int) (v2 : Int) (v3 : Int) (v4 : Int) (c1 : (List S41) → (List Int) → Int → Int → Int → Option zq27.R) : Option zq27.R :=
 bif (decide (v3 < v2)) then
  (zq42.g N v0 v4 v3).bind fun r1 =>
  bif (!r1.1) then
   bif (Nat.blt (v1.length + ([r1.2.2] : List Int).length) 17592186044416) then
    c1 v0 (v1 ++ ([r1.2.2] : List Int)) v2 (w64 (v3 + 1)) r1.2.1
   else
   none
  else
  c1 v0 v1 v2 (w64 (v3 + 1)) r1.2.1
 else
 some (v1)
theorem zq27.o1.run (N : Nat) (Kn58 : St D0 → Option zq27.R) (v0 : List S41) (v1 : List Int) (v2 : Int) (v3 : Int) (v4 : Int) : runC zq27.C (zq27.O N) N zq27.c116 116 (mkSt [(1, .one (.sl false 41 v0)), (2, .one (.ptr 2 0)), (5, .one (.sl true 3 v1)), (9, .one (.int .i64 v2)), (10, .one (.int .i64 v3))] [(2, some (3, [.int .i64 v4]))] : St D0) ((fun up => (onN (fun s => zq27.C.tidy 58 s ((onN Kn58 up) .normal)) (onN Kn58 up))) (blockK 0 (onN (fun s => zq27.C.tidy 14 s (fun s' => runC zq27.C (zq27.O N) N zq27.c15 15 s' zq27.K0)) zq27.K0))) = zq27.o1 N v0 v1 v2 v3 v4 ((fun w0 w1 w2 w3 w4 => Kn58 (mkSt [(1, .one (.sl false 41 w0)), (2, .one (.ptr 2 0)), (5, .one (.sl true 3 w1)), (9, .one (.int .i64 w2)), (10, .one (.int .i64 w3))] [(2, some (3, [.int .i64 w4]))] : St D0))) := by kernel_rfl
def zq27.d1 (N : Nat) (v0 : List S41) (v1 : List Int) (v2 : Int) (v3 : Int) (v4 : Int) (c1 : (List S41) → (List Int) → Int → Int → Int → Option zq27.R) : Option zq27.R := zq27.o1 N v0 v1 v2 v3 v4 c1
theorem zq27.d1.run (N : Nat) (Kn58 : St D0 → Option zq27.R) (v0 : List S41) (v1 : List Int) (v2 : Int) (v3 : Int) (v4 : Int) : runC zq27.C (zq27.O N) N zq27.c116 116 (mkSt [(1, .one (.sl false 41 v0)), (2, .one (.ptr 2 0)), (5, .one (.sl true 3 v1)), (9, .one (.int .i64 v2)), (10, .one (.int .i64 v3))] [(2, some (3, [.int .i64 v4]))] : St D0) (zq27.K116 N Kn58) = zq27.d1 N v0 v1 v2 v3 v4 ((fun w0 w1 w2 w3 w4 => Kn58 (mkSt [(1, .one (.sl false 41 w0)), (2, .one (.ptr 2 0)), (5, .one (.sl true 3 w1)), (9, .one (.int .i64 w2)), (10, .one (.int .i64 w3))] [(2, some (3, [.int .i64 w4]))] : St D0))) := by
  exact (zq27.o1.run N Kn58 v0 v1 v2 v3 v4).trans rfl
def zq27.K58 (N : Nat) : Ex → St D0 → Option zq27.R := (blockK 0 (onN (fun s => zq27.C.tidy 14 s (fun s' => runC zq27.C (zq27.O N) N zq27.c15 15 s' zq27.K0)) zq27.K0))
def zq27.l1 (N : Nat) : Nat → (List S41) → (List Int) → Int → Int → Int → Option zq27.R
  | 0, _, _, _, _, _ => none
  | n + 1, v0, v1, v2, v3, v4 => zq27.d1 N v0 v1 v2 v3 v4 ((fun w0 w1 w2 w3 w4 => zq27.l1 N n w0 w1 w2 w3 w4))
theorem zq27.loop58 (N : Nat) : ∀ n, (∀ (v0 : List S41) (v1 : List Int) (v2 : Int) (v3 : Int) (v4 : Int), iter (loopF zq27.C (zq27.O N) N zq27.c116 58) n (mkSt [(1, .one (.sl false 41 v0)), (2, .one (.ptr 2 0)), (5, .one (.sl true 3 v1)), (9, .one (.int .i64 v2)), (10, .one (.int .i64 v3))] [(2, some (3, [.int .i64 v4]))] : St D0) (zq27.K58 N) = zq27.l1 N n v0 v1 v2 v3 v4)
  | 0 => (fun v0 v1 v2 v3 v4 => rfl)
  | n + 1 => (fun v0 v1 v2 v3 v4 => (zq27.d1.run N (fun s => iter (loopF zq27.C (zq27.O N) N zq27.c116 58) n s (zq27.K58 N)) v0 v1 v2 v3 v4).trans (show _ = zq27.d1 N v0 v1 v2 v3 v4 ((fun w0 w1 w2 w3 w4 => zq27.l1 N n w0 w1 w2 w3 w4)) from (congr rfl (funext fun w0 => funext fun w1 => funext fun w2 => funext fun w3 => funext fun w4 => (zq27.loop58 N n) w0 w1 w2 w3 w4))))
def zq27.o0 (N : Nat) (a0 : Int) (a1 : List S41) (c1 : (List S41) → (List Int) → Int → Int → Int → Option zq27.R) : Option zq27.R :=
 c1 a1 ([] : List Int) (w64 (60 * a0)) 0 a0
theorem zq27.o0.run (N : Nat) (H116 : Code) (a0 : Int) (a1 : List S41) : runC zq27.C (zq27.O N) N (.seq zq27.c2 (.seq zq27.c6 (.seq (.seq zq27.c28 (.block 0 (.loop H116))) zq27.c15))) 1 (st0 [.one (.int .i64 a0), .one (.sl false 41 a1)] [] : St D0) zq27.K0 = zq27.o0 N a0 a1 ((fun w0 w1 w2 w3 w4 => iter (loopF zq27.C (zq27.O N) N H116 58) N (mkSt [(1, .one (.sl false 41 w0)), (2, .one (.ptr 2 0)), (5, .one (.sl true 3 w1)), (9, .one (.int .i64 w2)), (10, .one (.int .i64 w3))] [(2, some (3, [.int .i64 w4]))] : St D0) (blockK 0 (onN (fun s => zq27.C.tidy 14 s (fun s' => runC zq27.C (zq27.O N) N zq27.c15 15 s' zq27.K0)) zq27.K0)))) := by kernel_rfl
def zq27.g (N : Nat) (a0 : Int) (a1 : List S41) : Option zq27.R := zq27.o0 N a0 a1 ((fun w0 w1 w2 w3 w4 => zq27.l1 N N w0 w1 w2 w3 w4))
theorem zq27.c1_0 : zq27.c1 = (.seq zq27.c2 (.seq zq27.c6 (.seq (.seq zq27.c28 (.block 0 (.loop zq27.c116))) zq27.c15))) := by kernel_rfl
theorem zq27.g.run (N : Nat) (a0 : Int) (a1 : List S41) : runC zq27.C (zq27.O N) N zq27.c1 1 (st0 [.one (.int .i64 a0), .one (.sl false 41 a1)] [] : St D0) zq27.K0 = zq27.g N a0 a1 := by
  rw [zq27.c1_0]; unfold zq27.g; exact (zq27.o0.run N zq27.c116 a0 a1).trans (congr rfl (funext fun w0 => funext fun w1 => funext fun w2 => funext fun w3 => funext fun w4 => (zq27.loop58 N N) w0 w1 w2 w3 w4))
theorem zq27.good (N : Nat) (a0 : Int) (a1 : List S41) (r : zq27.R) (h : zq27.g N a0 a1 = some r) : Go.PM.Good Tryz.prog T0 38 [.one (.int .i64 a0), .one (.sl false 41 a1)] [] (zq27.sig.ret r) (zq27.sig.bs r) :=
  good_fn tabOk0 mixed0 zq27.sig (zq27.E N) Tryz.func38 (by kernel_rfl) (by kernel_rfl) 69239 0 0 [(58, [1, 2, 5, 9, 10], [2])] 8192 false [] [(false, [.own 3])] (by kernel_rfl) rfl rfl ((zq27.g.run N a0 a1).trans h)
def zq27.ent (N : Nat) : Ent Tryz.prog T0 := mkEnt 38 [(false, [.any]), (false, [.ro 41])] zq27.sig (fun t => zq27.g N t.1 t.2) (fun t r h => zq27.good N t.1 t.2 r h)
/-! ### zq17 -/
abbrev zq17.R : Type := List Int × Bool
abbrev zq17.sig : Sig := ⟨[(true, 2)], [], [.int .i64, .sl false 41], [(false, 1), (false, 1)], [], [.sl true 3, .bool]⟩
def zq17.C : Cfg D0 := ⟨Tryz.prog, T0, 79, 0, 12, 0, [], 0, false, []⟩
def zq17.E (N : Nat) : List (Ent Tryz.prog T0) := [zq7.ent N, zq27.ent N]
def zq17.O (N : Nat) : Orc D0 zq17.R := orcOf (zq17.E N)
def zq17.K0 : Ex → St D0 → Option zq17.R := exitK zq17.C Tryz.f5.results.toList [(false, [.own 3]), (false, [.any])] (decOut zq17.sig)
def zq17.c1 : Code := codeAt (Tryz.f5.body.getD .skip) []
def zq17.o0 (N : Nat) (a0_0 : Int) (a0_1 : List S41) : Option zq17.R :=
 (zq7.g N a0_0 a0_1).bind fun r1 =>
 bif (!r1) then
  some (([] : List Int), false)
 else
 (zq27.g N a0_0 a0_1).bind fun r2 =>
 some (r2, true)
theorem zq17.o0.run (N : Nat) (a0_0 : Int) (a0_1 : List S41) : runC zq17.C (zq17.O N) N zq17.c1 1 (st0 [.agg [.int .i64 a0_0, .sl false 41 a0_1]] [] : St D0) zq17.K0 = zq17.o0 N a0_0 a0_1 := by kernel_rfl
def zq17.g (N : Nat) (a0_0 : Int) (a0_1 : List S41) : Option zq17.R := zq17.o0 N a0_0 a0_1
theorem zq17.g.run (N : Nat) (a0_0 : Int) (a0_1 : List S41) : runC zq17.C (zq17.O N) N zq17.c1 1 (st0 [.agg [.int .i64 a0_0, .sl false 41 a0_1]] [] : St D0) zq17.K0 = zq17.g N a0_0 a0_1 := by
  exact (zq17.o0.run N a0_0 a0_1).trans rfl
theorem zq17.good (N : Nat) (a0_0 : Int) (a0_1 : List S41) (r : zq17.R) (h : zq17.g N a0_0 a0_1 = some r) : Go.PM.Good Tryz.prog T0 5 [.agg [.int .i64 a0_0, .sl false 41 a0_1]] [] (zq17.sig.ret r) (zq17.sig.bs r) :=
  good_fn tabOk0 mixed0 zq17.sig (zq17.E N) Tryz.func5 (by kernel_rfl) (by kernel_rfl) 79 0 0 [] 0 false [] [(false, [.own 3]), (false, [.any])] (by kernel_rfl) rfl rfl ((zq17.g.run N a0_0 a0_1).trans h)
def zq17.ent (N : Nat) : Ent Tryz.prog T0 := mkEnt 5 [(true, [.any, .ro 41])] zq17.sig (fun t => zq17.g N t.1 t.2) (fun t r h => zq17.good N t.1 t.2 r h)
/-! ### zq79 -/
abbrev zq79.R : Type := List Int
abbrev zq79.sig : Sig := ⟨[(false, 1), (false, 1)], [], [.int .i64, .sl false 41], [(false, 1)], [], [.sl true 3]⟩
def zq79.C : Cfg D0 := ⟨Tryz.prog, T0, 1074733811, 0, 36, 0, [(58, [0, 1, 5, 6], []), (466, [0, 1, 5, 6], []), (14922, [0, 1, 5, 6, 7, 16, 17, 18], [])], 83905536, false, []⟩
def zq79.E (N : Nat) : List (Ent Tryz.prog T0) := [zq81.ent N]
def zq79.O (N : Nat) : Orc D0 zq79.R := orcOf (zq79.E N)
def zq79.K0 : Ex → St D0 → Option zq79.R := exitK zq79.C Tryz.f40.results.toList [(false, [.own 3])] (decOut zq79.sig)
def zq79.c1 : Code := codeAt (Tryz.f40.body.getD .skip) []
def zq79.c2 : Code := codeAt (Tryz.f40.body.getD .skip) [false]
def zq79.c6 : Code := codeAt (Tryz.f40.body.getD .skip) [true, false]
def zq79.c15 : Code := codeAt (Tryz.f40.body.getD .skip) [true, true, true]
def zq79.c28 : Code := codeAt (Tryz.f40.body.getD .skip) [true, true, false, false]
def zq79.c116 : Code := codeAt (Tryz.f40.body.getD .skip) [true, true, false, true, false, false]
def zq79.c232 : Code := codeAt (Tryz.f40.body.getD .skip) [true, true, false, true, false, false, false]
def zq79.c467 : Code := codeAt (Tryz.f40.body.getD .skip) [true, true, false, true, false, false, true, true]
def zq79.c1864 : Code := codeAt (Tryz.f40.body.getD .skip) [true, true, false, true, false, false, true, false, false, false]
def zq79.c3731 : Code := codeAt (Tryz.f40.body.getD .skip) [true, true, false, true, false, false, true, false, false, true, true]
def zq79.c7460 : Code := codeAt (Tryz.f40.body.getD .skip) [true, true, false, true, false, false, true, false, false, true, false, false]
def zq79.c29844 : Code := codeAt (Tryz.f40.body.getD .skip) [true, true, false, true, false, false, true, false, false, true, false, true, false, false]
def zq79.K467 (N : Nat) (Kn58 : St D0 → Option zq79.R) : Ex → St D0 → Option zq79.R := ((fun up => (onN (fun s => zq79.C.tidy 58 s ((onN Kn58 up) .normal)) (onN Kn58 up))) (blockK 0 (onN (fun s => zq79.C.tidy 14 s (fun s' => runC zq79.C (zq79.O N) N zq79.c15 15 s' zq79.K0)) zq79.K0)))
def zq79.o3 (N : Nat) (v0 : Int) (v1 : List S41) (v2 : List Int) (v3 : Int) (c5 : Int → (List S41) → (List Int) → Int → Option zq79.R) : Option zq79.R :=
 c5 v0 v1 v2 (w64 (v3 + 1))
theorem zq79.o3.run (N : Nat) (Kn58 : St D0 → Option zq79.R) (v0 : Int) (v1 : List S41) (v2 : List Int) (v3 : Int) : runC zq79.C (zq79.O N) N zq79.c467 467 (mkSt [(0, .one (.int .i64 v0)), (1, .one (.sl false 41 v1)), (5, .one (.sl true 3 v2)), (6, .one (.int .i64 v3))] [] : St D0) ((fun up => (onN (fun s => zq79.C.tidy 58 s ((onN Kn58 up) .normal)) (onN Kn58 up))) (blockK 0 (onN (fun s => zq79.C.tidy 14 s (fun s' => runC zq79.C (zq79.O N) N zq79.c15 15 s' zq79.K0)) zq79.K0))) = zq79.o3 N v0 v1 v2 v3 ((fun w0 w1 w2 w3 => Kn58 (mkSt [(0, .one (.int .i64 w0)), (1, .one (.sl false 41 w1)), (5, .one (.sl true 3 w2)), (6, .one (.int .i64 w3))] [] : St D0))) := by kernel_rfl
def zq79.d3 (N : Nat) (v0 : Int) (v1 : List S41) (v2 : List Int) (v3 : Int) (c5 : Int → (List S41) → (List Int) → Int → Option zq79.R) : Option zq79.R := zq79.o3 N v0 v1 v2 v3 c5
theorem zq79.d3.run (N : Nat) (Kn58 : St D0 → Option zq79.R) (v0 : Int) (v1 : List S41) (v2 : List Int) (v3 : Int) : runC zq79.C (zq79.O N) N zq79.c467 467 (mkSt [(0, .one (.int .i64 v0)), (1, .one (.sl false 41 v1)), (5, .one (.sl true 3 v2)), (6, .one (.int .i64 v3))] [] : St D0) (zq79.K467 N Kn58) = zq79.d3 N v0 v1 v2 v3 ((fun w0 w1 w2 w3 => Kn58 (mkSt [(0, .one (.int .i64 w0)), (1, .one (.sl false 41 w1)), (5, .one (.sl true 3 w2)), (6, .one (.int .i64 w3))] [] : St D0))) := by
  exact (zq79.o3.run N Kn58 v0 v1 v2 v3).trans rfl
def zq79.o4 (N : Nat) (v0 : Int) (v1 : List S41) (v2 : Int) (c1 : Int → (List S41) → Int → Option zq79.R) : Option zq79.R :=
 c1 v0 v1 (w64 (v2 + 1))
theorem zq79.o4.run (N : Nat) (Kn58 : St D0 → Option zq79.R) (v0 : Int) (v1 : List S41) (v2 : Int) : runC zq79.C (zq79.O N) N zq79.c467 467 (mkSt [(0, .one (.int .i64 v0)), (1, .one (.sl false 41 v1)), (5, .one (.nl)), (6, .one (.int .i64 v2))] [] : St D0) ((fun up => (onN (fun s => zq79.C.tidy 58 s ((onN Kn58 up) .normal)) (onN Kn58 up))) (blockK 0 (onN (fun s => zq79.C.tidy 14 s (fun s' => runC zq79.C (zq79.O N) N zq79.c15 15 s' zq79.K0)) zq79.K0))) = zq79.o4 N v0 v1 v2 ((fun w0 w1 w2 => Kn58 (mkSt [(0, .one (.int .i64 w0)), (1, .one (.sl false 41 w1)), (5, .one (.nl)), (6, .one (.int .i64 w2))] [] : St D0))) := by kernel_rfl
def zq79.d4 (N : Nat) (v0 : Int) (v1 : List S41) (v2 : Int) (c1 : Int → (List S41) → Int → Option zq79.R) : Option zq79.R := zq79.o4 N v0 v1 v2 c1
theorem zq79.d4.run (N : Nat) (Kn58 : St D0 → Option zq79.R) (v0 : Int) (v1 : List S41) (v2 : Int) : runC zq79.C (zq79.O N) N zq79.c467 467 (mkSt [(0, .one (.int .i64 v0)), (1, .one (.sl false 41 v1)), (5, .one (.nl)), (6, .one (.int .i64 v2))] [] : St D0) (zq79.K467 N Kn58) = zq79.d4 N v0 v1 v2 ((fun w0 w1 w2 => Kn58 (mkSt [(0, .one (.int .i64 w0)), (1, .one (.sl false 41 w1)), (5, .one (.nl)), (6, .one (.int .i64 w2))] [] : St D0))) := by
  exact (zq79.o4.run N Kn58 v0 v1 v2).trans rfl
def zq79.B233 (N : Nat) (Kn58 : St D0 → Option zq79.R) : St D0 → Option zq79.R := fun s' => runC zq79.C (zq79.O N) N zq79.c467 467 s' (zq79.K467 N Kn58)
def zq79.K29844 (N : Nat) (Kn58 : St D0 → Option zq79.R) (Kn14922 : St D0 → Option zq79.R) : Ex → St D0 → Option zq79.R := ((fun up => (onN (fun s => zq79.C.tidy 14922 s ((onN Kn14922 up) .normal)) (onN Kn14922 up))) (blockK 2 ((fun up => (onN (fun s => zq79.C.tidy 3730 s (fun s' => runC zq79.C (zq79.O N) N zq79.c3731 3731 s' up)) up)) (blockK 1 ((fun up => (onN (fun s => zq79.C.tidy 466 s (zq79.B233 N Kn58)) up)) ((fun up => (onN (fun s => zq79.C.tidy 58 s ((onN Kn58 up) .normal)) (onN Kn58 up))) (blockK 0 (onN (fun s => zq79.C.tidy 14 s (fun s' => runC zq79.C (zq79.O N) N zq79.c15 15 s' zq79.K0)) zq79.K0))))))))
def zq79.o2 (N : Nat) (v0 : Int) (v1 : List S41) (v2 : Int) (v3 : Bool) (v4 : List S41) (v5 : Int) (v6 : Int) (c2 : Int → (List S41) → Int → Bool → (List S41) → Int → Int → Option zq79.R) (c3 : Int → (List S41) → (List Int) → Int → Option zq79.R) (c4 : Int → (List S41) → Int → Option zq79.R) : Option zq79.R :=
 bif (decide (v6 < v5)) then
  bif (decide (0 ≤ v6)) then
   bif (decide (v6 < (v4.length : Int))) then
    (v4[(v6 : Int).toNat]?).bind fun x1 =>
    bif v3 then
     (zq81.g N v0 x1.f0 x1.f1 x1.f2 v2).bind fun r2 =>
     c2 v0 v1 v2 r2 v4 v5 (w64 (v6 + 1))
    else
    c2 v0 v1 v2 false v4 v5 (w64 (v6 + 1))
   else
   none
  else
  none
 else
 bif v3 then
  bif (Nat.blt (([] : List Int).length + ([v2] : List Int).length) 17592186044416) then
   c3 v0 v1 (([] : List Int) ++ ([v2] : List Int)) v2
  else
  none
 else
 c4 v0 v1 v2
theorem zq79.o2.run (N : Nat) (Kb233 : St D0 → Option zq79.R) (Kn58 : St D0 → Option zq79.R) (Kn14922 : St D0 → Option zq79.R) (v0 : Int) (v1 : List S41) (v2 : Int) (v3 : Bool) (v4 : List S41) (v5 : Int) (v6 : Int) : runC zq79.C (zq79.O N) N zq79.c29844 29844 (mkSt [(0, .one (.int .i64 v0)), (1, .one (.sl false 41 v1)), (5, .one (.nl)), (6, .one (.int .i64 v2)), (7, .one (.bool v3)), (16, .one (.sl false 41 v4)), (17, .one (.int .i64 v5)), (18, .one (.int .i64 v6))] [] : St D0) ((fun up => (onN (fun s => zq79.C.tidy 14922 s ((onN Kn14922 up) .normal)) (onN Kn14922 up))) (blockK 2 ((fun up => (onN (fun s => zq79.C.tidy 3730 s (fun s' => runC zq79.C (zq79.O N) N zq79.c3731 3731 s' up)) up)) (blockK 1 ((fun up => (onN (fun s => zq79.C.tidy 466 s Kb233) up)) ((fun up => (onN (fun s => zq79.C.tidy 58 s ((onN Kn58 up) .normal)) (onN Kn58 up))) (blockK 0 (onN (fun s => zq79.C.tidy 14 s (fun s' => runC zq79.C (zq79.O N) N zq79.c15 15 s' zq79.K0)) zq79.K0)))))))) = zq79.o2 N v0 v1 v2 v3 v4 v5 v6 ((fun w0 w1 w2 w3 w4 w5 w6 => Kn14922 (mkSt [(0, .one (.int .i64 w0)), (1, .one (.sl false 41 w1)), (5, .one (.nl)), (6, .one (.int .i64 w2)), (7, .one (.bool w3)), (16, .one (.sl false 41 w4)), (17, .one (.int .i64 w5)), (18, .one (.int .i64 w6))] [] : St D0))) ((fun w0 w1 w2 w3 => Kb233 (mkSt [(0, .one (.int .i64 w0)), (1, .one (.sl false 41 w1)), (5, .one (.sl true 3 w2)), (6, .one (.int .i64 w3))] [] : St D0))) ((fun w0 w1 w2 => Kb233 (mkSt [(0, .one (.int .i64 w0)), (1, .one (.sl false 41 w1)), (5, .one (.nl)), (6, .one (.int .i64 w2))] [] : St D0))) := by kernel_rfl
def zq79.d2 (N : Nat) (v0 : Int) (v1 : List S41) (v2 : Int) (v3 : Bool) (v4 : List S41) (v5 : Int) (v6 : Int) (c1 : Int → (List S41) → Int → Option zq79.R) (c2 : Int → (List S41) → Int → Bool → (List S41) → Int → Int → Option zq79.R) (c5 : Int → (List S41) → (List Int) → Int → Option zq79.R) : Option zq79.R := zq79.o2 N v0 v1 v2 v3 v4 v5 v6 c2 ((fun w0 w1 w2 w3 => zq79.d3 N w0 w1 w2 w3 c5)) ((fun w0 w1 w2 => zq79.d4 N w0 w1 w2 c1))
theorem zq79.d2.run (N : Nat) (Kn58 : St D0 → Option zq79.R) (Kn14922 : St D0 → Option zq79.R) (v0 : Int) (v1 : List S41) (v2 : Int) (v3 : Bool) (v4 : List S41) (v5 : Int) (v6 : Int) : runC zq79.C (zq79.O N) N zq79.c29844 29844 (mkSt [(0, .one (.int .i64 v0)), (1, .one (.sl false 41 v1)), (5, .one (.nl)), (6, .one (.int .i64 v2)), (7, .one (.bool v3)), (16, .one (.sl false 41 v4)), (17, .one (.int .i64 v5)), (18, .one (.int .i64 v6))] [] : St D0) (zq79.K29844 N Kn58 Kn14922) = zq79.d2 N v0 v1 v2 v3 v4 v5 v6 ((fun w0 w1 w2 => Kn58 (mkSt [(0, .one (.int .i64 w0)), (1, .one (.sl false 41 w1)), (5, .one (.nl)), (6, .one (.int .i64 w2))] [] : St D0))) ((fun w0 w1 w2 w3 w4 w5 w6 => Kn14922 (mkSt [(0, .one (.int .i64 w0)), (1, .one (.sl false 41 w1)), (5, .one (.nl)), (6, .one (.int .i64 w2)), (7, .one (.bool w3)), (16, .one (.sl false 41 w4)), (17, .one (.int .i64 w5)), (18, .one (.int .i64 w6))] [] : St D0))) ((fun w0 w1 w2 w3 => Kn58 (mkSt [(0, .one (.int .i64 w0)), (1, .one (.sl false 41 w1)), (5, .one (.sl true 3 w2)), (6, .one (.int .i64 w3))] [] : St D0))) := by
  unfold zq79.d2; exact (zq79.o2.run N (zq79.B233 N Kn58) Kn58 Kn14922 v0 v1 v2 v3 v4 v5 v6).trans (congr (congr (congr rfl rfl) (funext fun w0 => funext fun w1 => funext fun w2 => funext fun w3 => zq79.d3.run N Kn58 w0 w1 w2 w3)) (funext fun w0 => funext fun w1 => funext fun w2 => zq79.d4.run N Kn58 w0 w1 w2))
def zq79.o6 (N : Nat) (v0 : Int) (v1 : List S41) (v2 : List Int) (v3 : Int) (v4 : Bool) (v5 : List S41) (v6 : Int) (v7 : Int) (c6 : Int → (List S41) → (List Int) → Int → Bool → (List S41) → Int → Int → Option zq79.R) (c3 : Int → (List S41) → (List Int) → Int → Option zq79.R) : Option zq79.R :=
 bif (decide (v7 < v6)) then
  bif (decide (0 ≤ v7)) then
   bif (decide (v7 < (v5.length : Int))) then
    (v5[(v7 : Int).toNat]?).bind fun x1 =>
    bif v4 then
     (zq81.g N v0 x1.f0 x1.f1 x1.f2 v3).bind fun r2 =>
     c6 v0 v1 v2 v3 r2 v5 v6 (w64 (v7 + 1))
    else
    c6 v0 v1 v2 v3 false v5 v6 (w64 (v7 + 1))
   else
   none
  else
  none
 else
 bif v4 then
  bif (Nat.blt (v2.length + ([v3] : List Int).length) 17592186044416) then
   c3 v0 v1 (v2 ++ ([v3] : List Int)) v3
  else
  none
 else
 c3 v0 v1 v2 v3
theorem zq79.o6.run (N : Nat) (Kb233 : St D0 → Option zq79.R) (Kn58 : St D0 → Option zq79.R) (Kn14922 : St D0 → Option zq79.R) (v0 : Int) (v1 : List S41) (v2 : List Int) (v3 : Int) (v4 : Bool) (v5 : List S41) (v6 : Int) (v7 : Int) : runC zq79.C (zq79.O N) N zq79.c29844 29844 (mkSt [(0, .one (.int .i64 v0)), (1, .one (.sl false 41 v1)), (5, .one (.sl true 3 v2)), (6, .one (.int .i64 v3)), (7, .one (.bool v4)), (16, .one (.sl false 41 v5)), (17, .one (.int .i64 v6)), (18, .one (.int .i64 v7))] [] : St D0) ((fun up => (onN (fun s => zq79.C.tidy 14922 s ((onN Kn14922 up) .normal)) (onN Kn14922 up))) (blockK 2 ((fun up => (onN (fun s => zq79.C.tidy 3730 s (fun s' => runC zq79.C (zq79.O N) N zq79.c3731 3731 s' up)) up)) (blockK 1 ((fun up => (onN (fun s => zq79.C.tidy 466 s Kb233) up)) ((fun up => (onN (fun s => zq79.C.tidy 58 s ((onN Kn58 up) .normal)) (onN Kn58 up))) (blockK 0 (onN (fun s => zq79.C.tidy 14 s (fun s' => runC zq79.C (zq79.O N) N zq79.c15 15 s' zq79.K0)) zq79.K0)))))))) = zq79.o6 N v0 v1 v2 v3 v4 v5 v6 v7 ((fun w0 w1 w2 w3 w4 w5 w6 w7 => Kn14922 (mkSt [(0, .one (.int .i64 w0)), (1, .one (.sl false 41 w1)), (5, .one (.sl true 3 w2)), (6, .one (.int .i64 w3)), (7, .one (.bool w4)), (16, .one (.sl false 41 w5)), (17, .one (.int .i64 w6)), (18, .one (.int .i64 w7))] [] : St D0))) ((fun w0 w1 w2 w3 => Kb233 (mkSt [(0, .one (.int .i64 w0)), (1, .one (.sl false 41 w1)), (5, .one (.sl true 3 w2)), (6, .one (.int .i64 w3))] [] : St D0))) := by kernel_rfl
def zq79.d6 (N : Nat) (v0 : Int) (v1 : List S41) (v2 : List Int) (v3 : Int) (v4 : Bool) (v5 : List S41) (v6 : Int) (v7 : Int) (c5 : Int → (List S41) → (List Int) → Int → Option zq79.R) (c6 : Int → (List S41) → (List Int) → Int → Bool → (List S41) → Int → Int → Option zq79.R) : Option zq79.R := zq79.o6 N v0 v1 v2 v3 v4 v5 v6 v7 c6 ((fun w0 w1 w2 w3 => zq79.d3 N w0 w1 w2 w3 c5))
theorem zq79.d6.run (N : Nat) (Kn58 : St D0 → Option zq79.R) (Kn14922 : St D0 → Option zq79.R) (v0 : Int) (v1 : List S41) (v2 : List Int) (v3 : Int) (v4 : Bool) (v5 : List S41) (v6 : Int) (v7 : Int) : runC zq79.C (zq79.O N) N zq79.c29844 29844 (mkSt [(0, .one (.int .i64 v0)), (1, .one (.sl false 41 v1)), (5, .one (.sl true 3 v2)), (6, .one (.int .i64 v3)), (7, .one (.bool v4)), (16, .one (.sl false 41 v5)), (17, .one (.int .i64 v6)), (18, .one (.int .i64 v7))] [] : St D0) (zq79.K29844 N Kn58 Kn14922) = zq79.d6 N v0 v1 v2 v3 v4 v5 v6 v7 ((fun w0 w1 w2 w3 => Kn58 (mkSt [(0, .one (.int .i64 w0)), (1, .one (.sl false 41 w1)), (5, .one (.sl true 3 w2)), (6, .one (.int .i64 w3))] [] : St D0))) ((fun w0 w1 w2 w3 w4 w5 w6 w7 => Kn14922 (mkSt [(0, .one (.int .i64 w0)), (1, .one (.sl false 41 w1)), (5, .one (.sl true 3 w2)), (6, .one (.int .i64 w3)), (7, .one (.bool w4)), (16, .one (.sl false 41 w5)), (17, .one (.int .i64 w6)), (18, .one (.int .i64 w7))] [] : St D0))) := by
  unfold zq79.d6; exact (zq79.o6.run N (zq79.B233 N Kn58) Kn58 Kn14922 v0 v1 v2 v3 v4 v5 v6 v7).trans (congr (congr rfl rfl) (funext fun w0 => funext fun w1 => funext fun w2 => funext fun w3 => zq79.d3.run N Kn58 w0 w1 w2 w3))
def zq79.K14922 (N : Nat) (Kn58 : St D0 → Option zq79.R) : Ex → St D0 → Option zq79.R := (blockK 2 ((fun up => (onN (fun s => zq79.C.tidy 3730 s (fun s' => runC zq79.C (zq79.O N) N zq79.c3731 3731 s' up)) up)) (blockK 1 ((fun up => (onN (fun s => zq79.C.tidy 466 s (zq79.B233 N Kn58)) up)) ((fun up => (onN (fun s => zq79.C.tidy 58 s ((onN Kn58 up) .normal)) (onN Kn58 up))) (blockK 0 (onN (fun s => zq79.C.tidy 14 s (fun s' => runC zq79.C (zq79.O N) N zq79.c15 15 s' zq79.K0)) zq79.K0)))))))
mutual
def zq79.l2 (N : Nat) : Nat → Int → (List S41) → Int → Bool → (List S41) → Int → Int → (Int → (List S41) → Int → Option zq79.R) → (Int → (List S41) → (List Int) → Int → Option zq79.R) → Option zq79.R
  | 0, _, _, _, _, _, _, _, _, _ => none
  | n + 1, v0, v1, v2, v3, v4, v5, v6, c1, c5 => zq79.d2 N v0 v1 v2 v3 v4 v5 v6 c1 ((fun w0 w1 w2 w3 w4 w5 w6 => zq79.l2 N n w0 w1 w2 w3 w4 w5 w6 c1 c5)) c5
def zq79.l6 (N : Nat) : Nat → Int → (List S41) → (List Int) → Int → Bool → (List S41) → Int → Int → (Int → (List S41) → Int → Option zq79.R) → (Int → (List S41) → (List Int) → Int → Option zq79.R) → Option zq79.R
  | 0, _, _, _, _, _, _, _, _, _, _ => none
  | n + 1, v0, v1, v2, v3, v4, v5, v6, v7, c1, c5 => zq79.d6 N v0 v1 v2 v3 v4 v5 v6 v7 c5 ((fun w0 w1 w2 w3 w4 w5 w6 w7 => zq79.l6 N n w0 w1 w2 w3 w4 w5 w6 w7 c1 c5))
end
theorem zq79.loop14922 (N : Nat) (Kn58 : St D0 → Option zq79.R) : ∀ n, (∀ (v0 : Int) (v1 : List S41) (v2 : Int) (v3 : Bool) (v4 : List S41) (v5 : Int) (v6 : Int), iter (loopF zq79.C (zq79.O N) N zq79.c29844 14922) n (mkSt [(0, .one (.int .i64 v0)), (1, .one (.sl false 41 v1)), (5, .one (.nl)), (6, .one (.int .i64 v2)), (7, .one (.bool v3)), (16, .one (.sl false 41 v4)), (17, .one (.int .i64 v5)), (18, .one (.int .i64 v6))] [] : St D0) (zq79.K14922 N Kn58) = zq79.l2 N n v0 v1 v2 v3 v4 v5 v6 ((fun w0 w1 w2 => Kn58 (mkSt [(0, .one (.int .i64 w0)), (1, .one (.sl false 41 w1)), (5, .one (.nl)), (6, .one (.int .i64 w2))] [] : St D0))) ((fun w0 w1 w2 w3 => Kn58 (mkSt [(0, .one (.int .i64 w0)), (1, .one (.sl false 41 w1)), (5, .one (.sl true 3 w2)), (6, .one (.int .i64 w3))] [] : St D0)))) ∧ (∀ (v0 : Int) (v1 : List S41) (v2 : List Int) (v3 : Int) (v4 : Bool) (v5 : List S41) (v6 : Int) (v7 : Int), iter (loopF zq79.C (zq79.O N) N zq79.c29844 14922) n (mkSt [(0, .one (.int .i64 v0)), (1, .one (.sl false 41 v1)), (5, .one (.sl true 3 v2)), (6, .one (.int .i64 v3)), (7, .one (.bool v4)), (16, .one (.sl false 41 v5)), (17, .one (.int .i64 v6)), (18, .one (.int .i64 v7))] [] : St D0) (zq79.K14922 N Kn58) = zq79.l6 N n v0 v1 v2 v3 v4 v5 v6 v7 ((fun w0 w1 w2 => Kn58 (mkSt [(0, .one (.int .i64 w0)), (1, .one (.sl false 41 w1)), (5, .one (.nl)), (6, .one (.int .i64 w2))] [] : St D0))) ((fun w0 w1 w2 w3 => Kn58 (mkSt [(0, .one (.int .i64 w0)), (1, .one (.sl false 41 w1)), (5, .one (.sl true 3 w2)), (6, .one (.int .i64 w3))] [] : St D0))))
  | 0 => ⟨(fun v0 v1 v2 v3 v4 v5 v6 => rfl), (fun v0 v1 v2 v3 v4 v5 v6 v7 => rfl)⟩
  | n + 1 => ⟨(fun v0 v1 v2 v3 v4 v5 v6 => (zq79.d2.run N Kn58 (fun s => iter (loopF zq79.C (zq79.O N) N zq79.c29844 14922) n s (zq79.K14922 N Kn58)) v0 v1 v2 v3 v4 v5 v6).trans (show _ = zq79.d2 N v0 v1 v2 v3 v4 v5 v6 ((fun w0 w1 w2 => Kn58 (mkSt [(0, .one (.int .i64 w0)), (1, .one (.sl false 41 w1)), (5, .one (.nl)), (6, .one (.int .i64 w2))] [] : St D0))) ((fun w0 w1 w2 w3 w4 w5 w6 => zq79.l2 N n w0 w1 w2 w3 w4 w5 w6 ((fun w0 w1 w2 => Kn58 (mkSt [(0, .one (.int .i64 w0)), (1, .one (.sl false 41 w1)), (5, .one (.nl)), (6, .one (.int .i64 w2))] [] : St D0))) ((fun w0 w1 w2 w3 => Kn58 (mkSt [(0, .one (.int .i64 w0)), (1, .one (.sl false 41 w1)), (5, .one (.sl true 3 w2)), (6, .one (.int .i64 w3))] [] : St D0))))) ((fun w0 w1 w2 w3 => Kn58 (mkSt [(0, .one (.int .i64 w0)), (1, .one (.sl false 41 w1)), (5, .one (.sl true 3 w2)), (6, .one (.int .i64 w3))] [] : St D0))) from (congr (congr (congr rfl rfl) (funext fun w0 => funext fun w1 => funext fun w2 => funext fun w3 => funext fun w4 => funext fun w5 => funext fun w6 => (zq79.loop14922 N Kn58 n).1 w0 w1 w2 w3 w4 w5 w6)) rfl))), (fun v0 v1 v2 v3 v4 v5 v6 v7 => (zq79.d6.run N Kn58 (fun s => iter (loopF zq79.C (zq79.O N) N zq79.c29844 14922) n s (zq79.K14922 N Kn58)) v0 v1 v2 v3 v4 v5 v6 v7).trans (show _ = zq79.d6 N v0 v1 v2 v3 v4 v5 v6 v7 ((fun w0 w1 w2 w3 => Kn58 (mkSt [(0, .one (.int .i64 w0)), (1, .one (.sl false 41 w1)), (5, .one (.sl true 3 w2)), (6, .one (.int .i64 w3))] [] : St D0))) ((fun w0 w1 w2 w3 w4 w5 w6 w7 => zq79.l6 N n w0 w1 w2 w3 w4 w5 w6 w7 ((fun w0 w1 w2 => Kn58 (mkSt [(0, .one (.int .i64 w0)), (1, .one (.sl false 41 w1)), (5, .one (.nl)), (6, .one (.int .i64 w2))] [] : St D0))) ((fun w0 w1 w2 w3 => Kn58 (mkSt [(0, .one (.int .i64 w0)), (1, .one (.sl false 41 w1)), (5, .one (.sl true 3 w2)), (6, .one (.int .i64 w3))] [] : St D0))))) from (congr (congr rfl rfl) (funext fun w0 => funext fun w1 => funext fun w2 => funext fun w3 => funext fun w4 => funext fun w5 => funext fun w6 => funext fun w7 => (zq79.loop14922 N Kn58 n).2 w0 w1 w2 w3 w4 w5 w6 w7))))⟩
def zq79.K116 (N : Nat) (Kn58 : St D0 → Option zq79.R) : Ex → St D0 → Option zq79.R := ((fun up => (onN (fun s => zq79.C.tidy 58 s ((onN Kn58 up) .normal)) (onN Kn58 up))) (blockK 0 (onN (fun s => zq79.C.tidy 14 s (fun s' => runC zq79.C (zq79.O N) N zq79.c15 15 s' zq79.K0)) zq79.K0)))
def zq79.o1 (N : Nat) (v0 : Int) (v1 : List S41) (v2 : Int) (c2 : Int → (List S41) → Int → Bool → (List S41) → Int → Int → Option zq79.R) : Option zq79.R :=
 bif (decide (v2 < (w64 (60 * v0)))) then
  c2 v0 v1 v2 true v1 (v1.length : Int) 0
 else
 some (([] : List Int))
theorem zq79.o1.run (N : Nat) (Kn58 : St D0 → Option zq79.R) (H29844 : Code) (v0 : Int) (v1 : List S41) (v2 : Int) : runC zq79.C (zq79.O N) N (.seq zq79.c232 (.seq (.block 1 (.seq zq79.c1864 (.seq (.seq zq79.c7460 (.block 2 (.loop H29844))) zq79.c3731))) zq79.c467)) 116 (mkSt [(0, .one (.int .i64 v0)), (1, .one (.sl false 41 v1)), (5, .one (.nl)), (6, .one (.int .i64 v2))] [] : St D0) ((fun up => (onN (fun s => zq79.C.tidy 58 s ((onN Kn58 up) .normal)) (onN Kn58 up))) (blockK 0 (onN (fun s => zq79.C.tidy 14 s (fun s' => runC zq79.C (zq79.O N) N zq79.c15 15 s' zq79.K0)) zq79.K0))) = zq79.o1 N v0 v1 v2 ((fun w0 w1 w2 w3 w4 w5 w6 => iter (loopF zq79.C (zq79.O N) N H29844 14922) N (mkSt [(0, .one (.int .i64 w0)), (1, .one (.sl false 41 w1)), (5, .one (.nl)), (6, .one (.int .i64 w2)), (7, .one (.bool w3)), (16, .one (.sl false 41 w4)), (17, .one (.int .i64 w5)), (18, .one (.int .i64 w6))] [] : St D0) (blockK 2 ((fun up => (onN (fun s => zq79.C.tidy 3730 s (fun s' => runC zq79.C (zq79.O N) N zq79.c3731 3731 s' up)) up)) (blockK 1 ((fun up => (onN (fun s => zq79.C.tidy 466 s (fun s' => runC zq79.C (zq79.O N) N zq79.c467 467 s' up)) up)) ((fun up => (onN (fun s => zq79.C.tidy 58 s ((onN Kn58 up) .normal)) (onN Kn58 up))) (blockK 0 (onN (fun s => zq79.C.tidy 14 s (fun s' => runC zq79.C (zq79.O N) N zq79.c15 15 s' zq79.K0)) zq79.K0))))))))) := by kernel_rfl
def zq79.d1 (N : Nat) (v0 : Int) (v1 : List S41) (v2 : Int) (c1 : Int → (List S41) → Int → Option zq79.R) (c5 : Int → (List S41) → (List Int) → Int → Option zq79.R) : Option zq79.R := zq79.o1 N v0 v1 v2 ((fun w0 w1 w2 w3 w4 w5 w6 => zq79.l2 N N w0 w1 w2 w3 w4 w5 w6 c1 c5))
theorem zq79.c116_1 : zq79.c116 = (.seq zq79.c232 (.seq (.block 1 (.seq zq79.c1864 (.seq (.seq zq79.c7460 (.block 2 (.loop zq79.c29844))) zq79.c3731))) zq79.c467)) := by kernel_rfl
theorem zq79.d1.run (N : Nat) (Kn58 : St D0 → Option zq79.R) (v0 : Int) (v1 : List S41) (v2 : Int) : runC zq79.C (zq79.O N) N zq79.c116 116 (mkSt [(0, .one (.int .i64 v0)), (1, .one (.sl false 41 v1)), (5, .one (.nl)), (6, .one (.int .i64 v2))] [] : St D0) (zq79.K116 N Kn58) = zq79.d1 N v0 v1 v2 ((fun w0 w1 w2 => Kn58 (mkSt [(0, .one (.int .i64 w0)), (1, .one (.sl false 41 w1)), (5, .one (.nl)), (6, .one (.int .i64 w2))] [] : St D0))) ((fun w0 w1 w2 w3 => Kn58 (mkSt [(0, .one (.int .i64 w0)), (1, .one (.sl false 41 w1)), (5, .one (.sl true 3 w2)), (6, .one (.int .i64 w3))] [] : St D0))) := by
  rw [zq79.c116_1]; unfold zq79.d1; exact (zq79.o1.run N Kn58 zq79.c29844 v0 v1 v2).trans (congr rfl (funext fun w0 => funext fun w1 => funext fun w2 => funext fun w3 => funext fun w4 => funext fun w5 => funext fun w6 => (zq79.loop14922 N Kn58 N).1 w0 w1 w2 w3 w4 w5 w6))
def zq79.o5 (N : Nat) (v0 : Int) (v1 : List S41) (v2 : List Int) (v3 : Int) (c6 : Int → (List S41) → (List Int) → Int → Bool → (List S41) → Int → Int → Option zq79.R) : Option zq79.R :=
 bif (decide (v3 < (w64 (60 * v0)))) then
  c6 v0 v1 v2 v3 true v1 (v1.length : Int) 0
 else
 some (v2)
theorem zq79.o5.run (N : Nat) (Kn58 : St D0 → Option zq79.R) (H29844 : Code) (v0 : Int) (v1 : List S41) (v2 : List Int) (v3 : Int) : runC zq79.C (zq79.O N) N (.seq zq79.c232 (.seq (.block 1 (.seq zq79.c1864 (.seq (.seq zq79.c7460 (.block 2 (.loop H29844))) zq79.c3731))) zq79.c467)) 116 (mkSt [(0, .one (.int .i64 v0)), (1, .one (.sl false 41 v1)), (5, .one (.sl true 3 v2)), (6, .one (.int .i64 v3))] [] : St D0) ((fun up => (onN (fun s => zq79.C.tidy 58 s ((onN Kn58 up) .normal)) (onN Kn58 up))) (blockK 0 (onN (fun s => zq79.C.tidy 14 s (fun s' => runC zq79.C (zq79.O N) N zq79.c15 15 s' zq79.K0)) zq79.K0))) = zq79.o5 N v0 v1 v2 v3 ((fun w0 w1 w2 w3 w4 w5 w6 w7 => iter (loopF zq79.C (zq79.O N) N H29844 14922) N (mkSt [(0, .one (.int .i64 w0)), (1, .one (.sl false 41 w1)), (5, .one (.sl true 3 w2)), (6, .one (.int .i64 w3)), (7, .one (.bool w4)), (16, .one (.sl false 41 w5)), (17, .one (.int .i64 w6)), (18, .one (.int .i64 w7))] [] : St D0) (blockK 2 ((fun up => (onN (fun s => zq79.C.tidy 3730 s (fun s' => runC zq79.C (zq79.O N) N zq79.c3731 3731 s' up)) up)) (blockK 1 ((fun up => (onN (fun s => zq79.C.tidy 466 s (fun s' => runC zq79.C (zq79.O N) N zq79.c467 467 s' up)) up)) ((fun up => (onN (fun s => zq79.C.tidy 58 s ((onN Kn58 up) .normal)) (onN Kn58 up))) (blockK 0 (onN (fun s => zq79.C.tidy 14 s (fun s' => runC zq79.C (zq79.O N) N zq79.c15 15 s' zq79.K0)) zq79.K0))))))))) := by kernel_rfl
def zq79.d5 (N : Nat) (v0 : Int) (v1 : List S41) (v2 : List Int) (v3 : Int) (c1 : Int → (List S41) → Int → Option zq79.R) (c5 : Int → (List S41) → (List Int) → Int → Option zq79.R) : Option zq79.R := zq79.o5 N v0 v1 v2 v3 ((fun w0 w1 w2 w3 w4 w5 w6 w7 => zq79.l6 N N w0 w1 w2 w3 w4 w5 w6 w7 c1 c5))
theorem zq79.c116_5 : zq79.c116 = (.seq zq79.c232 (.seq (.block 1 (.seq zq79.c1864 (.seq (.seq zq79.c7460 (.block 2 (.loop zq79.c29844))) zq79.c3731))) zq79.c467)) := by kernel_rfl
theorem zq79.d5.run (N : Nat) (Kn58 : St D0 → Option zq79.R) (v0 : Int) (v1 : List S41) (v2 : List Int) (v3 : Int) : runC zq79.C (zq79.O N) N zq79.c116 116 (mkSt [(0, .one (.int .i64 v0)), (1, .one (.sl false 41 v1)), (5, .one (.sl true 3 v2)), (6, .one (.int .i64 v3))] [] : St D0) (zq79.K116 N Kn58) = zq79.d5 N v0 v1 v2 v3 ((fun w0 w1 w2 => Kn58 (mkSt [(0, .one (.int .i64 w0)), (1, .one (.sl false 41 w1)), (5, .one (.nl)), (6, .one (.int .i64 w2))] [] : St D0))) ((fun w0 w1 w2 w3 => Kn58 (mkSt [(0, .one (.int .i64 w0)), (1, .one (.sl false 41 w1)), (5, .one (.sl true 3 w2)), (6, .one (.int .i64 w3))] [] : St D0))) := by
  rw [zq79.c116_5]; unfold zq79.d5; exact (zq79.o5.run N Kn58 zq79.c29844 v0 v1 v2 v3).trans (congr rfl (funext fun w0 => funext fun w1 => funext fun w2 => funext fun w3 => funext fun w4 => funext fun w5 => funext fun w6 => funext fun w7 => (zq79.loop14922 N Kn58 N).2 w0 w1 w2 w3 w4 w5 w6 w7))
def zq79.K58 (N : Nat) : Ex → St D0 → Option zq79.R := (blockK 0 (onN (fun s => zq79.C.tidy 14 s (fun s' => runC zq79.C (zq79.O N) N zq79.c15 15 s' zq79.K0)) zq79.K0))
mutual
def zq79.l1 (N : Nat) : Nat → Int → (List S41) → Int → Option zq79.R
  | 0, _, _, _ => none
  | n + 1, v0, v1, v2 => zq79.d1 N v0 v1 v2 ((fun w0 w1 w2 => zq79.l1 N n w0 w1 w2)) ((fun w0 w1 w2 w3 => zq79.l5 N n w0 w1 w2 w3))
def zq79.l5 (N : Nat) : Nat → Int → (List S41) → (List Int) → Int → Option zq79.R
  | 0, _, _, _, _ => none
  | n + 1, v0, v1, v2, v3 => zq79.d5 N v0 v1 v2 v3 ((fun w0 w1 w2 => zq79.l1 N n w0 w1 w2)) ((fun w0 w1 w2 w3 => zq79.l5 N n w0 w1 w2 w3))
end
theorem zq79.loop58 (N : Nat) : ∀ n, (∀ (v0 : Int) (v1 : List S41) (v2 : Int), iter (loopF zq79.C (zq79.O N) N zq79.c116 58) n (mkSt [(0, .one (.int .i64 v0)), (1, .one (.sl false 41 v1)), (5, .one (.nl)), (6, .one (.int .i64 v2))] [] : St D0) (zq79.K58 N) = zq79.l1 N n v0 v1 v2) ∧ (∀ (v0 : Int) (v1 : List S41) (v2 : List Int) (v3 : Int), iter (loopF zq79.C (zq79.O N) N zq79.c116 58) n (mkSt [(0, .one (.int .i64 v0)), (1, .one (.sl false 41 v1)), (5, .one (.sl true 3 v2)), (6, .one (.int .i64 v3))] [] : St D0) (zq79.K58 N) = zq79.l5 N n v0 v1 v2 v3)
  | 0 => ⟨(fun v0 v1 v2 => rfl), (fun v0 v1 v2 v3 => rfl)⟩
  | n + 1 => ⟨(fun v0 v1 v2 => (zq79.d1.run N (fun s => iter (loopF zq79.C (zq79.O N) N zq79.c116 58) n s (zq79.K58 N)) v0 v1 v2).trans (show _ = zq79.d1 N v0 v1 v2 ((fun w0 w1 w2 => zq79.l1 N n w0 w1 w2)) ((fun w0 w1 w2 w3 => zq79.l5 N n w0 w1 w2 w3)) from (congr (congr rfl (funext fun w0 => funext fun w1 => funext fun w2 => (zq79.loop58 N n).1 w0 w1 w2)) (funext fun w0 => funext fun w1 => funext fun w2 => funext fun w3 => (zq79.loop58 N n).2 w0 w1 w2 w3)))), (fun v0 v1 v2 v3 => (zq79.d5.run N (fun s => iter (loopF zq79.C (zq79.O N) N zq79.c116 58) n s (zq79.K58 N)) v0 v1 v2 v3).trans (show _ = zq79.d5 N v0 v1 v2 v3 ((fun w0 w1 w2 => zq79.l1 N n w0 w1 w2)) ((fun w0 w1 w2 w3 => zq79.l5 N n w0 w1 w2 w3)) from (congr (congr rfl (funext fun w0 => funext fun w1 => funext fun w2 => (zq79.loop58 N n).1 w0 w1 w2)) (funext fun w0 => funext fun w1 => funext fun w2 => funext fun w3 => (zq79.loop58 N n).2 w0 w1 w2 w3))))⟩
def zq79.o0 (N : Nat) (a0 : Int) (a1 : List S41) (c1 : Int → (List S41) → Int → Option zq79.R) : Option zq79.R :=
 c1 a0 a1 0
theorem zq79.o0.run (N : Nat) (H116 : Code) (a0 : Int) (a1 : List S41) : runC zq79.C (zq79.O N) N (.seq zq79.c2 (.seq zq79.c6 (.seq (.seq zq79.c28 (.block 0 (.loop H116))) zq79.c15))) 1 (st0 [.one (.int .i64 a0), .one (.sl false 41 a1)] [] : St D0) zq79.K0 = zq79.o0 N a0 a1 ((fun w0 w1 w2 => iter (loopF zq79.C (zq79.O N) N H116 58) N (mkSt [(0, .one (.int .i64 w0)), (1, .one (.sl false 41 w1)), (5, .one (.nl)), (6, .one (.int .i64 w2))] [] : St D0) (blockK 0 (onN (fun s => zq79.C.tidy 14 s (fun s' => runC zq79.C (zq79.O N) N zq79.c15 15 s' zq79.K0)) zq79.K0)))) := by kernel_rfl
def zq79.g (N : Nat) (a0 : Int) (a1 : List S41) : Option zq79.R := zq79.o0 N a0 a1 ((fun w0 w1 w2 => zq79.l1 N N w0 w1 w2))
theorem zq79.c1_0 : zq79.c1 = (.seq zq79.c2 (.seq zq79.c6 (.seq (.seq zq79.c28 (.block 0 (.loop zq79.c116))) zq79.c15))) := by kernel_rfl
theorem zq79.g.run (N : Nat) (a0 : Int) (a1 : List S41) : runC zq79.C (zq79.O N) N zq79.c1 1 (st0 [.one (.int .i64 a0), .one (.sl false 41 a1)] [] : St D0) zq79.K0 = zq79.g N a0 a1 := by
  rw [zq79.c1_0]; unfold zq79.g; exact (zq79.o0.run N zq79.c116 a0 a1).trans (congr rfl (funext fun w0 => funext fun w1 => funext fun w2 => (zq79.loop58 N N).1 w0 w1 w2))
theorem zq79.good (N : Nat) (a0 : Int) (a1 : List S41) (r : zq79.R) (h : zq79.g N a0 a1 = some r) : Go.PM.Good Tryz.prog T0 40 [.one (.int .i64 a0), .one (.sl false 41 a1)] [] (zq79.sig.ret r) (zq79.sig.bs r) :=
  good_fn tabOk0 mixed0 zq79.sig (zq79.E N) Tryz.func40 (by kernel_rfl) (by kernel_rfl) 1074733811 0 0 [(58, [0, 1, 5, 6], []), (466, [0, 1, 5, 6], []), (14922, [0, 1, 5, 6, 7, 16, 17, 18], [])] 83905536 false [] [(false, [.own 3])] (by kernel_rfl) rfl rfl ((zq79.g.run N a0 a1).trans h)
def zq79.ent (N : Nat) : Ent Tryz.prog T0 := mkEnt 40 [(false, [.any]), (false, [.ro 41])] zq79.sig (fun t => zq79.g N t.1 t.2) (fun t r h => zq79.good N t.1 t.2 r h)
/-! ### zq86 -/
abbrev zq86.R : Type := Bool
abbrev zq86.sig : Sig := ⟨[(false, 1), (false, 1)], [], [.int .i64, .sl false 41], [(false, 1)], [], [.bool]⟩
def zq86.C : Cfg D0 := ⟨Tryz.prog, T0, 19, 0, 10, 0, [], 96, false, []⟩
def zq86.E (N : Nat) : List (Ent Tryz.prog T0) := [zq79.ent N]
def zq86.O (N : Nat) : Orc D0 zq86.R := orcOf (zq86.E N)
def zq86.K0 : Ex → St D0 → Option zq86.R := exitK zq86.C Tryz.f43.results.toList [(false, [.any])] (decOut zq86.sig)
def zq86.c1 : Code := codeAt (Tryz.f43.body.getD .skip) []
def zq86.o0 (N : Nat) (a0 : Int) (a1 : List S41) : Option zq86.R :=
 (zq79.g N a0 a1).bind fun r1 =>
 some (((r1.length : Int) == 1))
theorem zq86.o0.run (N : Nat) (a0 : Int) (a1 : List S41) : runC zq86.C (zq86.O N) N zq86.c1 1 (st0 [.one (.int .i64 a0), .one (.sl false 41 a1)] [] : St D0) zq86.K0 = zq86.o0 N a0 a1 := by kernel_rfl
def zq86.g (N : Nat) (a0 : Int) (a1 : List S41) : Option zq86.R := zq86.o0 N a0 a1
theorem zq86.g.run (N : Nat) (a0 : Int) (a1 : List S41) : runC zq86.C (zq86.O N) N zq86.c1 1 (st0 [.one (.int .i64 a0), .one (.sl false 41 a1)] [] : St D0) zq86.K0 = zq86.g N a0 a1 := by
  exact (zq86.o0.run N a0 a1).trans rfl
theorem zq86.good (N : Nat) (a0 : Int) (a1 : List S41) (r : zq86.R) (h : zq86.g N a0 a1 = some r) : Go.PM.Good Tryz.prog T0 43 [.one (.int .i64 a0), .one (.sl false 41 a1)] [] (zq86.sig.ret r) (zq86.sig.bs r) :=
  good_fn tabOk0 mixed0 zq86.sig (zq86.E N) Tryz.func43 (by kernel_rfl) (by kernel_rfl) 19 0 0 [] 96 false [] [(false, [.any])] (by kernel_rfl) rfl rfl ((zq86.g.run N a0 a1).trans h)
def zq86.ent (N : Nat) : Ent Tryz.prog T0 := mkEnt 43 [(false, [.any]), (false, [.ro 41])] zq86.sig (fun t => zq86.g N t.1 t.2) (fun t r h => zq86.good N t.1 t.2 r h)
/-! ### zq1 -/
abbrev zq1.R : Type := Int × Bool
abbrev zq1.sig : Sig := ⟨[(true, 2)], [], [.int .i64, .sl false 41], [(false, 1), (false, 1)], [], [.int .i64, .bool]⟩
def zq1.C : Cfg D0 := ⟨Tryz.prog, T0, 63, 0, 14, 0, [], 2048, false, []⟩
def zq1.E (N : Nat) : List (Ent Tryz.prog T0) := [zq17.ent N]
def zq1.O (N : Nat) : Orc D0 zq1.R := orcOf (zq1.E N)
def zq1.K0 : Ex → St D0 → Option zq1.R := exitK zq1.C Tryz.f7.results.toList [(false, [.any]), (false, [.any])] (decOut zq1.sig)
def zq1.c1 : Code := codeAt (Tryz.f7.body.getD .skip) []
def zq1.o0 (N : Nat) (a0_0 : Int) (a0_1 : List S41) : Option zq1.R :=
 (zq17.g N a0_0 a0_1).bind fun r1 =>
 some ((r1.1.length : Int), r1.2)
theorem zq1.o0.run (N : Nat) (a0_0 : Int) (a0_1 : List S41) : runC zq1.C (zq1.O N) N zq1.c1 1 (st0 [.agg [.int .i64 a0_0, .sl false 41 a0_1]] [] : St D0) zq1.K0 = zq1.o0 N a0_0 a0_1 := by kernel_rfl
def zq1.g (N : Nat) (a0_0 : Int) (a0_1 : List S41) : Option zq1.R := zq1.o0 N a0_0 a0_1
theorem zq1.g.run (N : Nat) (a0_0 : Int) (a0_1 : List S41) : runC zq1.C (zq1.O N) N zq1.c1 1 (st0 [.agg [.int .i64 a0_0, .sl false 41 a0_1]] [] : St D0) zq1.K0 = zq1.g N a0_0 a0_1 := by
  exact (zq1.o0.run N a0_0 a0_1).trans rfl
theorem zq1.good (N : Nat) (a0_0 : Int) (a0_1 : List S41) (r : zq1.R) (h : zq1.g N a0_0 a0_1 = some r) : Go.PM.Good Tryz.prog T0 7 [.agg [.int .i64 a0_0, .sl false 41 a0_1]] [] (zq1.sig.ret r) (zq1.sig.bs r) :=
  good_fn tabOk0 mixed0 zq1.sig (zq1.E N) Tryz.func7 (by kernel_rfl) (by kernel_rfl) 63 0 0 [] 2048 false [] [(false, [.any]), (false, [.any])] (by kernel_rfl) rfl rfl ((zq1.g.run N a0_0 a0_1).trans h)
def zq1.ent (N : Nat) : Ent Tryz.prog T0 := mkEnt 7 [(true, [.any, .ro 41])] zq1.sig (fun t => zq1.g N t.1 t.2) (fun t r h => zq1.good N t.1 t.2 r h)
/-! ### zq9 -/
abbrev zq9.R : Type := Bool × Bool
abbrev zq9.sig : Sig := ⟨[(true, 2)], [], [.int .i64, .sl false 41], [(false, 1), (false, 1)], [], [.bool, .bool]⟩
def zq9.C : Cfg D0 := ⟨Tryz.prog, T0, 63, 0, 14, 0, [], 2048, false, []⟩
def zq9.E (N : Nat) : List (Ent Tryz.prog T0) := [zq1.ent N]
def zq9.O (N : Nat) : Orc D0 zq9.R := orcOf (zq9.E N)
def zq9.K0 : Ex → St D0 → Option zq9.R := exitK zq9.C Tryz.f13.results.toList [(false, [.any]), (false, [.any])] (decOut zq9.sig)
def zq9.c1 : Code := codeAt (Tryz.f13.body.getD .skip) []
def zq9.o0 (N : Nat) (a0_0 : Int) (a0_1 : List S41) : Option zq9.R :=
 (zq1.g N a0_0 a0_1).bind fun r1 =>
 some ((r1.1 == 1), r1.2)
theorem zq9.o0.run (N : Nat) (a0_0 : Int) (a0_1 : List S41) : runC zq9.C (zq9.O N) N zq9.c1 1 (st0 [.agg [.int .i64 a0_0, .sl false 41 a0_1]] [] : St D0) zq9.K0 = zq9.o0 N a0_0 a0_1 := by kernel_rfl
def zq9.g (N : Nat) (a0_0 : Int) (a0_1 : List S41) : Option zq9.R := zq9.o0 N a0_0 a0_1
theorem zq9.g.run (N : Nat) (a0_0 : Int) (a0_1 : List S41) : runC zq9.C (zq9.O N) N zq9.c1 1 (st0 [.agg [.int .i64 a0_0, .sl false 41 a0_1]] [] : St D0) zq9.K0 = zq9.g N a0_0 a0_1 := by
  exact (zq9.o0.run N a0_0 a0_1).trans rfl
theorem zq9.good (N : Nat) (a0_0 : Int) (a0_1 : List S41) (r : zq9.R) (h : zq9.g N a0_0 a0_1 = some r) : Go.PM.Good Tryz.prog T0 13 [.agg [.int .i64 a0_0, .sl false 41 a0_1]] [] (zq9.sig.ret r) (zq9.sig.bs r) :=
  good_fn tabOk0 mixed0 zq9.sig (zq9.E N) Tryz.func13 (by kernel_rfl) (by kernel_rfl) 63 0 0 [] 2048 false [] [(false, [.any]), (false, [.any])] (by kernel_rfl) rfl rfl ((zq9.g.run N a0_0 a0_1).trans h)
def zq9.ent (N : Nat) : Ent Tryz.prog T0 := mkEnt 13 [(true, [.any, .ro 41])] zq9.sig (fun t => zq9.g N t.1 t.2) (fun t r h => zq9.good N t.1 t.2 r h)
end Go.Proofs.YtpeleommbipeaaaGreatDoor.M
namespace Go.Proofs.YtpeleommbipeaaaGreatDoor.M
open Go Go.PM Go.Proofs.YtpeleommbipeaaaGreatDoor.P
set_option linter.unusedVariables false
set_option maxRecDepth 100000
open Go.RowKit Go.Lib
/-! ### zq40 -/
abbrev zq40.R : Type := List S41
abbrev zq40.sig : Sig := ⟨[(false, 1)], [], [.sl false 41], [(false, 1)], [], [.sl true 41]⟩
set_option maxHeartbeats 2000000 in
set_option maxRecDepth 100000 in
theorem zq40.walk (ad : Addr) (n c : Nat) (news : List Value) (w : World) (hl : news.length = n * 3) (hn : n ≤ maxLen) (hbig : n * 24 ≤ 140737488355328) (hc : ∀ j u, news[j]? = some u → w.cell? (ad.add j) = some u) (h1 : ∀ u ∈ news, u.oneCell' = true) :
    Calls Tryz.prog 74 #[.slice (some ad) n c] w fun e w' => ∃ v', e = .returned v' ∧ w'.ownsRow w.heap.size 41 3 v' n news ∧ Go.RowKit.Below w.heap.size w w' := by
  have q22 : ∀ (w : World) (a : Option Addr) (n c n' c' : Nat), (binOp .eql 22 (.slice a n c) (.slice none n' c')).run Tryz.prog w = .ok (.bool a.isNone) w := fun w a n c n' c' => Lib.run_eql_slice_nil w _ _ a n c n' c' Tryz.underlying22
  have u22 : ∀ w, Sem.run Tryz.prog (underlying 22) w = .ok (TypeDesc.slice 41) w := run_underlying Tryz.underlying22
  have A : Aside (∀ j u, news[j]? = some u → w.cell? (ad.add j) = some u) := hc
  clear hc
  have HI : (Tryz.prog.info? 41).map (fun i => (i.zero, i.size, i.bytes)) = some (some (.agg #[(.int .i64 0), (.int .i64 0), (.int .i64 0)]), 3, 24) := by kernel_rfl
  obtain ⟨i0, hi, hz0, hz1, hz2⟩ := info_parts HI
  go_enter Tryz.func74, Tryz.ntmps74
  go_wp2_with (at_builtin; refine wpList_append_own _ rfl _ _ 22 rfl w.heap.size 41 i0 _ 3 24 Tryz.underlying22 hi hz0 hz1 hz2 rfl (by decide) _ _ _ rfl (World.ownsRow_made w #[] 0 (Nat.le_refl _) (Nat.zero_le _) (by simp)) ad n c news rfl ?qc1 ?qc2 ?qc3 ?qc4 ?qc5 ?qc6 ?_)
  case qc1 => exact hl
  case qc2 =>
    intro j u hj
    exact Lib.cell?_alloc_some _ (A.out j u hj)
  case qc3 => exact h1
  case qc4 => rw [Nat.zero_add]; exact hn
  case qc5 => rw [Nat.zero_add]; exact hbig
  case qc6 => simp
  intro v' w1 hown hgrow hnil
  go_wp2
  go_ret
  exact ⟨v', rfl, by simpa using hown, ((Below.refl _ w).alloc (Nat.le_refl _) _).grown hgrow (by simp) (by intro k hk; simp [Value.ownBlock] at hk; omega)⟩
set_option maxHeartbeats 1000000 in
theorem zq40.walk0 (n c : Nat) (w : World) : Calls Tryz.prog 74 #[.slice none n c] w fun e w' => e = .returned (.slice none 0 0) ∧ w' = w := by
  have q22 : ∀ (w : World) (a : Option Addr) (n c n' c' : Nat), (binOp .eql 22 (.slice a n c) (.slice none n' c')).run Tryz.prog w = .ok (.bool a.isNone) w := fun w a n c n' c' => Lib.run_eql_slice_nil w _ _ a n c n' c' Tryz.underlying22
  go_enter Tryz.func74, Tryz.ntmps74
  go_wp2
  go_ret
  exact ⟨rfl, rfl⟩

def zq40.g (N : Nat) (a0 : List S41) : Option zq40.R := bif Nat.ble (a0.length * 24) 140737488355328 then some a0 else none
theorem zq40.good (N : Nat) (a0 : List S41) (r : zq40.R) (h : zq40.g N a0 = some r) : Go.PM.Good Tryz.prog T0 74 [.one (.sl false 41 a0)] [] (zq40.sig.ret r) (zq40.sig.bs r) := by
  unfold zq40.g at h
  obtain ⟨h1, h2⟩ := bif_some h
  cases Option.some.inj h2
  exact good_clone tabOk0 41 24 ⟨_, Tryz.func74, by kernel_rfl, rfl⟩ (by show 0 < 3; omega) (by omega) (fun ad n c news w h1 h2 h3 h4 h5 => zq40.walk ad n c news w h1 h2 h3 h4 h5) zq40.walk0 a0 (Nat.le_of_ble_eq_true h1)
def zq40.ent (N : Nat) : Ent Tryz.prog T0 := mkEnt 74 [(false, [.ro 41])] zq40.sig (fun t => zq40.g N t) (fun t r h => zq40.good N t r h)
/-! ### zq32 -/
abbrev zq32.R : Type := List S41
abbrev zq32.sig : Sig := ⟨[(false, 1), (false, 1)], [], [.sl false 41, .int .i64], [(false, 1)], [], [.sl true 41]⟩
set_option maxHeartbeats 4000000 in
set_option maxRecDepth 100000 in
theorem zq32.del.walk (base g m c : Nat) (L : List Value) (i : Nat) (w : World) (H : w.ownsRow base 41 3 (.slice (some ⟨g, 0, none⟩) (m + 1) c) (m + 1) L) (hL : ∀ u ∈ L, u.oneCell' = true) (hi : i < m + 1) :
    Calls Tryz.prog 73 #[.slice (some ⟨g, 0, none⟩) (m + 1) c, .int .i64 i, .int .i64 ((i : Int) + 1)] w fun e w' =>
      e = .returned (.slice (some ⟨g, 0, none⟩) m c) ∧ w'.ownsRow base 41 3 (.slice (some ⟨g, 0, none⟩) m c) m (L.take (i * 3) ++ L.drop ((i + 1) * 3)) ∧ Below base w w' := by
  obtain ⟨hl, hown⟩ := H
  rcases hown with ⟨h, _⟩ | ⟨g', cap, cur, hv, hbg, hg, h3, h4, h5, h6⟩
  · cases h
  obtain ⟨rfl, rfl⟩ : g' = g ∧ cap = c := by simp at hv; exact ⟨hv.1.symm, hv.2.symm⟩
  clear hv
  have hcm : cap ≤ 9223372036854775807 := h4
  have HI : (Tryz.prog.info? 41).map (fun i => (i.zero, i.size, i.bytes)) = some (some (.agg #[(.int .i64 0), (.int .i64 0), (.int .i64 0)]), 3, 24) := by kernel_rfl
  obtain ⟨i0, hi0, hz0, hz1, hz2⟩ := info_parts HI
  have hu := Tryz.underlying22
  have hel : Tryz.prog.elem 22 = 41 := by simp [Program.elem, hu]
  have hii : ((i : Int) + 1).toNat = i + 1 := by omega
  have hto := cut1 (P := Tryz.prog) 22 41 .i64 hu hi0 (some ⟨g', 0, none⟩) (m + 1) cap i (by omega) (by omega) h3
  have hfrom := cut2 (P := Tryz.prog) 22 41 .i64 hu hi0 3 hz1 (some ⟨g', 0, none⟩) (m + 1) cap ((i : Int) + 1) (by omega) (by omega)
  simp only [Int.toNat_natCast] at hto
  simp only [hii] at hfrom
  have hne : ((i : Int) == (i : Int) + 1) = false := beq_eq_false_iff_ne.mpr (by omega)
  have hlen : (L.drop ((i + 1) * 3)).length = (m - i) * 3 := by rw [List.length_drop, hl]; omega
  have hcell : ∀ j u, L[j]? = some u → w.cell? ⟨g', j, none⟩ = some u := by
    intro j u hj
    rw [blkc hg, ← hj, ← h6, List.getElem?_take]
    have : j < L.length := (List.getElem?_eq_some_iff.1 hj).1
    rw [if_pos (by omega)]
    simp
  obtain ⟨A, hA, hsrc⟩ : ∃ A : Addr, (if cap = i + 1 then some (⟨g', 0, none⟩ : Addr) else Option.map (fun x => x.add ((i + 1) * 3)) (some (⟨g', 0, none⟩ : Addr))) = some A ∧ Aside (∀ t u, (L.drop ((i + 1) * 3))[t]? = some u → w.drew.cell? (A.add t) = some u) := by
    by_cases h : cap = i + 1
    · refine ⟨⟨g', 0, none⟩, by simp [h], fun t u hu => ?_⟩
      have h0 : (L.drop ((i + 1) * 3)).length = 0 := by rw [hlen]; omega
      rw [List.length_eq_zero_iff.1 h0] at hu
      simp at hu
    · refine ⟨⟨g', (i + 1) * 3, none⟩, by simp [h, Addr.add_lit], fun t u hu => ?_⟩
      rw [List.getElem?_drop] at hu
      rw [Addr.add_lit]
      exact hcell _ _ hu
  rw [hA] at hfrom
  have s1 : Aside ((L.drop ((i + 1) * 3)).length = (m - i) * 3) := hlen
  have s2 : Aside (∀ u ∈ L.drop ((i + 1) * 3), u.oneCell' = true) := fun u hu => hL u (List.mem_of_mem_drop hu)
  have s3 : Aside (∀ t, t < (L.drop ((i + 1) * 3)).length → (w.drew.cell? ⟨g', 0 + i * 3 + t, none⟩).isSome = true ∧ w.drew.frozen? ⟨g', 0 + i * 3 + t, none⟩ = false) := by
    intro t ht
    rw [hlen] at ht
    refine ⟨?_, ?_⟩
    · show (w.cell? ⟨g', 0 + i * 3 + t, none⟩).isSome = true
      rw [blkc hg, Array.getElem?_eq_getElem (by omega)]; rfl
    · show w.frozen? ⟨g', 0 + i * 3 + t, none⟩ = false
      exact blkf hg _
  obtain ⟨news, hnews⟩ : ∃ news, news = L.drop ((i + 1) * 3) := ⟨_, rfl⟩
  rw [← hnews] at s1 s2 s3 hsrc hlen
  obtain ⟨W1, hW1⟩ : ∃ W1, W1 = w.drew.setCells g' (0 + i * 3) news := ⟨_, rfl⟩
  obtain ⟨cur1, k1, k2, k3⟩ := setCells_list news (0 + i * 3) w.drew cur hg (by omega)
  rw [← hW1] at k1
  have hcl : ∀ ty, (Builtin.clear_ #[22] ty #[.slice (some ⟨g', m * 3, none⟩) 1 (cap - m)]).run Tryz.prog W1 = .ok (.tuple #[]) (W1.setCells g' (m * 3) [.int .i64 0, .int .i64 0, .int .i64 0]) := fun ty =>
    clear1 W1 22 41 ty (.agg #[(.int .i64 0), (.int .i64 0), (.int .i64 0)]) hu (fun W => by simp [zeroValue, typeInfo, hi0, hz0, Result.andThen]) (by simp [Value.cells, Value.oneCell']) g' (m * 3) _
      (fun j hj => by rw [blkc k1]; simp [Value.cells] at hj; rw [Array.getElem?_eq_getElem (by omega)]; rfl) (fun j _ => blkf k1 _)
  have hW : Aside (W1 = w.drew.setCells g' (0 + i * 3) news) := hW1
  have hB1 : Aside (Below base w W1) := by
    subst hW1
    exact belowc hbg news _ _ (Below.refl base w).drew
  obtain ⟨cur2, q1, q2, q3⟩ := setCells_list [.int .i64 0, .int .i64 0, .int .i64 0] (m * 3) W1 cur1 k1 (by simp; omega)
  have hfin : Aside ((W1.setCells g' (m * 3) [.int .i64 0, .int .i64 0, .int .i64 0]).ownsRow base 41 3 (.slice (some ⟨g', 0, none⟩) m cap) m (L.take (i * 3) ++ L.drop ((i + 1) * 3))) := by
    refine ⟨by rw [← hnews, List.length_append, List.length_take, hlen, hl]; omega, .inr ⟨g', cap, cur2, rfl, hbg, q1, by omega, h4, by rw [q2, k2, h5], ?_⟩⟩
    rw [q3, List.append_assoc, List.take_append_of_le_length (by simp; omega), List.take_take, Nat.min_self, k3, ← hnews]
    rw [List.append_assoc, Nat.zero_add]
    have e1 : cur.toList.take (i * 3) = L.take (i * 3) := by rw [← h6, List.take_take, Nat.min_eq_left (by omega)]
    rw [e1, ← List.append_assoc]
    rw [List.take_append_of_le_length (by rw [List.length_append, List.length_take, hlen, hl]; omega)]
    exact List.take_of_length_le (by rw [List.length_append, List.length_take, hlen, hl]; omega)
  have hB2 : Aside (Below base w (W1.setCells g' (m * 3) [.int .i64 0, .int .i64 0, .int .i64 0])) := belowc hbg _ _ _ hB1.out
  have hic : i ≤ cap := by omega
  have hms : m + 1 - (i + 1) = m - i := by omega
  rw [hms] at hfrom
  have hmi : i + (m - i) = m := by omega
  have mixed : Tryz.prog.follows .mixedOrders = true := mixed0
  clear hW1 hnews hlen hcell hl h6 hL hg k1 k2 k3 q1 q2 q3 hA h5 hel
  go_enter Tryz.func73, Tryz.ntmps73
  go_wp2_with fail
  go_region_law_o (refine step_append_room rfl (.tmp 22) (.tmp 25) 22 rfl 41 i0 3 hu hi0 hz1 g' 0 i cap (by simp [Act.eval, Act.put]) A (m - i) (cap - (i + 1)) news (by simp [Act.eval, Act.put]) s1.out hsrc.out s2.out (by omega) s3.out ?_; rw [← hW.out, hmi])
  go_wp2
  all_goals go_ret
  all_goals exact ⟨rfl, hfin.out, hB2.out⟩

set_option maxHeartbeats 4000000 in
set_option maxRecDepth 100000 in
theorem zq32.walk (ad : Addr) (m c : Nat) (L : List Value) (w : World) (i : Nat) (hi : i < m + 1) (hl : L.length = (m + 1) * 3) (hbig : (m + 1) * 24 ≤ 140737488355328) (hc : ∀ j u, L[j]? = some u → w.cell? (ad.add j) = some u) (h1 : ∀ u ∈ L, u.oneCell' = true) :
    Calls Tryz.prog 44 #[.slice (some ad) (m + 1) c, .int .i64 i] w fun e w' => ∃ v', e = .returned v' ∧ w'.ownsRow w.heap.size 41 3 v' m (L.take (i * 3) ++ L.drop ((i + 1) * 3)) ∧ Below w.heap.size w w' := by
  have hn : m + 1 ≤ maxLen := by unfold maxLen; omega
  have hi2 : (i : Int) + 1 ≤ 9223372036854775807 := by omega
  have HC : Aside (∀ j u, L[j]? = some u → w.cell? (ad.add j) = some u) := hc
  have H1 : Aside (∀ u ∈ L, u.oneCell' = true) := h1
  have HI : Aside (i < m + 1) := hi
  clear hc h1
  go_enter Tryz.func44, Tryz.ntmps44
  go_wp2_with (first | (go_at_call 74; refine (zq40.walk ad (m + 1) c L _ hl hn hbig HC.out H1.out).mono ?_; rintro e w1 ⟨v0, rfl, hR, hB⟩; obtain ⟨g, cp, rfl⟩ : ∃ g cp, v0 = .slice (some ⟨g, 0, none⟩) (m + 1) cp := (own_form hR); have HR : Aside (w1.ownsRow w.heap.size 41 3 (.slice (some ⟨g, 0, none⟩) (m + 1) cp) (m + 1) L) := hR; have HB : Aside (Below w.heap.size w w1) := hB; clear hR hB) | (go_at_call 73; refine (zq32.del.walk w.heap.size g m cp L i _ HR.out H1.out HI.out).mono ?_; rintro e w2 ⟨rfl, hR2, hB2⟩))
  go_ret
  exact ⟨_, rfl, hR2, HB.out.trans hB2⟩

theorem zq32.good0 (N : Nat) (a0 : List S41) (i : Nat) (hi : i < a0.length) (hb : Nat.ble (a0.length * 24) 140737488355328 = true) : Go.PM.Good Tryz.prog T0 44 [.one (.sl false 41 a0), .one (.int .i64 i)] [] (.one (.sl true 41 (a0.eraseIdx i))) [] := by
  have hlen : (a0.eraseIdx i).length = a0.length - 1 := by rw [List.length_eraseIdx, if_pos hi]
  refine Go.PM.good_row tabOk0 41 ⟨_, Tryz.func44, by kernel_rfl, rfl⟩ (by show 0 < 3; omega) [(i : Int)] a0 (a0.eraseIdx i) (fun L => L.take (i * 3) ++ L.drop ((i + 1) * 3)) (fun C L h => RowOf.erase (T := T0) (HT := tabOk0) h i hi) ?_
  intro A c L w hl hc hA hcell h1
  obtain ⟨m, hm⟩ : ∃ m, a0.length = m + 1 := ⟨a0.length - 1, by omega⟩
  cases A with
  | none => rw [hA rfl] at hi; simp at hi
  | some ad =>
    rw [hlen, hm]
    rw [hm] at hl hb hi
    exact zq32.walk ad m c L w i hi hl (Nat.le_of_ble_eq_true hb) (hcell ad rfl) h1
def zq32.g (N : Nat) (a0 : List S41) (a1 : Int) : Option zq32.R := bif decide (0 ≤ a1) then bif decide (a1 < (a0.length : Int)) then bif Nat.ble (a0.length * 24) 140737488355328 then some (a0.eraseIdx a1.toNat) else none else none else none
theorem zq32.good (N : Nat) (a0 : List S41) (a1 : Int) (r : zq32.R) (h : zq32.g N a0 a1 = some r) : Go.PM.Good Tryz.prog T0 44 [.one (.sl false 41 a0), .one (.int .i64 a1)] [] (zq32.sig.ret r) (zq32.sig.bs r) := by
  unfold zq32.g at h
  obtain ⟨h1, h⟩ := bif_some h
  obtain ⟨h2, h⟩ := bif_some h
  obtain ⟨h3, h⟩ := bif_some h
  cases Option.some.inj h
  have h1 := of_decide_eq_true h1
  have h2 := of_decide_eq_true h2
  have := zq32.good0 N a0 a1.toNat (by omega) h3
  rw [Int.toNat_of_nonneg h1] at this
  exact this
def zq32.ent (N : Nat) : Ent Tryz.prog T0 := mkEnt 44 [(false, [.ro 41]), (false, [.any])] zq32.sig (fun t => zq32.g N t.1 t.2) (fun t r h => zq32.good N t.1 t.2 r h)
end Go.Proofs.YtpeleommbipeaaaGreatDoor.M
namespace Go.Proofs.YtpeleommbipeaaaGreatDoor.M
open Go Go.PM Go.Proofs.YtpeleommbipeaaaGreatDoor.P
set_option linter.unusedVariables false
set_option maxRecDepth 100000
/-! ### zq88 -/
abbrev zq88.R : Type := List S41
abbrev zq88.sig : Sig := ⟨[(false, 1), (false, 1)], [], [.sl false 41, .int .i64], [(false, 1)], [], [.sl true 41]⟩
def zq88.C : Cfg D0 := ⟨Tryz.prog, T0, 19, 0, 15, 0, [], 3264, false, []⟩
def zq88.E (N : Nat) : List (Ent Tryz.prog T0) := []
def zq88.O (N : Nat) : Orc D0 zq88.R := orcOf (zq88.E N)
def zq88.K0 : Ex → St D0 → Option zq88.R := exitK zq88.C Tryz.f46.results.toList [(false, [.own 41])] (decOut zq88.sig)
def zq88.c1 : Code := codeAt (Tryz.f46.body.getD .skip) []
def zq88.o0 (N : Nat) (a0 : List S41) (a1 : Int) : Option zq88.R :=
 bif (decide (0 ≤ a1)) then
  bif (decide (a1 ≤ (a0.length : Int))) then
   bif (decide (0 ≤ a1)) then
    bif (Nat.blt (([] : List S41).length + ((a0.take (a1 : Int).toNat).drop (0 : Int).toNat).length) 5864062014805) then
     bif (decide (0 ≤ (a0.length : Int))) then
      bif (decide ((a0.length : Int) ≤ (a0.length : Int))) then
       bif (decide (0 ≤ (w64 (a1 + 1)))) then
        bif (decide ((w64 (a1 + 1)) ≤ (a0.length : Int))) then
         bif (Nat.blt ((([] : List S41) ++ ((a0.take (a1 : Int).toNat).drop (0 : Int).toNat)).length + ((a0.take ((a0.length : Int) : Int).toNat).drop ((w64 (a1 + 1)) : Int).toNat).length) 5864062014805) then
          some (((([] : List S41) ++ ((a0.take (a1 : Int).toNat).drop (0 : Int).toNat)) ++ ((a0.take ((a0.length : Int) : Int).toNat).drop ((w64 (a1 + 1)) : Int).toNat)))
         else
         none
        else
        none
       else
       none
      else
      none
     else
     none
    else
    none
   else
   none
  else
  none
 else
 none
theorem zq88.o0.run (N : Nat) (a0 : List S41) (a1 : Int) : runC zq88.C (zq88.O N) N zq88.c1 1 (st0 [.one (.sl false 41 a0), .one (.int .i64 a1)] [] : St D0) zq88.K0 = zq88.o0 N a0 a1 := by kernel_rfl
def zq88.g (N : Nat) (a0 : List S41) (a1 : Int) : Option zq88.R := zq88.o0 N a0 a1
theorem zq88.g.run (N : Nat) (a0 : List S41) (a1 : Int) : runC zq88.C (zq88.O N) N zq88.c1 1 (st0 [.one (.sl false 41 a0), .one (.int .i64 a1)] [] : St D0) zq88.K0 = zq88.g N a0 a1 := by
  exact (zq88.o0.run N a0 a1).trans rfl
theorem zq88.good (N : Nat) (a0 : List S41) (a1 : Int) (r : zq88.R) (h : zq88.g N a0 a1 = some r) : Go.PM.Good Tryz.prog T0 46 [.one (.sl false 41 a0), .one (.int .i64 a1)] [] (zq88.sig.ret r) (zq88.sig.bs r) :=
  good_fn tabOk0 mixed0 zq88.sig (zq88.E N) Tryz.func46 (by kernel_rfl) (by kernel_rfl) 19 0 0 [] 3264 false [] [(false, [.own 41])] (by kernel_rfl) rfl rfl ((zq88.g.run N a0 a1).trans h)
def zq88.ent (N : Nat) : Ent Tryz.prog T0 := mkEnt 46 [(false, [.ro 41]), (false, [.any])] zq88.sig (fun t => zq88.g N t.1 t.2) (fun t r h => zq88.good N t.1 t.2 r h)
/-! ### zq13 -/
abbrev zq13.R : Type := List Int × Bool
abbrev zq13.sig : Sig := ⟨[(true, 2)], [], [.int .i64, .sl false 41], [(false, 1), (false, 1)], [], [.sl true 3, .bool]⟩
def zq13.C : Cfg D0 := ⟨Tryz.prog, T0, 2149335295, 0, 38, 0, [(250, [1, 4, 6, 18, 19], [1])], 1140858880, false, []⟩
def zq13.E (N : Nat) : List (Ent Tryz.prog T0) := [zq1.ent N, zq32.ent N, zq27.ent N]
def zq13.O (N : Nat) : Orc D0 zq13.R := orcOf (zq13.E N)
def zq13.K0 : Ex → St D0 → Option zq13.R := exitK zq13.C Tryz.f15.results.toList [(false, [.own 3]), (false, [.any])] (decOut zq13.sig)
def zq13.c1 : Code := codeAt (Tryz.f15.body.getD .skip) []
def zq13.c2 : Code := codeAt (Tryz.f15.body.getD .skip) [false]
def zq13.c6 : Code := codeAt (Tryz.f15.body.getD .skip) [true, false]
def zq13.c14 : Code := codeAt (Tryz.f15.body.getD .skip) [true, true, false]
def zq13.c30 : Code := codeAt (Tryz.f15.body.getD .skip) [true, true, true, false]
def zq13.c63 : Code := codeAt (Tryz.f15.body.getD .skip) [true, true, true, true, true]
def zq13.c124 : Code := codeAt (Tryz.f15.body.getD .skip) [true, true, true, true, false, false]
def zq13.c500 : Code := codeAt (Tryz.f15.body.getD .skip) [true, true, true, true, false, true, false, false]
def zq13.K500 (N : Nat) (Kn250 : St D0 → Option zq13.R) : Ex → St D0 → Option zq13.R := ((fun up => (onN (fun s => zq13.C.tidy 250 s ((onN Kn250 up) .normal)) (onN Kn250 up))) (blockK 0 (onN (fun s => zq13.C.tidy 62 s (fun s' => runC zq13.C (zq13.O N) N zq13.c63 63 s' zq13.K0)) zq13.K0)))
def zq13.o1 (N : Nat) (v0 : Int) (v1 : List Int) (v2 : Int) (v3 : Int) (v4 : Int) (v5 : List S41) (c1 : Int → (List Int) → Int → Int → Int → (List S41) → Option zq13.R) : Option zq13.R :=
 bif (decide (v3 < v2)) then
  (zq32.g N v5 v3).bind fun r1 =>
  (zq27.g N v4 r1).bind fun r2 =>
  bif ((r2.length : Int) == v0) then
   bif (Nat.blt (v1.length + ([v3] : List Int).length) 17592186044416) then
    c1 v0 (v1 ++ ([v3] : List Int)) v2 (w64 (v3 + 1)) v4 v5
   else
   none
  else
  c1 v0 v1 v2 (w64 (v3 + 1)) v4 v5
 else
 some (v1, true)
theorem zq13.o1.run (N : Nat) (Kn250 : St D0 → Option zq13.R) (v0 : Int) (v1 : List Int) (v2 : Int) (v3 : Int) (v4 : Int) (v5 : List S41) : runC zq13.C (zq13.O N) N zq13.c500 500 (mkSt [(1, .one (.ptr 1 0)), (4, .one (.int .i64 v0)), (6, .one (.sl true 3 v1)), (18, .one (.int .i64 v2)), (19, .one (.int .i64 v3))] [(1, some (24, [.int .i64 v4, .sl false 41 v5]))] : St D0) ((fun up => (onN (fun s => zq13.C.tidy 250 s ((onN Kn250 up) .normal)) (onN Kn250 up))) (blockK 0 (onN (fun s => zq13.C.tidy 62 s (fun s' => runC zq13.C (zq13.O N) N zq13.c63 63 s' zq13.K0)) zq13.K0))) = zq13.o1 N v0 v1 v2 v3 v4 v5 ((fun w0 w1 w2 w3 w4 w5 => Kn250 (mkSt [(1, .one (.ptr 1 0)), (4, .one (.int .i64 w0)), (6, .one (.sl true 3 w1)), (18, .one (.int .i64 w2)), (19, .one (.int .i64 w3))] [(1, some (24, [.int .i64 w4, .sl false 41 w5]))] : St D0))) := by kernel_rfl
def zq13.d1 (N : Nat) (v0 : Int) (v1 : List Int) (v2 : Int) (v3 : Int) (v4 : Int) (v5 : List S41) (c1 : Int → (List Int) → Int → Int → Int → (List S41) → Option zq13.R) : Option zq13.R := zq13.o1 N v0 v1 v2 v3 v4 v5 c1
theorem zq13.d1.run (N : Nat) (Kn250 : St D0 → Option zq13.R) (v0 : Int) (v1 : List Int) (v2 : Int) (v3 : Int) (v4 : Int) (v5 : List S41) : runC zq13.C (zq13.O N) N zq13.c500 500 (mkSt [(1, .one (.ptr 1 0)), (4, .one (.int .i64 v0)), (6, .one (.sl true 3 v1)), (18, .one (.int .i64 v2)), (19, .one (.int .i64 v3))] [(1, some (24, [.int .i64 v4, .sl false 41 v5]))] : St D0) (zq13.K500 N Kn250) = zq13.d1 N v0 v1 v2 v3 v4 v5 ((fun w0 w1 w2 w3 w4 w5 => Kn250 (mkSt [(1, .one (.ptr 1 0)), (4, .one (.int .i64 w0)), (6, .one (.sl true 3 w1)), (18, .one (.int .i64 w2)), (19, .one (.int .i64 w3))] [(1, some (24, [.int .i64 w4, .sl false 41 w5]))] : St D0))) := by
  exact (zq13.o1.run N Kn250 v0 v1 v2 v3 v4 v5).trans rfl
def zq13.K250 (N : Nat) : Ex → St D0 → Option zq13.R := (blockK 0 (onN (fun s => zq13.C.tidy 62 s (fun s' => runC zq13.C (zq13.O N) N zq13.c63 63 s' zq13.K0)) zq13.K0))
def zq13.l1 (N : Nat) : Nat → Int → (List Int) → Int → Int → Int → (List S41) → Option zq13.R
  | 0, _, _, _, _, _, _ => none
  | n + 1, v0, v1, v2, v3, v4, v5 => zq13.d1 N v0 v1 v2 v3 v4 v5 ((fun w0 w1 w2 w3 w4 w5 => zq13.l1 N n w0 w1 w2 w3 w4 w5))
theorem zq13.loop250 (N : Nat) : ∀ n, (∀ (v0 : Int) (v1 : List Int) (v2 : Int) (v3 : Int) (v4 : Int) (v5 : List S41), iter (loopF zq13.C (zq13.O N) N zq13.c500 250) n (mkSt [(1, .one (.ptr 1 0)), (4, .one (.int .i64 v0)), (6, .one (.sl true 3 v1)), (18, .one (.int .i64 v2)), (19, .one (.int .i64 v3))] [(1, some (24, [.int .i64 v4, .sl false 41 v5]))] : St D0) (zq13.K250 N) = zq13.l1 N n v0 v1 v2 v3 v4 v5)
  | 0 => (fun v0 v1 v2 v3 v4 v5 => rfl)
  | n + 1 => (fun v0 v1 v2 v3 v4 v5 => (zq13.d1.run N (fun s => iter (loopF zq13.C (zq13.O N) N zq13.c500 250) n s (zq13.K250 N)) v0 v1 v2 v3 v4 v5).trans (show _ = zq13.d1 N v0 v1 v2 v3 v4 v5 ((fun w0 w1 w2 w3 w4 w5 => zq13.l1 N n w0 w1 w2 w3 w4 w5)) from (congr rfl (funext fun w0 => funext fun w1 => funext fun w2 => funext fun w3 => funext fun w4 => funext fun w5 => (zq13.loop250 N n) w0 w1 w2 w3 w4 w5))))
def zq13.o0 (N : Nat) (a0_0 : Int) (a0_1 : List S41) (c1 : Int → (List Int) → Int → Int → Int → (List S41) → Option zq13.R) : Option zq13.R :=
 (zq1.g N a0_0 a0_1).bind fun r1 =>
 bif (!r1.2) then
  some (([] : List Int), false)
 else
 c1 r1.1 ([] : List Int) (a0_1.length : Int) 0 a0_0 a0_1
theorem zq13.o0.run (N : Nat) (H500 : Code) (a0_0 : Int) (a0_1 : List S41) : runC zq13.C (zq13.O N) N (.seq zq13.c2 (.seq zq13.c6 (.seq zq13.c14 (.seq zq13.c30 (.seq (.seq zq13.c124 (.block 0 (.loop H500))) zq13.c63))))) 1 (st0 [.agg [.int .i64 a0_0, .sl false 41 a0_1]] [] : St D0) zq13.K0 = zq13.o0 N a0_0 a0_1 ((fun w0 w1 w2 w3 w4 w5 => iter (loopF zq13.C (zq13.O N) N H500 250) N (mkSt [(1, .one (.ptr 1 0)), (4, .one (.int .i64 w0)), (6, .one (.sl true 3 w1)), (18, .one (.int .i64 w2)), (19, .one (.int .i64 w3))] [(1, some (24, [.int .i64 w4, .sl false 41 w5]))] : St D0) (blockK 0 (onN (fun s => zq13.C.tidy 62 s (fun s' => runC zq13.C (zq13.O N) N zq13.c63 63 s' zq13.K0)) zq13.K0)))) := by kernel_rfl
def zq13.g (N : Nat) (a0_0 : Int) (a0_1 : List S41) : Option zq13.R := zq13.o0 N a0_0 a0_1 ((fun w0 w1 w2 w3 w4 w5 => zq13.l1 N N w0 w1 w2 w3 w4 w5))
theorem zq13.c1_0 : zq13.c1 = (.seq zq13.c2 (.seq zq13.c6 (.seq zq13.c14 (.seq zq13.c30 (.seq (.seq zq13.c124 (.block 0 (.loop zq13.c500))) zq13.c63))))) := by kernel_rfl
theorem zq13.g.run (N : Nat) (a0_0 : Int) (a0_1 : List S41) : runC zq13.C (zq13.O N) N zq13.c1 1 (st0 [.agg [.int .i64 a0_0, .sl false 41 a0_1]] [] : St D0) zq13.K0 = zq13.g N a0_0 a0_1 := by
  rw [zq13.c1_0]; unfold zq13.g; exact (zq13.o0.run N zq13.c500 a0_0 a0_1).trans (congr rfl (funext fun w0 => funext fun w1 => funext fun w2 => funext fun w3 => funext fun w4 => funext fun w5 => (zq13.loop250 N N) w0 w1 w2 w3 w4 w5))
theorem zq13.good (N : Nat) (a0_0 : Int) (a0_1 : List S41) (r : zq13.R) (h : zq13.g N a0_0 a0_1 = some r) : Go.PM.Good Tryz.prog T0 15 [.agg [.int .i64 a0_0, .sl false 41 a0_1]] [] (zq13.sig.ret r) (zq13.sig.bs r) :=
  good_fn tabOk0 mixed0 zq13.sig (zq13.E N) Tryz.func15 (by kernel_rfl) (by kernel_rfl) 2149335295 0 0 [(250, [1, 4, 6, 18, 19], [1])] 1140858880 false [] [(false, [.own 3]), (false, [.any])] (by kernel_rfl) rfl rfl ((zq13.g.run N a0_0 a0_1).trans h)
def zq13.ent (N : Nat) : Ent Tryz.prog T0 := mkEnt 15 [(true, [.any, .ro 41])] zq13.sig (fun t => zq13.g N t.1 t.2) (fun t r h => zq13.good N t.1 t.2 r h)
/-! ### zq3 -/
abbrev zq3.R : Type := Int × List S41 × Bool
abbrev zq3.sig : Sig := ⟨[(true, 2), (false, 1)], [], [.int .i64, .sl false 41, .int .i64], [(true, 2), (false, 1)], [], [.int .i64, .sl false 41, .bool]⟩
def zq3.C : Cfg D0 := ⟨Tryz.prog, T0, 131127, 0, 26, 0, [(12, [1, 2, 4, 17], [2, 4])], 8389632, false, []⟩
def zq3.E (N : Nat) : List (Ent Tryz.prog T0) := [zq7.ent N, zq31.ent N, zq32.ent N]
def zq3.O (N : Nat) : Orc D0 zq3.R := orcOf (zq3.E N)
def zq3.K0 : Ex → St D0 → Option zq3.R := exitK zq3.C Tryz.f31.results.toList [(true, [.any, .ro 41]), (false, [.any])] (decOut zq3.sig)
def zq3.c1 : Code := codeAt (Tryz.f31.body.getD .skip) []
def zq3.c2 : Code := codeAt (Tryz.f31.body.getD .skip) [false]
def zq3.c7 : Code := codeAt (Tryz.f31.body.getD .skip) [true, true]
def zq3.c12 : Code := codeAt (Tryz.f31.body.getD .skip) [true, false, false]
def zq3.c13 : Code := codeAt (Tryz.f31.body.getD .skip) [true, false, true]
def zq3.K13 (N : Nat) : Ex → St D0 → Option zq3.R := (onN (fun s => zq3.C.tidy 6 s (fun s' => runC zq3.C (zq3.O N) N zq3.c7 7 s' zq3.K0)) zq3.K0)
def zq3.o1 (N : Nat) (v0 : Int) (v1 : Bool) (v2 : Int) (v3 : List S41) (v4 : Int) : Option zq3.R :=
 bif v1 then
  some (0, ([] : List S41), false)
 else
 (zq32.g N v3 v0).bind fun r1 =>
 some (v2, r1, true)
theorem zq3.o1.run (N : Nat) (v0 : Int) (v1 : Bool) (v2 : Int) (v3 : List S41) (v4 : Int) : runC zq3.C (zq3.O N) N zq3.c13 13 (mkSt [(1, .one (.int .i64 v0)), (2, .one (.ptr 2 0)), (4, .one (.ptr 4 0)), (17, .one (.bool v1))] [(2, some (24, [.int .i64 v2, .sl false 41 v3])), (4, some (24, [.int .i64 v4, .nl]))] : St D0) (onN (fun s => zq3.C.tidy 6 s (fun s' => runC zq3.C (zq3.O N) N zq3.c7 7 s' zq3.K0)) zq3.K0) = zq3.o1 N v0 v1 v2 v3 v4 := by kernel_rfl
def zq3.d1 (N : Nat) (v0 : Int) (v1 : Bool) (v2 : Int) (v3 : List S41) (v4 : Int) : Option zq3.R := zq3.o1 N v0 v1 v2 v3 v4
theorem zq3.d1.run (N : Nat) (v0 : Int) (v1 : Bool) (v2 : Int) (v3 : List S41) (v4 : Int) : runC zq3.C (zq3.O N) N zq3.c13 13 (mkSt [(1, .one (.int .i64 v0)), (2, .one (.ptr 2 0)), (4, .one (.ptr 4 0)), (17, .one (.bool v1))] [(2, some (24, [.int .i64 v2, .sl false 41 v3])), (4, some (24, [.int .i64 v4, .nl]))] : St D0) (zq3.K13 N) = zq3.d1 N v0 v1 v2 v3 v4 := by
  exact (zq3.o1.run N v0 v1 v2 v3 v4).trans rfl
def zq3.o0 (N : Nat) (a0_0 : Int) (a0_1 : List S41) (a1 : Int) (c1 : Int → Bool → Int → (List S41) → Int → Option zq3.R) : Option zq3.R :=
 (zq7.g N a0_0 a0_1).bind fun r1 =>
 bif (!r1) then
  c1 a1 true a0_0 a0_1 0
 else
 (zq31.g N a1 0 (w64 ((a0_1.length : Int) - 1))).bind fun r2 =>
 c1 a1 (!r2) a0_0 a0_1 0
theorem zq3.o0.run (N : Nat) (H13 : Code) (a0_0 : Int) (a0_1 : List S41) (a1 : Int) : runC zq3.C (zq3.O N) N (.seq zq3.c2 (.seq (.seq zq3.c12 H13) zq3.c7)) 1 (st0 [.agg [.int .i64 a0_0, .sl false 41 a0_1], .one (.int .i64 a1)] [] : St D0) zq3.K0 = zq3.o0 N a0_0 a0_1 a1 ((fun w0 w1 w2 w3 w4 => runC zq3.C (zq3.O N) N H13 13 (mkSt [(1, .one (.int .i64 w0)), (2, .one (.ptr 2 0)), (4, .one (.ptr 4 0)), (17, .one (.bool w1))] [(2, some (24, [.int .i64 w2, .sl false 41 w3])), (4, some (24, [.int .i64 w4, .nl]))] : St D0) (onN (fun s => zq3.C.tidy 6 s (fun s' => runC zq3.C (zq3.O N) N zq3.c7 7 s' zq3.K0)) zq3.K0))) := by kernel_rfl
def zq3.g (N : Nat) (a0_0 : Int) (a0_1 : List S41) (a1 : Int) : Option zq3.R := zq3.o0 N a0_0 a0_1 a1 ((fun w0 w1 w2 w3 w4 => zq3.d1 N w0 w1 w2 w3 w4))
theorem zq3.c1_0 : zq3.c1 = (.seq zq3.c2 (.seq (.seq zq3.c12 zq3.c13) zq3.c7)) := by kernel_rfl
theorem zq3.g.run (N : Nat) (a0_0 : Int) (a0_1 : List S41) (a1 : Int) : runC zq3.C (zq3.O N) N zq3.c1 1 (st0 [.agg [.int .i64 a0_0, .sl false 41 a0_1], .one (.int .i64 a1)] [] : St D0) zq3.K0 = zq3.g N a0_0 a0_1 a1 := by
  rw [zq3.c1_0]; unfold zq3.g; exact (zq3.o0.run N zq3.c13 a0_0 a0_1 a1).trans (congr rfl (funext fun w0 => funext fun w1 => funext fun w2 => funext fun w3 => funext fun w4 => zq3.d1.run N w0 w1 w2 w3 w4))
theorem zq3.good (N : Nat) (a0_0 : Int) (a0_1 : List S41) (a1 : Int) (r : zq3.R) (h : zq3.g N a0_0 a0_1 a1 = some r) : Go.PM.Good Tryz.prog T0 31 [.agg [.int .i64 a0_0, .sl false 41 a0_1], .one (.int .i64 a1)] [] (zq3.sig.ret r) (zq3.sig.bs r) :=
  good_fn tabOk0 mixed0 zq3.sig (zq3.E N) Tryz.func31 (by kernel_rfl) (by kernel_rfl) 131127 0 0 [(12, [1, 2, 4, 17], [2, 4])] 8389632 false [] [(true, [.any, .ro 41]), (false, [.any])] (by kernel_rfl) rfl rfl ((zq3.g.run N a0_0 a0_1 a1).trans h)
def zq3.ent (N : Nat) : Ent Tryz.prog T0 := mkEnt 31 [(true, [.any, .ro 41]), (false, [.any])] zq3.sig (fun t => zq3.g N t.1 t.2.1 t.2.2) (fun t r h => zq3.good N t.1 t.2.1 t.2.2 r h)
/-! ### zq37 -/
abbrev zq37.R : Type := Bool
abbrev zq37.sig : Sig := ⟨[(true, 2), (true, 2)], [], [.int .i64, .sl false 41, .int .i64, .sl false 41], [(false, 1)], [], [.bool]⟩
def zq37.C : Cfg D0 := ⟨Tryz.prog, T0, 68749361215, 0, 38, 0, [(12, [2, 3, 19], [2, 3]), (58, [2, 3, 22, 23], [2, 3])], 8858370048, false, []⟩
def zq37.E (N : Nat) : List (Ent Tryz.prog T0) := []
def zq37.O (N : Nat) : Orc D0 zq37.R := orcOf (zq37.E N)
def zq37.K0 : Ex → St D0 → Option zq37.R := exitK zq37.C Tryz.f33.results.toList [(false, [.any])] (decOut zq37.sig)
def zq37.c1 : Code := codeAt (Tryz.f33.body.getD .skip) []
def zq37.c2 : Code := codeAt (Tryz.f33.body.getD .skip) [false]
def zq37.c7 : Code := codeAt (Tryz.f33.body.getD .skip) [true, true]
def zq37.c12 : Code := codeAt (Tryz.f33.body.getD .skip) [true, false, false]
def zq37.c13 : Code := codeAt (Tryz.f33.body.getD .skip) [true, false, true]
def zq37.c15 : Code := codeAt (Tryz.f33.body.getD .skip) [true, true, true]
def zq37.c28 : Code := codeAt (Tryz.f33.body.getD .skip) [true, true, false, false]
def zq37.c116 : Code := codeAt (Tryz.f33.body.getD .skip) [true, true, false, true, false, false]
def zq37.K116 (N : Nat) (Kn58 : St D0 → Option zq37.R) : Ex → St D0 → Option zq37.R := ((fun up => (onN (fun s => zq37.C.tidy 58 s ((onN Kn58 up) .normal)) (onN Kn58 up))) (blockK 0 (onN (fun s => zq37.C.tidy 14 s (fun s' => runC zq37.C (zq37.O N) N zq37.c15 15 s' zq37.K0)) zq37.K0)))
def zq37.o2 (N : Nat) (v0 : Int) (v1 : Int) (v2 : Int) (v3 : List S41) (v4 : Int) (v5 : List S41) (c2 : Int → Int → Int → (List S41) → Int → (List S41) → Option zq37.R) : Option zq37.R :=
 bif (decide (v1 < v0)) then
  bif (decide (0 ≤ v1)) then
   bif (decide (v1 < (v3.length : Int))) then
    (v3[(v1 : Int).toNat]?).bind fun x1 =>
    bif (decide (0 ≤ v1)) then
     bif (decide (v1 < (v5.length : Int))) then
      (v5[(v1 : Int).toNat]?).bind fun x2 =>
      bif (!((x1.f0 == x2.f0) && ((x1.f1 == x2.f1) && ((x1.f2 == x2.f2) && true)))) then
       some (false)
      else
      c2 v0 (w64 (v1 + 1)) v2 v3 v4 v5
     else
     none
    else
    none
   else
   none
  else
  none
 else
 some (true)
theorem zq37.o2.run (N : Nat) (Kn58 : St D0 → Option zq37.R) (v0 : Int) (v1 : Int) (v2 : Int) (v3 : List S41) (v4 : Int) (v5 : List S41) : runC zq37.C (zq37.O N) N zq37.c116 116 (mkSt [(2, .one (.ptr 2 0)), (3, .one (.ptr 3 0)), (22, .one (.int .i64 v0)), (23, .one (.int .i64 v1))] [(2, some (24, [.int .i64 v2, .sl false 41 v3])), (3, some (24, [.int .i64 v4, .sl false 41 v5]))] : St D0) ((fun up => (onN (fun s => zq37.C.tidy 58 s ((onN Kn58 up) .normal)) (onN Kn58 up))) (blockK 0 (onN (fun s => zq37.C.tidy 14 s (fun s' => runC zq37.C (zq37.O N) N zq37.c15 15 s' zq37.K0)) zq37.K0))) = zq37.o2 N v0 v1 v2 v3 v4 v5 ((fun w0 w1 w2 w3 w4 w5 => Kn58 (mkSt [(2, .one (.ptr 2 0)), (3, .one (.ptr 3 0)), (22, .one (.int .i64 w0)), (23, .one (.int .i64 w1))] [(2, some (24, [.int .i64 w2, .sl false 41 w3])), (3, some (24, [.int .i64 w4, .sl false 41 w5]))] : St D0))) := by kernel_rfl
def zq37.d2 (N : Nat) (v0 : Int) (v1 : Int) (v2 : Int) (v3 : List S41) (v4 : Int) (v5 : List S41) (c2 : Int → Int → Int → (List S41) → Int → (List S41) → Option zq37.R) : Option zq37.R := zq37.o2 N v0 v1 v2 v3 v4 v5 c2
theorem zq37.d2.run (N : Nat) (Kn58 : St D0 → Option zq37.R) (v0 : Int) (v1 : Int) (v2 : Int) (v3 : List S41) (v4 : Int) (v5 : List S41) : runC zq37.C (zq37.O N) N zq37.c116 116 (mkSt [(2, .one (.ptr 2 0)), (3, .one (.ptr 3 0)), (22, .one (.int .i64 v0)), (23, .one (.int .i64 v1))] [(2, some (24, [.int .i64 v2, .sl false 41 v3])), (3, some (24, [.int .i64 v4, .sl false 41 v5]))] : St D0) (zq37.K116 N Kn58) = zq37.d2 N v0 v1 v2 v3 v4 v5 ((fun w0 w1 w2 w3 w4 w5 => Kn58 (mkSt [(2, .one (.ptr 2 0)), (3, .one (.ptr 3 0)), (22, .one (.int .i64 w0)), (23, .one (.int .i64 w1))] [(2, some (24, [.int .i64 w2, .sl false 41 w3])), (3, some (24, [.int .i64 w4, .sl false 41 w5]))] : St D0))) := by
  exact (zq37.o2.run N Kn58 v0 v1 v2 v3 v4 v5).trans rfl
def zq37.K58 (N : Nat) : Ex → St D0 → Option zq37.R := (blockK 0 (onN (fun s => zq37.C.tidy 14 s (fun s' => runC zq37.C (zq37.O N) N zq37.c15 15 s' zq37.K0)) zq37.K0))
def zq37.l2 (N : Nat) : Nat → Int → Int → Int → (List S41) → Int → (List S41) → Option zq37.R
  | 0, _, _, _, _, _, _ => none
  | n + 1, v0, v1, v2, v3, v4, v5 => zq37.d2 N v0 v1 v2 v3 v4 v5 ((fun w0 w1 w2 w3 w4 w5 => zq37.l2 N n w0 w1 w2 w3 w4 w5))
theorem zq37.loop58 (N : Nat) : ∀ n, (∀ (v0 : Int) (v1 : Int) (v2 : Int) (v3 : List S41) (v4 : Int) (v5 : List S41), iter (loopF zq37.C (zq37.O N) N zq37.c116 58) n (mkSt [(2, .one (.ptr 2 0)), (3, .one (.ptr 3 0)), (22, .one (.int .i64 v0)), (23, .one (.int .i64 v1))] [(2, some (24, [.int .i64 v2, .sl false 41 v3])), (3, some (24, [.int .i64 v4, .sl false 41 v5]))] : St D0) (zq37.K58 N) = zq37.l2 N n v0 v1 v2 v3 v4 v5)
  | 0 => (fun v0 v1 v2 v3 v4 v5 => rfl)
  | n + 1 => (fun v0 v1 v2 v3 v4 v5 => (zq37.d2.run N (fun s => iter (loopF zq37.C (zq37.O N) N zq37.c116 58) n s (zq37.K58 N)) v0 v1 v2 v3 v4 v5).trans (show _ = zq37.d2 N v0 v1 v2 v3 v4 v5 ((fun w0 w1 w2 w3 w4 w5 => zq37.l2 N n w0 w1 w2 w3 w4 w5)) from (congr rfl (funext fun w0 => funext fun w1 => funext fun w2 => funext fun w3 => funext fun w4 => funext fun w5 => (zq37.loop58 N n) w0 w1 w2 w3 w4 w5))))
def zq37.K13 (N : Nat) : Ex → St D0 → Option zq37.R := (onN (fun s => zq37.C.tidy 6 s (fun s' => runC zq37.C (zq37.O N) N zq37.c7 7 s' zq37.K0)) zq37.K0)
def zq37.o1 (N : Nat) (v0 : Bool) (v1 : Int) (v2 : List S41) (v3 : Int) (v4 : List S41) (c2 : Int → Int → Int → (List S41) → Int → (List S41) → Option zq37.R) : Option zq37.R :=
 bif v0 then
  some (false)
 else
 c2 (v2.length : Int) 0 v1 v2 v3 v4
theorem zq37.o1.run (N : Nat) (H116 : Code) (v0 : Bool) (v1 : Int) (v2 : List S41) (v3 : Int) (v4 : List S41) : runC zq37.C (zq37.O N) N zq37.c13 13 (mkSt [(2, .one (.ptr 2 0)), (3, .one (.ptr 3 0)), (19, .one (.bool v0))] [(2, some (24, [.int .i64 v1, .sl false 41 v2])), (3, some (24, [.int .i64 v3, .sl false 41 v4]))] : St D0) (onN (fun s => zq37.C.tidy 6 s (fun s' => runC zq37.C (zq37.O N) N (.seq (.seq zq37.c28 (.block 0 (.loop H116))) zq37.c15) 7 s' zq37.K0)) zq37.K0) = zq37.o1 N v0 v1 v2 v3 v4 ((fun w0 w1 w2 w3 w4 w5 => iter (loopF zq37.C (zq37.O N) N H116 58) N (mkSt [(2, .one (.ptr 2 0)), (3, .one (.ptr 3 0)), (22, .one (.int .i64 w0)), (23, .one (.int .i64 w1))] [(2, some (24, [.int .i64 w2, .sl false 41 w3])), (3, some (24, [.int .i64 w4, .sl false 41 w5]))] : St D0) (blockK 0 (onN (fun s => zq37.C.tidy 14 s (fun s' => runC zq37.C (zq37.O N) N zq37.c15 15 s' zq37.K0)) zq37.K0)))) := by kernel_rfl
def zq37.d1 (N : Nat) (v0 : Bool) (v1 : Int) (v2 : List S41) (v3 : Int) (v4 : List S41) : Option zq37.R := zq37.o1 N v0 v1 v2 v3 v4 ((fun w0 w1 w2 w3 w4 w5 => zq37.l2 N N w0 w1 w2 w3 w4 w5))
theorem zq37.d1.run (N : Nat) (v0 : Bool) (v1 : Int) (v2 : List S41) (v3 : Int) (v4 : List S41) : runC zq37.C (zq37.O N) N zq37.c13 13 (mkSt [(2, .one (.ptr 2 0)), (3, .one (.ptr 3 0)), (19, .one (.bool v0))] [(2, some (24, [.int .i64 v1, .sl false 41 v2])), (3, some (24, [.int .i64 v3, .sl false 41 v4]))] : St D0) (zq37.K13 N) = zq37.d1 N v0 v1 v2 v3 v4 := by
  unfold zq37.d1; exact (zq37.o1.run N zq37.c116 v0 v1 v2 v3 v4).trans (congr rfl (funext fun w0 => funext fun w1 => funext fun w2 => funext fun w3 => funext fun w4 => funext fun w5 => (zq37.loop58 N N) w0 w1 w2 w3 w4 w5))
def zq37.o0 (N : Nat) (a0_0 : Int) (a0_1 : List S41) (a1_0 : Int) (a1_1 : List S41) (c1 : Bool → Int → (List S41) → Int → (List S41) → Option zq37.R) : Option zq37.R :=
 bif (a0_0 != a1_0) then
  c1 true a0_0 a0_1 a1_0 a1_1
 else
 c1 ((a0_1.length : Int) != (a1_1.length : Int)) a0_0 a0_1 a1_0 a1_1
theorem zq37.o0.run (N : Nat) (H13 : Code) (a0_0 : Int) (a0_1 : List S41) (a1_0 : Int) (a1_1 : List S41) : runC zq37.C (zq37.O N) N (.seq zq37.c2 (.seq (.seq zq37.c12 H13) zq37.c7)) 1 (st0 [.agg [.int .i64 a0_0, .sl false 41 a0_1], .agg [.int .i64 a1_0, .sl false 41 a1_1]] [] : St D0) zq37.K0 = zq37.o0 N a0_0 a0_1 a1_0 a1_1 ((fun w0 w1 w2 w3 w4 => runC zq37.C (zq37.O N) N H13 13 (mkSt [(2, .one (.ptr 2 0)), (3, .one (.ptr 3 0)), (19, .one (.bool w0))] [(2, some (24, [.int .i64 w1, .sl false 41 w2])), (3, some (24, [.int .i64 w3, .sl false 41 w4]))] : St D0) (onN (fun s => zq37.C.tidy 6 s (fun s' => runC zq37.C (zq37.O N) N zq37.c7 7 s' zq37.K0)) zq37.K0))) := by kernel_rfl
def zq37.g (N : Nat) (a0_0 : Int) (a0_1 : List S41) (a1_0 : Int) (a1_1 : List S41) : Option zq37.R := zq37.o0 N a0_0 a0_1 a1_0 a1_1 ((fun w0 w1 w2 w3 w4 => zq37.d1 N w0 w1 w2 w3 w4))
theorem zq37.c1_0 : zq37.c1 = (.seq zq37.c2 (.seq (.seq zq37.c12 zq37.c13) zq37.c7)) := by kernel_rfl
theorem zq37.g.run (N : Nat) (a0_0 : Int) (a0_1 : List S41) (a1_0 : Int) (a1_1 : List S41) : runC zq37.C (zq37.O N) N zq37.c1 1 (st0 [.agg [.int .i64 a0_0, .sl false 41 a0_1], .agg [.int .i64 a1_0, .sl false 41 a1_1]] [] : St D0) zq37.K0 = zq37.g N a0_0 a0_1 a1_0 a1_1 := by
  rw [zq37.c1_0]; unfold zq37.g; exact (zq37.o0.run N zq37.c13 a0_0 a0_1 a1_0 a1_1).trans (congr rfl (funext fun w0 => funext fun w1 => funext fun w2 => funext fun w3 => funext fun w4 => zq37.d1.run N w0 w1 w2 w3 w4))
theorem zq37.good (N : Nat) (a0_0 : Int) (a0_1 : List S41) (a1_0 : Int) (a1_1 : List S41) (r : zq37.R) (h : zq37.g N a0_0 a0_1 a1_0 a1_1 = some r) : Go.PM.Good Tryz.prog T0 33 [.agg [.int .i64 a0_0, .sl false 41 a0_1], .agg [.int .i64 a1_0, .sl false 41 a1_1]] [] (zq37.sig.ret r) (zq37.sig.bs r) :=
  good_fn tabOk0 mixed0 zq37.sig (zq37.E N) Tryz.func33 (by kernel_rfl) (by kernel_rfl) 68749361215 0 0 [(12, [2, 3, 19], [2, 3]), (58, [2, 3, 22, 23], [2, 3])] 8858370048 false [] [(false, [.any])] (by kernel_rfl) rfl rfl ((zq37.g.run N a0_0 a0_1 a1_0 a1_1).trans h)
def zq37.ent (N : Nat) : Ent Tryz.prog T0 := mkEnt 33 [(true, [.any, .ro 41]), (true, [.any, .ro 41])] zq37.sig (fun t => zq37.g N t.1 t.2.1 t.2.2.1 t.2.2.2) (fun t r h => zq37.good N t.1 t.2.1 t.2.2.1 t.2.2.2 r h)
/-! ### zq36 -/
abbrev zq36.R : Type := Bool
abbrev zq36.sig : Sig := ⟨[(false, 1), (false, 1)], [], [.sl false 3, .int .i64], [(false, 1)], [], [.bool]⟩
def zq36.C : Cfg D0 := ⟨Tryz.prog, T0, 34771, 0, 17, 0, [(26, [1, 7, 8, 9], [])], 24576, false, []⟩
def zq36.E (N : Nat) : List (Ent Tryz.prog T0) := []
def zq36.O (N : Nat) : Orc D0 zq36.R := orcOf (zq36.E N)
def zq36.K0 : Ex → St D0 → Option zq36.R := exitK zq36.C Tryz.f28.results.toList [(false, [.any])] (decOut zq36.sig)
def zq36.c1 : Code := codeAt (Tryz.f28.body.getD .skip) []
def zq36.c2 : Code := codeAt (Tryz.f28.body.getD .skip) [false]
def zq36.c7 : Code := codeAt (Tryz.f28.body.getD .skip) [true, true]
def zq36.c12 : Code := codeAt (Tryz.f28.body.getD .skip) [true, false, false]
def zq36.c52 : Code := codeAt (Tryz.f28.body.getD .skip) [true, false, true, false, false]
def zq36.K52 (N : Nat) (Kn26 : St D0 → Option zq36.R) : Ex → St D0 → Option zq36.R := ((fun up => (onN (fun s => zq36.C.tidy 26 s ((onN Kn26 up) .normal)) (onN Kn26 up))) (blockK 0 (onN (fun s => zq36.C.tidy 6 s (fun s' => runC zq36.C (zq36.O N) N zq36.c7 7 s' zq36.K0)) zq36.K0)))
def zq36.o1 (N : Nat) (v0 : Int) (v1 : List Int) (v2 : Int) (v3 : Int) (c1 : Int → (List Int) → Int → Int → Option zq36.R) : Option zq36.R :=
 bif (decide (v3 < v2)) then
  bif (decide (0 ≤ v3)) then
   bif (decide (v3 < (v1.length : Int))) then
    (v1[(v3 : Int).toNat]?).bind fun x1 =>
    bif (x1 == v0) then
     some (true)
    else
    c1 v0 v1 v2 (w64 (v3 + 1))
   else
   none
  else
  none
 else
 some (false)
theorem zq36.o1.run (N : Nat) (Kn26 : St D0 → Option zq36.R) (v0 : Int) (v1 : List Int) (v2 : Int) (v3 : Int) : runC zq36.C (zq36.O N) N zq36.c52 52 (mkSt [(1, .one (.int .i64 v0)), (7, .one (.sl false 3 v1)), (8, .one (.int .i64 v2)), (9, .one (.int .i64 v3))] [] : St D0) ((fun up => (onN (fun s => zq36.C.tidy 26 s ((onN Kn26 up) .normal)) (onN Kn26 up))) (blockK 0 (onN (fun s => zq36.C.tidy 6 s (fun s' => runC zq36.C (zq36.O N) N zq36.c7 7 s' zq36.K0)) zq36.K0))) = zq36.o1 N v0 v1 v2 v3 ((fun w0 w1 w2 w3 => Kn26 (mkSt [(1, .one (.int .i64 w0)), (7, .one (.sl false 3 w1)), (8, .one (.int .i64 w2)), (9, .one (.int .i64 w3))] [] : St D0))) := by kernel_rfl
def zq36.d1 (N : Nat) (v0 : Int) (v1 : List Int) (v2 : Int) (v3 : Int) (c1 : Int → (List Int) → Int → Int → Option zq36.R) : Option zq36.R := zq36.o1 N v0 v1 v2 v3 c1
theorem zq36.d1.run (N : Nat) (Kn26 : St D0 → Option zq36.R) (v0 : Int) (v1 : List Int) (v2 : Int) (v3 : Int) : runC zq36.C (zq36.O N) N zq36.c52 52 (mkSt [(1, .one (.int .i64 v0)), (7, .one (.sl false 3 v1)), (8, .one (.int .i64 v2)), (9, .one (.int .i64 v3))] [] : St D0) (zq36.K52 N Kn26) = zq36.d1 N v0 v1 v2 v3 ((fun w0 w1 w2 w3 => Kn26 (mkSt [(1, .one (.int .i64 w0)), (7, .one (.sl false 3 w1)), (8, .one (.int .i64 w2)), (9, .one (.int .i64 w3))] [] : St D0))) := by
  exact (zq36.o1.run N Kn26 v0 v1 v2 v3).trans rfl
def zq36.K26 (N : Nat) : Ex → St D0 → Option zq36.R := (blockK 0 (onN (fun s => zq36.C.tidy 6 s (fun s' => runC zq36.C (zq36.O N) N zq36.c7 7 s' zq36.K0)) zq36.K0))
def zq36.l1 (N : Nat) : Nat → Int → (List Int) → Int → Int → Option zq36.R
  | 0, _, _, _, _ => none
  | n + 1, v0, v1, v2, v3 => zq36.d1 N v0 v1 v2 v3 ((fun w0 w1 w2 w3 => zq36.l1 N n w0 w1 w2 w3))
theorem zq36.loop26 (N : Nat) : ∀ n, (∀ (v0 : Int) (v1 : List Int) (v2 : Int) (v3 : Int), iter (loopF zq36.C (zq36.O N) N zq36.c52 26) n (mkSt [(1, .one (.int .i64 v0)), (7, .one (.sl false 3 v1)), (8, .one (.int .i64 v2)), (9, .one (.int .i64 v3))] [] : St D0) (zq36.K26 N) = zq36.l1 N n v0 v1 v2 v3)
  | 0 => (fun v0 v1 v2 v3 => rfl)
  | n + 1 => (fun v0 v1 v2 v3 => (zq36.d1.run N (fun s => iter (loopF zq36.C (zq36.O N) N zq36.c52 26) n s (zq36.K26 N)) v0 v1 v2 v3).trans (show _ = zq36.d1 N v0 v1 v2 v3 ((fun w0 w1 w2 w3 => zq36.l1 N n w0 w1 w2 w3)) from (congr rfl (funext fun w0 => funext fun w1 => funext fun w2 => funext fun w3 => (zq36.loop26 N n) w0 w1 w2 w3))))
def zq36.o0 (N : Nat) (a0 : List Int) (a1 : Int) (c1 : Int → (List Int) → Int → Int → Option zq36.R) : Option zq36.R :=
 c1 a1 a0 (a0.length : Int) 0
theorem zq36.o0.run (N : Nat) (H52 : Code) (a0 : List Int) (a1 : Int) : runC zq36.C (zq36.O N) N (.seq zq36.c2 (.seq (.seq zq36.c12 (.block 0 (.loop H52))) zq36.c7)) 1 (st0 [.one (.sl false 3 a0), .one (.int .i64 a1)] [] : St D0) zq36.K0 = zq36.o0 N a0 a1 ((fun w0 w1 w2 w3 => iter (loopF zq36.C (zq36.O N) N H52 26) N (mkSt [(1, .one (.int .i64 w0)), (7, .one (.sl false 3 w1)), (8, .one (.int .i64 w2)), (9, .one (.int .i64 w3))] [] : St D0) (blockK 0 (onN (fun s => zq36.C.tidy 6 s (fun s' => runC zq36.C (zq36.O N) N zq36.c7 7 s' zq36.K0)) zq36.K0)))) := by kernel_rfl
def zq36.g (N : Nat) (a0 : List Int) (a1 : Int) : Option zq36.R := zq36.o0 N a0 a1 ((fun w0 w1 w2 w3 => zq36.l1 N N w0 w1 w2 w3))
theorem zq36.c1_0 : zq36.c1 = (.seq zq36.c2 (.seq (.seq zq36.c12 (.block 0 (.loop zq36.c52))) zq36.c7)) := by kernel_rfl
theorem zq36.g.run (N : Nat) (a0 : List Int) (a1 : Int) : runC zq36.C (zq36.O N) N zq36.c1 1 (st0 [.one (.sl false 3 a0), .one (.int .i64 a1)] [] : St D0) zq36.K0 = zq36.g N a0 a1 := by
  rw [zq36.c1_0]; unfold zq36.g; exact (zq36.o0.run N zq36.c52 a0 a1).trans (congr rfl (funext fun w0 => funext fun w1 => funext fun w2 => funext fun w3 => (zq36.loop26 N N) w0 w1 w2 w3))
theorem zq36.good (N : Nat) (a0 : List Int) (a1 : Int) (r : zq36.R) (h : zq36.g N a0 a1 = some r) : Go.PM.Good Tryz.prog T0 28 [.one (.sl false 3 a0), .one (.int .i64 a1)] [] (zq36.sig.ret r) (zq36.sig.bs r) :=
  good_fn tabOk0 mixed0 zq36.sig (zq36.E N) Tryz.func28 (by kernel_rfl) (by kernel_rfl) 34771 0 0 [(26, [1, 7, 8, 9], [])] 24576 false [] [(false, [.any])] (by kernel_rfl) rfl rfl ((zq36.g.run N a0 a1).trans h)
def zq36.ent (N : Nat) : Ent Tryz.prog T0 := mkEnt 28 [(false, [.ro 3]), (false, [.any])] zq36.sig (fun t => zq36.g N t.1 t.2) (fun t r h => zq36.good N t.1 t.2 r h)
/-! ### zq84 -/
abbrev zq84.R : Type := Int × Int × Int
abbrev zq84.sig : Sig := ⟨[(false, 1), (false, 1), (false, 1), (false, 1)], [], [.int .i64, .int .i64, .int .i64, .int .i64], [(true, 3)], [], [.int .i64, .int .i64, .int .i64]⟩
def zq84.C : Cfg D0 := ⟨Tryz.prog, T0, 2535473949017871, 0, 62, 0, [], 459464076343388160, false, []⟩
def zq84.E (N : Nat) : List (Ent Tryz.prog T0) := [zq78.ent N, zq83.ent N, zq63.ent N]
def zq84.O (N : Nat) : Orc D0 zq84.R := orcOf (zq84.E N)
def zq84.K0 : Ex → St D0 → Option zq84.R := exitK zq84.C Tryz.f88.results.toList [(true, [.any, .any, .any])] (decOut zq84.sig)
def zq84.c1 : Code := codeAt (Tryz.f88.body.getD .skip) []
def zq84.o0 (N : Nat) (a0 : Int) (a1 : Int) (a2 : Int) (a3 : Int) : Option zq84.R :=
 bif (a1 == 0) then
  some (0, (w64 (Int.tdiv a3 60)), 0)
 else
 bif (a1 == 1) then
  bif (a2 == 0) then
   none
  else
  some (1, a2, (Int.tmod (Int.tmod a3 60) a2))
 else
 bif (a1 == 2) then
  some (2, (w64 ((w64 ((w64 ((w64 (Int.tdiv (w64 (Int.tdiv a3 60)) 10)) + (Int.tmod (w64 (Int.tdiv a3 60)) 10))) + (w64 (Int.tdiv (Int.tmod a3 60) 10)))) + (Int.tmod (Int.tmod a3 60) 10))), 0)
 else
 bif (a1 == 3) then
  (zq78.g N a0 a3).bind fun r1 =>
  bif (decide (r1 < (w64 (30 * a0)))) then
   some (3, 1, 0)
  else
  some (3, 0, 0)
 else
 bif (a1 == 4) then
  (zq83.g N a0 a3).bind fun r2 =>
  some (4, r2, 0)
 else
 (zq63.g N (w64 ((w64 (Int.tdiv a3 60)) - (Int.tmod a3 60)))).bind fun r3 =>
 some (5, r3, 0)
theorem zq84.o0.run (N : Nat) (a0 : Int) (a1 : Int) (a2 : Int) (a3 : Int) : runC zq84.C (zq84.O N) N zq84.c1 1 (st0 [.one (.int .i64 a0), .one (.int .i64 a1), .one (.int .i64 a2), .one (.int .i64 a3)] [] : St D0) zq84.K0 = zq84.o0 N a0 a1 a2 a3 := by kernel_rfl
def zq84.g (N : Nat) (a0 : Int) (a1 : Int) (a2 : Int) (a3 : Int) : Option zq84.R := zq84.o0 N a0 a1 a2 a3
theorem zq84.g.run (N : Nat) (a0 : Int) (a1 : Int) (a2 : Int) (a3 : Int) : runC zq84.C (zq84.O N) N zq84.c1 1 (st0 [.one (.int .i64 a0), .one (.int .i64 a1), .one (.int .i64 a2), .one (.int .i64 a3)] [] : St D0) zq84.K0 = zq84.g N a0 a1 a2 a3 := by
  exact (zq84.o0.run N a0 a1 a2 a3).trans rfl
theorem zq84.good (N : Nat) (a0 : Int) (a1 : Int) (a2 : Int) (a3 : Int) (r : zq84.R) (h : zq84.g N a0 a1 a2 a3 = some r) : Go.PM.Good Tryz.prog T0 88 [.one (.int .i64 a0), .one (.int .i64 a1), .one (.int .i64 a2), .one (.int .i64 a3)] [] (zq84.sig.ret r) (zq84.sig.bs r) :=
  good_fn tabOk0 mixed0 zq84.sig (zq84.E N) Tryz.func88 (by kernel_rfl) (by kernel_rfl) 2535473949017871 0 0 [] 459464076343388160 false [] [(true, [.any, .any, .any])] (by kernel_rfl) rfl rfl ((zq84.g.run N a0 a1 a2 a3).trans h)
def zq84.ent (N : Nat) : Ent Tryz.prog T0 := mkEnt 88 [(false, [.any]), (false, [.any]), (false, [.any]), (false, [.any])] zq84.sig (fun t => zq84.g N t.1 t.2.1 t.2.2.1 t.2.2.2) (fun t r h => zq84.good N t.1 t.2.1 t.2.2.1 t.2.2.2 r h)
/-! ### zq66 -/
abbrev zq66.R : Type := Int × List Int × Int × Int
abbrev zq66.sig : Sig := ⟨[(false, 1)], [(80, 3)], [.ptr 0 0, .sl false 5, .int .i64, .int .u64], [(false, 1)], [(80, 3)], [.int .i64, .sl false 5, .int .i64, .int .u64]⟩
def zq66.C : Cfg D0 := ⟨Tryz.prog, T0, 9007199254749197, 0, 62, 1, [(14, [0, 3], [0])], 36328151978361104, false, []⟩
def zq66.E (N : Nat) : List (Ent Tryz.prog T0) := []
def zq66.O (N : Nat) : Orc D0 zq66.R := orcOf (zq66.E N)
def zq66.K0 : Ex → St D0 → Option zq66.R := exitK zq66.C Tryz.f106.results.toList [(false, [.any])] (decOut zq66.sig)
def zq66.c1 : Code := codeAt (Tryz.f106.body.getD .skip) []
def zq66.c2 : Code := codeAt (Tryz.f106.body.getD .skip) [false]
def zq66.c6 : Code := codeAt (Tryz.f106.body.getD .skip) [true, false]
def zq66.c14 : Code := codeAt (Tryz.f106.body.getD .skip) [true, true, false]
def zq66.c15 : Code := codeAt (Tryz.f106.body.getD .skip) [true, true, true]
def zq66.K15 (N : Nat) : Ex → St D0 → Option zq66.R := zq66.K0
def zq66.o1 (N : Nat) (v0 : Int) (v1 : List Int) (v2 : Int) (v3 : Int) : Option zq66.R :=
 bif (decide ((w64 (v2 + 1)) ≤ (v1.length : Int))) then
  some (v0, v1, (w64 (v2 + 1)), ((IntKind.wrap .u64) (((IntKind.wrap .u64) (((IntKind.wrap .u64) (v3 * 6364136223846793005)) + ((IntKind.wrap .u64) v0))) + 1442695040888963407)))
 else
 some ((w64 (andK .u64 (shrK .u64 ((IntKind.wrap .u64) (((IntKind.wrap .u64) (((IntKind.wrap .u64) (v3 * 6364136223846793005)) + ((IntKind.wrap .u64) v0))) + 1442695040888963407)) 40) 255)), v1, (w64 (v2 + 1)), ((IntKind.wrap .u64) (((IntKind.wrap .u64) (((IntKind.wrap .u64) (v3 * 6364136223846793005)) + ((IntKind.wrap .u64) v0))) + 1442695040888963407)))
theorem zq66.o1.run (N : Nat) (v0 : Int) (v1 : List Int) (v2 : Int) (v3 : Int) : runC zq66.C (zq66.O N) N zq66.c15 15 (mkSt [(0, .one (.ptr 0 0)), (3, .one (.int .i64 v0))] [(0, some (80, [.sl false 5 v1, .int .i64 v2, .int .u64 v3]))] : St D0) zq66.K0 = zq66.o1 N v0 v1 v2 v3 := by kernel_rfl
def zq66.d1 (N : Nat) (v0 : Int) (v1 : List Int) (v2 : Int) (v3 : Int) : Option zq66.R := zq66.o1 N v0 v1 v2 v3
theorem zq66.d1.run (N : Nat) (v0 : Int) (v1 : List Int) (v2 : Int) (v3 : Int) : runC zq66.C (zq66.O N) N zq66.c15 15 (mkSt [(0, .one (.ptr 0 0)), (3, .one (.int .i64 v0))] [(0, some (80, [.sl false 5 v1, .int .i64 v2, .int .u64 v3]))] : St D0) (zq66.K15 N) = zq66.d1 N v0 v1 v2 v3 := by
  exact (zq66.o1.run N v0 v1 v2 v3).trans rfl
def zq66.o0 (N : Nat) (b0_0 : List Int) (b0_1 : Int) (b0_2 : Int) (c1 : Int → (List Int) → Int → Int → Option zq66.R) : Option zq66.R :=
 bif (decide (b0_1 < (b0_0.length : Int))) then
  bif (decide (0 ≤ b0_1)) then
   bif (decide (b0_1 < (b0_0.length : Int))) then
    (b0_0[(b0_1 : Int).toNat]?).bind fun x1 =>
    c1 (w64 x1) b0_0 b0_1 b0_2
   else
   none
  else
  none
 else
 c1 0 b0_0 b0_1 b0_2
theorem zq66.o0.run (N : Nat) (H15 : Code) (b0_0 : List Int) (b0_1 : Int) (b0_2 : Int) : runC zq66.C (zq66.O N) N (.seq zq66.c2 (.seq zq66.c6 (.seq zq66.c14 H15))) 1 (st0 [.one (.ptr 0 0)] [(80, [.sl false 5 b0_0, .int .i64 b0_1, .int .u64 b0_2])] : St D0) zq66.K0 = zq66.o0 N b0_0 b0_1 b0_2 ((fun w0 w1 w2 w3 => runC zq66.C (zq66.O N) N H15 15 (mkSt [(0, .one (.ptr 0 0)), (3, .one (.int .i64 w0))] [(0, some (80, [.sl false 5 w1, .int .i64 w2, .int .u64 w3]))] : St D0) zq66.K0)) := by kernel_rfl
def zq66.B7 (N : Nat) : St D0 → Option zq66.R := fun s' => runC zq66.C (zq66.O N) N zq66.c15 15 s' (zq66.K15 N)
def zq66.g (N : Nat) (b0_0 : List Int) (b0_1 : Int) (b0_2 : Int) : Option zq66.R := zq66.o0 N b0_0 b0_1 b0_2 ((fun w0 w1 w2 w3 => zq66.d1 N w0 w1 w2 w3))
theorem zq66.c1_0 : zq66.c1 = (.seq zq66.c2 (.seq zq66.c6 (.seq zq66.c14 zq66.c15))) := by kernel_rfl
theorem zq66.g.run (N : Nat) (b0_0 : List Int) (b0_1 : Int) (b0_2 : Int) : runC zq66.C (zq66.O N) N zq66.c1 1 (st0 [.one (.ptr 0 0)] [(80, [.sl false 5 b0_0, .int .i64 b0_1, .int .u64 b0_2])] : St D0) zq66.K0 = zq66.g N b0_0 b0_1 b0_2 := by
  rw [zq66.c1_0]; unfold zq66.g; exact (zq66.o0.run N zq66.c15 b0_0 b0_1 b0_2).trans (congr rfl (funext fun w0 => funext fun w1 => funext fun w2 => funext fun w3 => zq66.d1.run N w0 w1 w2 w3))
theorem zq66.good (N : Nat) (b0_0 : List Int) (b0_1 : Int) (b0_2 : Int) (r : zq66.R) (h : zq66.g N b0_0 b0_1 b0_2 = some r) : Go.PM.Good Tryz.prog T0 106 [.one (.ptr 0 0)] [(80, [.sl false 5 b0_0, .int .i64 b0_1, .int .u64 b0_2])] (zq66.sig.ret r) (zq66.sig.bs r) :=
  good_fn tabOk0 mixed0 zq66.sig (zq66.E N) Tryz.func106 (by kernel_rfl) (by kernel_rfl) 9007199254749197 0 1 [(14, [0, 3], [0])] 36328151978361104 false [] [(false, [.any])] (by kernel_rfl) rfl rfl ((zq66.g.run N b0_0 b0_1 b0_2).trans h)
def zq66.ent (N : Nat) : Ent Tryz.prog T0 := mkEnt 106 [(false, [.any])] zq66.sig (fun t => zq66.g N t.2.1 t.2.2.1 t.2.2.2) (fun t r h => zq66.good N t.2.1 t.2.2.1 t.2.2.2 r h)
/-! ### zq68 -/
abbrev zq68.R : Type := Int × List Int × Int × Int
abbrev zq68.sig : Sig := ⟨[(false, 1), (false, 1)], [(80, 3)], [.ptr 0 0, .int .i64, .sl false 5, .int .i64, .int .u64], [(false, 1)], [(80, 3)], [.int .i64, .sl false 5, .int .i64, .int .u64]⟩
def zq68.C : Cfg D0 := ⟨Tryz.prog, T0, 2227, 0, 20, 1, [(30, [1, 5], [0])], 415040, false, []⟩
def zq68.E (N : Nat) : List (Ent Tryz.prog T0) := [zq66.ent N]
def zq68.O (N : Nat) : Orc D0 zq68.R := orcOf (zq68.E N)
def zq68.K0 : Ex → St D0 → Option zq68.R := exitK zq68.C Tryz.f87.results.toList [(false, [.any])] (decOut zq68.sig)
def zq68.c1 : Code := codeAt (Tryz.f87.body.getD .skip) []
def zq68.c2 : Code := codeAt (Tryz.f87.body.getD .skip) [false]
def zq68.c6 : Code := codeAt (Tryz.f87.body.getD .skip) [true, false]
def zq68.c14 : Code := codeAt (Tryz.f87.body.getD .skip) [true, true, false]
def zq68.c30 : Code := codeAt (Tryz.f87.body.getD .skip) [true, true, true, false]
def zq68.c31 : Code := codeAt (Tryz.f87.body.getD .skip) [true, true, true, true]
def zq68.K31 (N : Nat) : Ex → St D0 → Option zq68.R := zq68.K0
def zq68.o1 (N : Nat) (v0 : Int) (v1 : Int) (v2 : List Int) (v3 : Int) (v4 : Int) : Option zq68.R :=
 bif (v0 == 0) then
  none
 else
 some ((Int.tmod v1 v0), v2, v3, v4)
theorem zq68.o1.run (N : Nat) (v0 : Int) (v1 : Int) (v2 : List Int) (v3 : Int) (v4 : Int) : runC zq68.C (zq68.O N) N zq68.c31 31 (mkSt [(1, .one (.int .i64 v0)), (5, .one (.int .i64 v1))] [(0, some (80, [.sl false 5 v2, .int .i64 v3, .int .u64 v4]))] : St D0) zq68.K0 = zq68.o1 N v0 v1 v2 v3 v4 := by kernel_rfl
def zq68.d1 (N : Nat) (v0 : Int) (v1 : Int) (v2 : List Int) (v3 : Int) (v4 : Int) : Option zq68.R := zq68.o1 N v0 v1 v2 v3 v4
theorem zq68.d1.run (N : Nat) (v0 : Int) (v1 : Int) (v2 : List Int) (v3 : Int) (v4 : Int) : runC zq68.C (zq68.O N) N zq68.c31 31 (mkSt [(1, .one (.int .i64 v0)), (5, .one (.int .i64 v1))] [(0, some (80, [.sl false 5 v2, .int .i64 v3, .int .u64 v4]))] : St D0) (zq68.K31 N) = zq68.d1 N v0 v1 v2 v3 v4 := by
  exact (zq68.o1.run N v0 v1 v2 v3 v4).trans rfl
def zq68.o0 (N : Nat) (a1 : Int) (b0_0 : List Int) (b0_1 : Int) (b0_2 : Int) (c1 : Int → Int → (List Int) → Int → Int → Option zq68.R) : Option zq68.R :=
 bif (decide (a1 ≤ 1)) then
  some (0, b0_0, b0_1, b0_2)
 else
 (zq66.g N b0_0 b0_1 b0_2).bind fun r1 =>
 bif (decide (a1 > 200)) then
  (zq66.g N r1.2.1 r1.2.2.1 r1.2.2.2).bind fun r2 =>
  c1 a1 (w64 ((w64 (r1.1 * 256)) + r2.1)) r2.2.1 r2.2.2.1 r2.2.2.2
 else
 c1 a1 r1.1 r1.2.1 r1.2.2.1 r1.2.2.2
theorem zq68.o0.run (N : Nat) (H31 : Code) (a1 : Int) (b0_0 : List Int) (b0_1 : Int) (b0_2 : Int) : runC zq68.C (zq68.O N) N (.seq zq68.c2 (.seq zq68.c6 (.seq zq68.c14 (.seq zq68.c30 H31)))) 1 (st0 [.one (.ptr 0 0), .one (.int .i64 a1)] [(80, [.sl false 5 b0_0, .int .i64 b0_1, .int .u64 b0_2])] : St D0) zq68.K0 = zq68.o0 N a1 b0_0 b0_1 b0_2 ((fun w0 w1 w2 w3 w4 => runC zq68.C (zq68.O N) N H31 31 (mkSt [(1, .one (.int .i64 w0)), (5, .one (.int .i64 w1))] [(0, some (80, [.sl false 5 w2, .int .i64 w3, .int .u64 w4]))] : St D0) zq68.K0)) := by kernel_rfl
def zq68.g (N : Nat) (a1 : Int) (b0_0 : List Int) (b0_1 : Int) (b0_2 : Int) : Option zq68.R := zq68.o0 N a1 b0_0 b0_1 b0_2 ((fun w0 w1 w2 w3 w4 => zq68.d1 N w0 w1 w2 w3 w4))
theorem zq68.c1_0 : zq68.c1 = (.seq zq68.c2 (.seq zq68.c6 (.seq zq68.c14 (.seq zq68.c30 zq68.c31)))) := by kernel_rfl
theorem zq68.g.run (N : Nat) (a1 : Int) (b0_0 : List Int) (b0_1 : Int) (b0_2 : Int) : runC zq68.C (zq68.O N) N zq68.c1 1 (st0 [.one (.ptr 0 0), .one (.int .i64 a1)] [(80, [.sl false 5 b0_0, .int .i64 b0_1, .int .u64 b0_2])] : St D0) zq68.K0 = zq68.g N a1 b0_0 b0_1 b0_2 := by
  rw [zq68.c1_0]; unfold zq68.g; exact (zq68.o0.run N zq68.c31 a1 b0_0 b0_1 b0_2).trans (congr rfl (funext fun w0 => funext fun w1 => funext fun w2 => funext fun w3 => funext fun w4 => zq68.d1.run N w0 w1 w2 w3 w4))
theorem zq68.good (N : Nat) (a1 : Int) (b0_0 : List Int) (b0_1 : Int) (b0_2 : Int) (r : zq68.R) (h : zq68.g N a1 b0_0 b0_1 b0_2 = some r) : Go.PM.Good Tryz.prog T0 87 [.one (.ptr 0 0), .one (.int .i64 a1)] [(80, [.sl false 5 b0_0, .int .i64 b0_1, .int .u64 b0_2])] (zq68.sig.ret r) (zq68.sig.bs r) :=
  good_fn tabOk0 mixed0 zq68.sig (zq68.E N) Tryz.func87 (by kernel_rfl) (by kernel_rfl) 2227 0 1 [(30, [1, 5], [0])] 415040 false [] [(false, [.any])] (by kernel_rfl) rfl rfl ((zq68.g.run N a1 b0_0 b0_1 b0_2).trans h)
def zq68.ent (N : Nat) : Ent Tryz.prog T0 := mkEnt 87 [(false, [.any]), (false, [.any])] zq68.sig (fun t => zq68.g N t.2.1 t.2.2.1 t.2.2.2.1 t.2.2.2.2) (fun t r h => zq68.good N t.2.1 t.2.2.1 t.2.2.2.1 t.2.2.2.2 r h)
/-! ### zq64 -/
abbrev zq64.R : Type := Int × List Int × Int × Int
abbrev zq64.sig : Sig := ⟨[(false, 1), (false, 1)], [(80, 3)], [.ptr 0 0, .sl false 3, .sl false 5, .int .i64, .int .u64], [(false, 1)], [(80, 3)], [.int .i64, .sl false 5, .int .i64, .int .u64]⟩
def zq64.C : Cfg D0 := ⟨Tryz.prog, T0, 19, 0, 12, 1, [], 224, false, []⟩
def zq64.E (N : Nat) : List (Ent Tryz.prog T0) := [zq68.ent N]
def zq64.O (N : Nat) : Orc D0 zq64.R := orcOf (zq64.E N)
def zq64.K0 : Ex → St D0 → Option zq64.R := exitK zq64.C Tryz.f104.results.toList [(false, [.any])] (decOut zq64.sig)
def zq64.c1 : Code := codeAt (Tryz.f104.body.getD .skip) []
def zq64.o0 (N : Nat) (a1 : List Int) (b0_0 : List Int) (b0_1 : Int) (b0_2 : Int) : Option zq64.R :=
 (zq68.g N (a1.length : Int) b0_0 b0_1 b0_2).bind fun r1 =>
 bif (decide (0 ≤ r1.1)) then
  bif (decide (r1.1 < (a1.length : Int))) then
   (a1[(r1.1 : Int).toNat]?).bind fun x2 =>
   some (x2, r1.2.1, r1.2.2.1, r1.2.2.2)
  else
  none
 else
 none
theorem zq64.o0.run (N : Nat) (a1 : List Int) (b0_0 : List Int) (b0_1 : Int) (b0_2 : Int) : runC zq64.C (zq64.O N) N zq64.c1 1 (st0 [.one (.ptr 0 0), .one (.sl false 3 a1)] [(80, [.sl false 5 b0_0, .int .i64 b0_1, .int .u64 b0_2])] : St D0) zq64.K0 = zq64.o0 N a1 b0_0 b0_1 b0_2 := by kernel_rfl
def zq64.g (N : Nat) (a1 : List Int) (b0_0 : List Int) (b0_1 : Int) (b0_2 : Int) : Option zq64.R := zq64.o0 N a1 b0_0 b0_1 b0_2
theorem zq64.g.run (N : Nat) (a1 : List Int) (b0_0 : List Int) (b0_1 : Int) (b0_2 : Int) : runC zq64.C (zq64.O N) N zq64.c1 1 (st0 [.one (.ptr 0 0), .one (.sl false 3 a1)] [(80, [.sl false 5 b0_0, .int .i64 b0_1, .int .u64 b0_2])] : St D0) zq64.K0 = zq64.g N a1 b0_0 b0_1 b0_2 := by
  exact (zq64.o0.run N a1 b0_0 b0_1 b0_2).trans rfl
theorem zq64.good (N : Nat) (a1 : List Int) (b0_0 : List Int) (b0_1 : Int) (b0_2 : Int) (r : zq64.R) (h : zq64.g N a1 b0_0 b0_1 b0_2 = some r) : Go.PM.Good Tryz.prog T0 104 [.one (.ptr 0 0), .one (.sl false 3 a1)] [(80, [.sl false 5 b0_0, .int .i64 b0_1, .int .u64 b0_2])] (zq64.sig.ret r) (zq64.sig.bs r) :=
  good_fn tabOk0 mixed0 zq64.sig (zq64.E N) Tryz.func104 (by kernel_rfl) (by kernel_rfl) 19 0 1 [] 224 false [] [(false, [.any])] (by kernel_rfl) rfl rfl ((zq64.g.run N a1 b0_0 b0_1 b0_2).trans h)
def zq64.ent (N : Nat) : Ent Tryz.prog T0 := mkEnt 104 [(false, [.any]), (false, [.ro 3])] zq64.sig (fun t => zq64.g N t.2.1 t.2.2.1 t.2.2.2.1 t.2.2.2.2) (fun t r h => zq64.good N t.2.1 t.2.2.1 t.2.2.2.1 t.2.2.2.2 r h)
end Go.Proofs.YtpeleommbipeaaaGreatDoor.M
end
