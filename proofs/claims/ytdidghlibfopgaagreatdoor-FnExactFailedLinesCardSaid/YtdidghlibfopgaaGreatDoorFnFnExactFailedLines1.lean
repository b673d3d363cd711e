/- What the program's functions compute, walked by the machine (part 1). No conditions but those stated. -/
import Derived.Test.YtdidghlibfopgaaGreatDoorPm3
import Derived.Test.YtdidghlibfopgaaGreatDoorProg
import Derived.Lib.ItoaNum
import Derived.Lib.LaidTab
import Derived.Test.YtdidghlibfopgaaGreatDoorShelf
import Derived.Shelf.SlSorted.Search
import Derived.Shelf.Strconv.AtoiAll
namespace Go.PM
open Go
abbrev BA := ByteArray
abbrev LV.i {D : TypeId → Type} (n : Int) : LV D := .int .i64 n
abbrev Sh.i : Sh := .int .i64
abbrev tk {D : TypeId → Type} {ρ : Type} (C : Cfg D) (O : Orc D ρ) (N : Nat) (c : Nat → Code) (A B : Nat) (K : Ex → St D → Option ρ) : St D → Option ρ := fun s => C.tidy A s (fun s' => runC C O N (c B) B s' K)
theorem fx1 {a r : Type} {f g : a → r} (w : ∀ a', f a' = g a') : f = g := by funext; exact w ..
theorem fx2 {a b r : Type} {f g : a → b → r} (w : ∀ a' b', f a' b' = g a' b') : f = g := by funext; exact w ..
theorem fx3 {a b c r : Type} {f g : a → b → c → r} (w : ∀ a' b' c', f a' b' c' = g a' b' c') : f = g := by funext; exact w ..
theorem fx4 {a b c d r : Type} {f g : a → b → c → d → r} (w : ∀ a' b' c' d', f a' b' c' d' = g a' b' c' d') : f = g := by funext; exact w ..
theorem fx5 {a b c d e r : Type} {f g : a → b → c → d → e → r} (w : ∀ a' b' c' d' e', f a' b' c' d' e' = g a' b' c' d' e') : f = g := by funext; exact w ..
theorem fx6 {a b c d e g r : Type} {f g : a → b → c → d → e → g → r} (w : ∀ a' b' c' d' e' g', f a' b' c' d' e' g' = g a' b' c' d' e' g') : f = g := by funext; exact w ..
theorem fx7 {a b c d e g h r : Type} {f g : a → b → c → d → e → g → h → r} (w : ∀ a' b' c' d' e' g' h', f a' b' c' d' e' g' h' = g a' b' c' d' e' g' h') : f = g := by funext; exact w ..
theorem fx8 {a b c d e g h i r : Type} {f g : a → b → c → d → e → g → h → i → r} (w : ∀ a' b' c' d' e' g' h' i', f a' b' c' d' e' g' h' i' = g a' b' c' d' e' g' h' i') : f = g := by funext; exact w ..
theorem fx9 {a b c d e g h i j r : Type} {f g : a → b → c → d → e → g → h → i → j → r} (w : ∀ a' b' c' d' e' g' h' i' j', f a' b' c' d' e' g' h' i' j' = g a' b' c' d' e' g' h' i' j') : f = g := by funext; exact w ..
theorem fx10 {a b c d e g h i j k r : Type} {f g : a → b → c → d → e → g → h → i → j → k → r} (w : ∀ a' b' c' d' e' g' h' i' j' k', f a' b' c' d' e' g' h' i' j' k' = g a' b' c' d' e' g' h' i' j' k') : f = g := by funext; exact w ..
theorem fx11 {a b c d e g h i j k l r : Type} {f g : a → b → c → d → e → g → h → i → j → k → l → r} (w : ∀ a' b' c' d' e' g' h' i' j' k' l', f a' b' c' d' e' g' h' i' j' k' l' = g a' b' c' d' e' g' h' i' j' k' l') : f = g := by funext; exact w ..
theorem fx12 {a b c d e g h i j k l m r : Type} {f g : a → b → c → d → e → g → h → i → j → k → l → m → r} (w : ∀ a' b' c' d' e' g' h' i' j' k' l' m', f a' b' c' d' e' g' h' i' j' k' l' m' = g a' b' c' d' e' g' h' i' j' k' l' m') : f = g := by funext; exact w ..
theorem fx13 {a b c d e g h i j k l m n r : Type} {f g : a → b → c → d → e → g → h → i → j → k → l → m → n → r} (w : ∀ a' b' c' d' e' g' h' i' j' k' l' m' n', f a' b' c' d' e' g' h' i' j' k' l' m' n' = g a' b' c' d' e' g' h' i' j' k' l' m' n') : f = g := by funext; exact w ..
theorem fx14 {a b c d e g h i j k l m n o r : Type} {f g : a → b → c → d → e → g → h → i → j → k → l → m → n → o → r} (w : ∀ a' b' c' d' e' g' h' i' j' k' l' m' n' o', f a' b' c' d' e' g' h' i' j' k' l' m' n' o' = g a' b' c' d' e' g' h' i' j' k' l' m' n' o') : f = g := by funext; exact w ..
theorem fx15 {a b c d e g h i j k l m n o p r : Type} {f g : a → b → c → d → e → g → h → i → j → k → l → m → n → o → p → r} (w : ∀ a' b' c' d' e' g' h' i' j' k' l' m' n' o' p', f a' b' c' d' e' g' h' i' j' k' l' m' n' o' p' = g a' b' c' d' e' g' h' i' j' k' l' m' n' o' p') : f = g := by funext; exact w ..
theorem fx16 {a b c d e g h i j k l m n o p q r : Type} {f g : a → b → c → d → e → g → h → i → j → k → l → m → n → o → p → q → r} (w : ∀ a' b' c' d' e' g' h' i' j' k' l' m' n' o' p' q', f a' b' c' d' e' g' h' i' j' k' l' m' n' o' p' q' = g a' b' c' d' e' g' h' i' j' k' l' m' n' o' p' q') : f = g := by funext; exact w ..
theorem fx17 {a b c d e g h i j k l m n o p q s r : Type} {f g : a → b → c → d → e → g → h → i → j → k → l → m → n → o → p → q → s → r} (w : ∀ a' b' c' d' e' g' h' i' j' k' l' m' n' o' p' q' s', f a' b' c' d' e' g' h' i' j' k' l' m' n' o' p' q' s' = g a' b' c' d' e' g' h' i' j' k' l' m' n' o' p' q' s') : f = g := by funext; exact w ..
theorem fx18 {a b c d e g h i j k l m n o p q s t r : Type} {f g : a → b → c → d → e → g → h → i → j → k → l → m → n → o → p → q → s → t → r} (w : ∀ a' b' c' d' e' g' h' i' j' k' l' m' n' o' p' q' s' t', f a' b' c' d' e' g' h' i' j' k' l' m' n' o' p' q' s' t' = g a' b' c' d' e' g' h' i' j' k' l' m' n' o' p' q' s' t') : f = g := by funext; exact w ..
theorem fx19 {a b c d e g h i j k l m n o p q s t u r : Type} {f g : a → b → c → d → e → g → h → i → j → k → l → m → n → o → p → q → s → t → u → r} (w : ∀ a' b' c' d' e' g' h' i' j' k' l' m' n' o' p' q' s' t' u', f a' b' c' d' e' g' h' i' j' k' l' m' n' o' p' q' s' t' u' = g a' b' c' d' e' g' h' i' j' k' l' m' n' o' p' q' s' t' u') : f = g := by funext; exact w ..
theorem fx22 {a b c d e g h i j k l m n o p q s t u v x y r : Type} {f g : a → b → c → d → e → g → h → i → j → k → l → m → n → o → p → q → s → t → u → v → x → y → r} (w : ∀ a' b' c' d' e' g' h' i' j' k' l' m' n' o' p' q' s' t' u' v' x' y', f a' b' c' d' e' g' h' i' j' k' l' m' n' o' p' q' s' t' u' v' x' y' = g a' b' c' d' e' g' h' i' j' k' l' m' n' o' p' q' s' t' u' v' x' y') : f = g := by funext; exact w ..
theorem fx23 {a b c d e g h i j k l m n o p q s t u v x y z r : Type} {f g : a → b → c → d → e → g → h → i → j → k → l → m → n → o → p → q → s → t → u → v → x → y → z → r} (w : ∀ a' b' c' d' e' g' h' i' j' k' l' m' n' o' p' q' s' t' u' v' x' y' z', f a' b' c' d' e' g' h' i' j' k' l' m' n' o' p' q' s' t' u' v' x' y' z' = g a' b' c' d' e' g' h' i' j' k' l' m' n' o' p' q' s' t' u' v' x' y' z') : f = g := by funext; exact w ..
theorem fx25 {a b c d e g h i j k l m n o p q s t u v x y z A B r : Type} {f g : a → b → c → d → e → g → h → i → j → k → l → m → n → o → p → q → s → t → u → v → x → y → z → A → B → r} (w : ∀ a' b' c' d' e' g' h' i' j' k' l' m' n' o' p' q' s' t' u' v' x' y' z' A' B', f a' b' c' d' e' g' h' i' j' k' l' m' n' o' p' q' s' t' u' v' x' y' z' A' B' = g a' b' c' d' e' g' h' i' j' k' l' m' n' o' p' q' s' t' u' v' x' y' z' A' B') : f = g := by funext; exact w ..
theorem fx26 {a b c d e g h i j k l m n o p q s t u v x y z A B C r : Type} {f g : a → b → c → d → e → g → h → i → j → k → l → m → n → o → p → q → s → t → u → v → x → y → z → A → B → C → r} (w : ∀ a' b' c' d' e' g' h' i' j' k' l' m' n' o' p' q' s' t' u' v' x' y' z' A' B' C', f a' b' c' d' e' g' h' i' j' k' l' m' n' o' p' q' s' t' u' v' x' y' z' A' B' C' = g a' b' c' d' e' g' h' i' j' k' l' m' n' o' p' q' s' t' u' v' x' y' z' A' B' C') : f = g := by funext; exact w ..
theorem fx27 {a b c d e g h i j k l m n o p q s t u v x y z A B C D r : Type} {f g : a → b → c → d → e → g → h → i → j → k → l → m → n → o → p → q → s → t → u → v → x → y → z → A → B → C → D → r} (w : ∀ a' b' c' d' e' g' h' i' j' k' l' m' n' o' p' q' s' t' u' v' x' y' z' A' B' C' D', f a' b' c' d' e' g' h' i' j' k' l' m' n' o' p' q' s' t' u' v' x' y' z' A' B' C' D' = g a' b' c' d' e' g' h' i' j' k' l' m' n' o' p' q' s' t' u' v' x' y' z' A' B' C' D') : f = g := by funext; exact w ..
theorem fx29 {a b c d e g h i j k l m n o p q s t u v x y z A B C D E G r : Type} {f g : a → b → c → d → e → g → h → i → j → k → l → m → n → o → p → q → s → t → u → v → x → y → z → A → B → C → D → E → G → r} (w : ∀ a' b' c' d' e' g' h' i' j' k' l' m' n' o' p' q' s' t' u' v' x' y' z' A' B' C' D' E' G', f a' b' c' d' e' g' h' i' j' k' l' m' n' o' p' q' s' t' u' v' x' y' z' A' B' C' D' E' G' = g a' b' c' d' e' g' h' i' j' k' l' m' n' o' p' q' s' t' u' v' x' y' z' A' B' C' D' E' G') : f = g := by funext; exact w ..
theorem fx30 {a b c d e g h i j k l m n o p q s t u v x y z A B C D E G H r : Type} {f g : a → b → c → d → e → g → h → i → j → k → l → m → n → o → p → q → s → t → u → v → x → y → z → A → B → C → D → E → G → H → r} (w : ∀ a' b' c' d' e' g' h' i' j' k' l' m' n' o' p' q' s' t' u' v' x' y' z' A' B' C' D' E' G' H', f a' b' c' d' e' g' h' i' j' k' l' m' n' o' p' q' s' t' u' v' x' y' z' A' B' C' D' E' G' H' = g a' b' c' d' e' g' h' i' j' k' l' m' n' o' p' q' s' t' u' v' x' y' z' A' B' C' D' E' G' H') : f = g := by funext; exact w ..
end Go.PM
namespace Go.PM
theorem oB {α β : Type _} (a : α) (f : α → Option β) : (some a).bind f = f a := rfl
theorem cT {α : Sort _} {a b : α} : cond true a b = a := rfl
theorem cF {α : Sort _} {a b : α} : cond false a b = b := rfl
theorem nT : (!true) = false := rfl
theorem nF : (!false) = true := rfl
theorem tN (n : Nat) : ((n : Nat) : Int).toNat = n := rfl
end Go.PM
noncomputable section
namespace Go.Proofs.YtdidghlibfopgaaGreatDoor.M
open Go Go.PM
set_option linter.unusedVariables false
set_option maxRecDepth 100000
end Go.Proofs.YtdidghlibfopgaaGreatDoor.M
namespace Go.Proofs.YtdidghlibfopgaaGreatDoor.P
structure S25 where
  f0 : Int
  f1 : Int
end Go.Proofs.YtdidghlibfopgaaGreatDoor.P
namespace Go.Proofs.YtdidghlibfopgaaGreatDoor.M
open Go Go.PM Go.Proofs.YtdidghlibfopgaaGreatDoor.P
abbrev D0 : TypeId → Type
  | 3 => Int
  | 5 => Int
  | 9 => ByteArray
  | 25 => S25
  | 43 => (List Int)
  | _ => Unit
def glE : Obj → Prop := fun o => ∃ tp p t fr, o = .cells #[.iface tp p] t fr
def glT : Obj → Prop := fun o => ∃ t fr, o = .cells ((Lib.pow10Tab.map fun z => Value.int .u64 z).toArray) t fr
def T0 : Tab D0 where
  size := fun e => match e with
    | 3 => 1
    | 5 => 1
    | 9 => 1
    | 25 => 2
    | 43 => 1
    | _ => 0
  out := fun e x => match e, x with
    | 3, x => [.int .i64 x]
    | 5, x => [.int .u8 x]
    | 9, x => [.str x]
    | 25, x => [.int .i64 x.f0, .int .i64 x.f1]
    | 43, x => [.sl false 3 x]
    | _, _ => []
  inn := fun e ls => match e, ls with
    | 3, [.int .i64 x0] => some x0
    | 5, [.int .u8 x0] => some x0
    | 9, [.str x0] => some x0
    | 25, [.int .i64 x0, .int .i64 x1] => some ⟨x0, x1⟩
    | 43, [.sl _ e' x0] => if h : e' = 3 then some (cast (congrArg (fun t => List (D0 t)) h) x0) else none
    | _, _ => none
  kd := fun e => match e with
    | 3 => [13]
    | 5 => [14]
    | 9 => [2]
    | 25 => [13, 13]
    | 43 => [3]
    | _ => []
  gl := [(4, glE), (5, glE), (1, glT)]
theorem tabOk0 : TabOk T0 where
  out_len := by
    intro e x
    simp only [T0]
    split <;> first | rfl | (split <;> first | rfl | (rename_i h _ _ _ _; exact absurd HEq.rfl (fun h' => h _ rfl h')) | simp_all)
  kd_ok := by
    intro e x
    simp only [T0]
    split <;> first | rfl | (split <;> first | rfl | (rename_i h _ _ _ _; exact absurd HEq.rfl (fun h' => h _ rfl h')) | simp_all)
  inn_ok := by
    intro e ls x h C blk vs hF
    simp only [T0] at h
    split at h <;> first | (cases h; done) | (simp only [Option.some.injEq] at h; subst h; exact tab_inn hF rfl) | (split at h <;> first | (cases h; done) | (rename_i he; simp only [Option.some.injEq] at h; subst h; subst he; exact tab_inn_sl rfl hF))
theorem mixed0 : Tryz.prog.follows .mixedOrders = true := by kernel_rfl
def GlW (w : World) : Prop := ∀ x ∈ T0.gl, ∃ o, w.heap[x.1]? = some o ∧ x.2 o
theorem GlW.below {w W : World} (h : GlW w) (hb : Go.RowKit.Below w.heap.size w W) : GlW W := fun x hx => by
  obtain ⟨o, h1, h2⟩ := h x hx
  exact ⟨o, (hb.block _ (Array.getElem?_eq_some_iff.1 h1).1).trans h1, h2⟩
theorem GlW.errS {w : World} (h : GlW w) : ∃ tp p, w.cell? ⟨4, 0, none⟩ = some (.iface tp p) := by
  obtain ⟨o, h1, tp, p, t, fr, rfl⟩ := h (4, glE) (List.mem_cons_self ..)
  exact ⟨tp, p, by simpa using World.var?_cell (show Tryz.prog.globalNamed "strconv.ErrSyntax" = some 4 by kernel_rfl) (var_blk (by kernel_rfl) h1) 0⟩
theorem GlW.errR {w : World} (h : GlW w) : ∃ tp p, w.cell? ⟨5, 0, none⟩ = some (.iface tp p) := by
  obtain ⟨o, h1, tp, p, t, fr, rfl⟩ := h (5, glE) (List.mem_cons_of_mem _ (List.mem_cons_self ..))
  exact ⟨tp, p, by simpa using World.var?_cell (show Tryz.prog.globalNamed "strconv.ErrRange" = some 5 by kernel_rfl) (var_blk (by kernel_rfl) h1) 0⟩
theorem GlW.tab {w : World} (h : GlW w) : Lib.TabIs Tryz.prog w "internal/strconv.uint64pow10" .u64 Lib.pow10Tab := by
  obtain ⟨o, h1, t, fr, rfl⟩ := h (1, glT) (List.mem_cons_of_mem _ (List.mem_cons_of_mem _ (List.mem_cons_self ..)))
  exact var_blk (by kernel_rfl) h1
theorem GlW.of {w : World} {tp p tp' p'} (h1 : w.var? Tryz.prog "strconv.ErrSyntax" = some #[.iface tp p]) (h2 : w.var? Tryz.prog "strconv.ErrRange" = some #[.iface tp' p'])
    (h3 : Lib.TabIs Tryz.prog w "internal/strconv.uint64pow10" .u64 Lib.pow10Tab) : GlW w := by
  intro x hx
  obtain ⟨t1, f1, e1⟩ := blk_var (g := 4) (by kernel_rfl) h1
  obtain ⟨t2, f2, e2⟩ := blk_var (g := 5) (by kernel_rfl) h2
  obtain ⟨t3, f3, e3⟩ := blk_var (g := 1) (by kernel_rfl) h3
  have hx : x ∈ [(4, glE), (5, glE), (1, glT)] := hx
  simp only [List.mem_cons, List.not_mem_nil, or_false] at hx
  rcases hx with rfl | rfl | rfl
  · exact ⟨_, e1, tp, p, t1, f1, rfl⟩
  · exact ⟨_, e2, tp', p', t2, f2, rfl⟩
  · exact ⟨_, e3, t3, f3, rfl⟩
end Go.Proofs.YtdidghlibfopgaaGreatDoor.M
namespace Go.Proofs.YtdidghlibfopgaaGreatDoor.M
open Go Go.PM Go.Proofs.YtdidghlibfopgaaGreatDoor.P
set_option linter.unusedVariables false
set_option maxRecDepth 100000
namespace zq81
variable (N : Nat)
abbrev R : Type := Bool
abbrev sig : Sig := ⟨[(false, 1), (false, 1), (false, 1)], [], [.i, .i, .i], [(false, 1)], [], [.bool]⟩
noncomputable def C : Cfg D0 := ⟨Tryz.prog, T0, 71, 0, 15, 0, [], 6528, false, []⟩
def E (N : Nat) : List (Ent Tryz.prog T0) := []
def O : Orc D0 R := orcOf (E N)
def K0 : Ex → St D0 → Option R := exitK C Tryz.f79.results.toList [(false, [.any])] (decOut sig)
noncomputable def c (p : Nat) : Code := codeAt (Tryz.f79.body.getD .skip) (pathN p)
def o0 (N : Nat) (a0 a1 a2 : Int) : Option R :=
 bif (decide (a0 ≥ a1)) then
  some ((decide (a0 ≤ a2)))
 else
 some (false)
def g (a0 a1 a2 : Int) : Option R := o0 N a0 a1 a2
theorem g.run (a0 a1 a2 : Int) : runC C (O N) N (c 1) 1 (st0 [.one (.i a0), .one (.i a1), .one (.i a2)] [] : St D0) K0 = g N a0 a1 a2 := by kernel_rfl
theorem good (a0 a1 a2 : Int) (r : R) (h : g N a0 a1 a2 = some r) : Go.PM.Good Tryz.prog T0 79 [.one (.i a0), .one (.i a1), .one (.i a2)] [] (sig.ret r) (sig.bs r) :=
  good_fnC C tabOk0 mixed0 sig (E N) Tryz.func79 (by kernel_rfl) (by kernel_rfl) [(false, [.any])] (by kernel_rfl) rfl rfl ((g.run N a0 a1 a2).trans h)
def ent : Ent Tryz.prog T0 := mkEnt 79 [(false, [.any]), (false, [.any]), (false, [.any])] sig (fun t => g N t.1 t.2.1 t.2.2) (fun t r h => good N t.1 t.2.1 t.2.2 r h)
end zq81
namespace zq58
variable (N : Nat)
abbrev R : Type := Bool
abbrev sig : Sig := ⟨[(false, 1)], [], [.i], [(false, 1)], [], [.bool]⟩
noncomputable def C : Cfg D0 := ⟨Tryz.prog, T0, 5, 0, 5, 0, [], 8, false, []⟩
def E : List (Ent Tryz.prog T0) := [zq81.ent N]
def O : Orc D0 R := orcOf (E N)
def K0 : Ex → St D0 → Option R := exitK C Tryz.f77.results.toList [(false, [.any])] (decOut sig)
noncomputable def c (p : Nat) : Code := codeAt (Tryz.f77.body.getD .skip) (pathN p)
def o0 (a0 : Int) : Option R :=
 (zq81.g N a0 2 24).bind fun r1 =>
 some (r1)
def g (a0 : Int) : Option R := o0 N a0
theorem g.run (a0 : Int) : runC C (O N) N (c 1) 1 (st0 [.one (.i a0)] [] : St D0) K0 = g N a0 := by kernel_rfl
def ent : Ent Tryz.prog T0 := mkEntC C tabOk0 mixed0 77 [(false, [.any])] sig (E N) Tryz.func77 (by kernel_rfl) [(false, [.any])] N (fun t => g N t) (fun _ => by kernel_rfl) (fun t => g.run N t)
end zq58
namespace zq173
variable (N : Nat)
abbrev R : Type := Bool
abbrev sig : Sig := ⟨[(false, 1), (false, 1), (false, 1)], [], [.i, .i, .i], [(false, 1)], [], [.bool]⟩
noncomputable def C : Cfg D0 := ⟨Tryz.prog, T0, 71, 0, 15, 0, [], 6528, false, []⟩
def E (N : Nat) : List (Ent Tryz.prog T0) := []
def O : Orc D0 R := orcOf (E N)
def K0 : Ex → St D0 → Option R := exitK C Tryz.f117.results.toList [(false, [.any])] (decOut sig)
noncomputable def c (p : Nat) : Code := codeAt (Tryz.f117.body.getD .skip) (pathN p)
def o0 (N : Nat) (a0 a1 a2 : Int) : Option R :=
 bif (decide (a0 ≥ a1)) then
  some ((decide (a0 ≤ a2)))
 else
 some (false)
def g (a0 a1 a2 : Int) : Option R := o0 N a0 a1 a2
theorem g.run (a0 a1 a2 : Int) : runC C (O N) N (c 1) 1 (st0 [.one (.i a0), .one (.i a1), .one (.i a2)] [] : St D0) K0 = g N a0 a1 a2 := by kernel_rfl
def ent : Ent Tryz.prog T0 := mkEntC C tabOk0 mixed0 117 [(false, [.any]), (false, [.any]), (false, [.any])] sig (E N) Tryz.func117 (by kernel_rfl) [(false, [.any])] N (fun t => g N t.1 t.2.1 t.2.2) (fun _ => by kernel_rfl) (fun t => g.run N t.1 t.2.1 t.2.2)
end zq173
namespace zq150
variable (N : Nat)
abbrev R : Type := Bool
abbrev sig : Sig := ⟨[(false, 1)], [], [.i], [(false, 1)], [], [.bool]⟩
noncomputable def C : Cfg D0 := ⟨Tryz.prog, T0, 5, 0, 5, 0, [], 8, false, []⟩
def E : List (Ent Tryz.prog T0) := [zq173.ent N]
def O : Orc D0 R := orcOf (E N)
def K0 : Ex → St D0 → Option R := exitK C Tryz.f115.results.toList [(false, [.any])] (decOut sig)
noncomputable def c (p : Nat) : Code := codeAt (Tryz.f115.body.getD .skip) (pathN p)
def o0 (a0 : Int) : Option R :=
 (zq173.g N a0 2 24).bind fun r1 =>
 some (r1)
def g (a0 : Int) : Option R := o0 N a0
theorem g.run (a0 : Int) : runC C (O N) N (c 1) 1 (st0 [.one (.i a0)] [] : St D0) K0 = g N a0 := by kernel_rfl
def ent : Ent Tryz.prog T0 := mkEntC C tabOk0 mixed0 115 [(false, [.any])] sig (E N) Tryz.func115 (by kernel_rfl) [(false, [.any])] N (fun t => g N t) (fun _ => by kernel_rfl) (fun t => g.run N t)
end zq150
namespace zq178
variable (N : Nat)
abbrev R : Type := List BA
abbrev QQ : Type := St D0 → Option R
abbrev sig : Sig := ⟨[(false, 1), (false, 1)], [], [.str, .int .u8], [(false, 1)], [], [.sl true 9]⟩
noncomputable def C : Cfg D0 := ⟨Tryz.prog, T0, 264435, 0, 34, 0, [(122, [0, 1, 5, 6, 7], []), (978, [0, 1, 5, 6, 7], [])], 1685246720, false, []⟩
def E (N : Nat) : List (Ent Tryz.prog T0) := []
def O : Orc D0 R := orcOf (E N)
def K0 : Ex → QQ := exitK C Tryz.f41.results.toList [(false, [.own 9])] (decOut sig)
noncomputable def c (p : Nat) : Code := codeAt (Tryz.f41.body.getD .skip) (pathN p)
abbrev t1 : Type := BA → Int → Int → Int → Option R
abbrev t2 : Type := BA → Int → (List BA) → Int → Int → Option R
abbrev t3 : Type := BA → Int → Int → Int → Option R
abbrev t4 : Type := BA → Int → (List BA) → Int → Int → Option R
def s1 (v0 : BA) (v1 v2 v3 : Int) : St D0 := mkSt [(0, .one (.str v0)), (1, .one (.int .u8 v1)), (5, .one (.nl)), (6, .one (.i v2)), (7, .one (.i v3))] []
def s2 (v0 : BA) (v1 : Int) (v2 : List BA) (v3 v4 : Int) : St D0 := mkSt [(0, .one (.str v0)), (1, .one (.int .u8 v1)), (5, .one (.sl true 9 v2)), (6, .one (.i v3)), (7, .one (.i v4))] []
def s3 (v0 : BA) (v1 v2 v3 : Int) : St D0 := mkSt [(0, .one (.str v0)), (1, .one (.int .u8 v1)), (5, .one (.nl)), (6, .one (.i v2)), (7, .one (.i v3))] []
def s4 (v0 : BA) (v1 : Int) (v2 : List BA) (v3 v4 : Int) : St D0 := mkSt [(0, .one (.str v0)), (1, .one (.int .u8 v1)), (5, .one (.sl true 9 v2)), (6, .one (.i v3)), (7, .one (.i v4))] []
def K979 (Kn122 : QQ) : Ex → QQ := ((fun up => (onN (fun s => C.tidy 122 s ((onN Kn122 up) .normal)) (onN Kn122 up))) (blockK 0 (onN (tk C (O N) N c 30 31 K0) K0)))
def o2 (N : Nat) (v0 : BA) (v1 : Int) (v2 : List BA) (v3 v4 : Int) (c4 : t4) : Option R :=
 c4 v0 v1 v2 v3 (w64 (v4 + 1))
def d2 (v0 : BA) (v1 : Int) (v2 : List BA) (v3 v4 : Int) (c4 : t4) : Option R := o2 N v0 v1 v2 v3 v4 c4
theorem d2.run (Kn122 : QQ) (v0 : BA) (v1 : Int) (v2 : List BA) (v3 v4 : Int) : runC C (O N) N (c 979) 979 (s2 v0 v1 v2 v3 v4) (K979 N Kn122) = d2 N v0 v1 v2 v3 v4 (Kn122 <| s4 · · · · ·) := by kernel_rfl
def o3 (N : Nat) (v0 : BA) (v1 v2 v3 : Int) (c1 : t1) : Option R :=
 c1 v0 v1 v2 (w64 (v3 + 1))
def d3 (v0 : BA) (v1 v2 v3 : Int) (c1 : t1) : Option R := o3 N v0 v1 v2 v3 c1
theorem d3.run (Kn122 : QQ) (v0 : BA) (v1 v2 v3 : Int) : runC C (O N) N (c 979) 979 (s3 v0 v1 v2 v3) (K979 N Kn122) = d3 N v0 v1 v2 v3 (Kn122 <| s1 · · · ·) := by kernel_rfl
def K244 (Kn122 : QQ) : Ex → QQ := ((fun up => (onN (fun s => C.tidy 122 s ((onN Kn122 up) .normal)) (onN Kn122 up))) (blockK 0 (onN (tk C (O N) N c 30 31 K0) K0)))
def o1 (N : Nat) (v0 : BA) (v1 v2 v3 : Int) (c2 : t2) (c3 : t3) : Option R :=
 bif (decide (v3 < (v0.size : Int))) then
  bif (decide (0 ≤ v3)) then
   bif (decide (v3 < (v0.size : Int))) then
    bif ((bt v0 v3) == v1) then
     bif (decide (0 ≤ v3)) then
      bif (decide (v3 ≤ (v0.size : Int))) then
       bif (decide (0 ≤ v2)) then
        bif (decide (v2 ≤ v3)) then
         bif (Nat.blt (([] : List BA).length + ([(v0.extract (v2 : Int).toNat (v3 : Int).toNat)] : List BA).length) 8796093022208) then
          c2 v0 v1 (([] : List BA) ++ ([(v0.extract (v2 : Int).toNat (v3 : Int).toNat)] : List BA)) (w64 (v3 + 1)) v3
         else
         none
        else
        none
       else
       none
      else
      none
     else
     none
    else
    c3 v0 v1 v2 v3
   else
   none
  else
  none
 else
 bif (decide (0 ≤ (v0.size : Int))) then
  bif (decide ((v0.size : Int) ≤ (v0.size : Int))) then
   bif (decide (0 ≤ v2)) then
    bif (decide (v2 ≤ (v0.size : Int))) then
     bif (Nat.blt (([] : List BA).length + ([(v0.extract (v2 : Int).toNat ((v0.size : Int) : Int).toNat)] : List BA).length) 8796093022208) then
      some ((([] : List BA) ++ ([(v0.extract (v2 : Int).toNat ((v0.size : Int) : Int).toNat)] : List BA)))
     else
     none
    else
    none
   else
   none
  else
  none
 else
 none
theorem o1.run (Kn122 : QQ) (H979 : Code) (v0 : BA) (v1 v2 v3 : Int) : runC C (O N) N (.seq (c 488) (.seq (c 978) H979)) 244 (s1 v0 v1 v2 v3) ((fun up => (onN (fun s => C.tidy 122 s ((onN Kn122 up) .normal)) (onN Kn122 up))) (blockK 0 (onN (tk C (O N) N c 30 31 K0) K0))) = o1 N v0 v1 v2 v3 ((fun w0 w1 w2 w3 w4 => runC C (O N) N H979 979 (s2 w0 w1 w2 w3 w4) ((fun up => (onN (fun s => C.tidy 122 s ((onN Kn122 up) .normal)) (onN Kn122 up))) (blockK 0 (onN (tk C (O N) N c 30 31 K0) K0))))) ((fun w0 w1 w2 w3 => runC C (O N) N H979 979 (s3 w0 w1 w2 w3) ((fun up => (onN (fun s => C.tidy 122 s ((onN Kn122 up) .normal)) (onN Kn122 up))) (blockK 0 (onN (tk C (O N) N c 30 31 K0) K0))))) := by kernel_rfl
def B489 (Kn122 : QQ) : QQ := fun s' => runC C (O N) N (c 979) 979 s' (K979 N Kn122)
def d1 (v0 : BA) (v1 v2 v3 : Int) (c1 : t1) (c4 : t4) : Option R := o1 N v0 v1 v2 v3 (d2 N · · · · · c4) (d3 N · · · · c1)
theorem c244_1 : (c 244) = (.seq (c 488) (.seq (c 978) (c 979))) := by kernel_rfl
theorem d1.run (Kn122 : QQ) (v0 : BA) (v1 v2 v3 : Int) : runC C (O N) N (c 244) 244 (s1 v0 v1 v2 v3) (K244 N Kn122) = d1 N v0 v1 v2 v3 (Kn122 <| s1 · · · ·) (Kn122 <| s4 · · · · ·) := by
  rw [c244_1]; unfold d1; exact (o1.run N Kn122 (c 979) v0 v1 v2 v3).trans (congr (congr rfl (fx5 (d2.run N Kn122))) (fx4 (d3.run N Kn122)))
def o4 (N : Nat) (v0 : BA) (v1 : Int) (v2 : List BA) (v3 v4 : Int) (c2 : t2) : Option R :=
 bif (decide (v4 < (v0.size : Int))) then
  bif (decide (0 ≤ v4)) then
   bif (decide (v4 < (v0.size : Int))) then
    bif ((bt v0 v4) == v1) then
     bif (decide (0 ≤ v4)) then
      bif (decide (v4 ≤ (v0.size : Int))) then
       bif (decide (0 ≤ v3)) then
        bif (decide (v3 ≤ v4)) then
         bif (Nat.blt (v2.length + ([(v0.extract (v3 : Int).toNat (v4 : Int).toNat)] : List BA).length) 8796093022208) then
          c2 v0 v1 (v2 ++ ([(v0.extract (v3 : Int).toNat (v4 : Int).toNat)] : List BA)) (w64 (v4 + 1)) v4
         else
         none
        else
        none
       else
       none
      else
      none
     else
     none
    else
    c2 v0 v1 v2 v3 v4
   else
   none
  else
  none
 else
 bif (decide (0 ≤ (v0.size : Int))) then
  bif (decide ((v0.size : Int) ≤ (v0.size : Int))) then
   bif (decide (0 ≤ v3)) then
    bif (decide (v3 ≤ (v0.size : Int))) then
     bif (Nat.blt (v2.length + ([(v0.extract (v3 : Int).toNat ((v0.size : Int) : Int).toNat)] : List BA).length) 8796093022208) then
      some ((v2 ++ ([(v0.extract (v3 : Int).toNat ((v0.size : Int) : Int).toNat)] : List BA)))
     else
     none
    else
    none
   else
   none
  else
  none
 else
 none
theorem o4.run (Kn122 : QQ) (H979 : Code) (v0 : BA) (v1 : Int) (v2 : List BA) (v3 v4 : Int) : runC C (O N) N (.seq (c 488) (.seq (c 978) H979)) 244 (s4 v0 v1 v2 v3 v4) ((fun up => (onN (fun s => C.tidy 122 s ((onN Kn122 up) .normal)) (onN Kn122 up))) (blockK 0 (onN (tk C (O N) N c 30 31 K0) K0))) = o4 N v0 v1 v2 v3 v4 ((fun w0 w1 w2 w3 w4 => runC C (O N) N H979 979 (s2 w0 w1 w2 w3 w4) ((fun up => (onN (fun s => C.tidy 122 s ((onN Kn122 up) .normal)) (onN Kn122 up))) (blockK 0 (onN (tk C (O N) N c 30 31 K0) K0))))) := by kernel_rfl
def d4 (v0 : BA) (v1 : Int) (v2 : List BA) (v3 v4 : Int) (c4 : t4) : Option R := o4 N v0 v1 v2 v3 v4 (d2 N · · · · · c4)
theorem c244_4 : (c 244) = (.seq (c 488) (.seq (c 978) (c 979))) := by kernel_rfl
theorem d4.run (Kn122 : QQ) (v0 : BA) (v1 : Int) (v2 : List BA) (v3 v4 : Int) : runC C (O N) N (c 244) 244 (s4 v0 v1 v2 v3 v4) (K244 N Kn122) = d4 N v0 v1 v2 v3 v4 (Kn122 <| s4 · · · · ·) := by
  rw [c244_4]; unfold d4; exact (o4.run N Kn122 (c 979) v0 v1 v2 v3 v4).trans (congr rfl (fx5 (d2.run N Kn122)))
def K122 : Ex → QQ := (blockK 0 (onN (tk C (O N) N c 30 31 K0) K0))
mutual
def l1 (N : Nat) : Nat → BA → Int → Int → Int → Option R
  | 0, _, _, _, _ => none
  | n + 1, v0, v1, v2, v3 => d1 N v0 v1 v2 v3 (l1 N n · · · ·) (l4 N n · · · · ·)
def l4 (N : Nat) : Nat → BA → Int → (List BA) → Int → Int → Option R
  | 0, _, _, _, _, _ => none
  | n + 1, v0, v1, v2, v3, v4 => d4 N v0 v1 v2 v3 v4 (l4 N n · · · · ·)
end
theorem loop122 (N : Nat) : ∀ n, (∀ (v0 : BA) (v1 v2 v3 : Int), iter (loopF C (O N) N (c 244) 122) n (s1 v0 v1 v2 v3) (K122 N) = l1 N n v0 v1 v2 v3) ∧ (∀ (v0 : BA) (v1 : Int) (v2 : List BA) (v3 v4 : Int), iter (loopF C (O N) N (c 244) 122) n (s4 v0 v1 v2 v3 v4) (K122 N) = l4 N n v0 v1 v2 v3 v4)
  | 0 => ⟨(by intros; rfl), (by intros; rfl)⟩
  | n + 1 => ⟨(fun v0 v1 v2 v3 => (d1.run N (fun s => iter (loopF C (O N) N (c 244) 122) n s (K122 N)) v0 v1 v2 v3).trans (show _ = d1 N v0 v1 v2 v3 (l1 N n · · · ·) (l4 N n · · · · ·) from (congr (congr rfl (fx4 ((loop122 N n).1))) (fx5 ((loop122 N n).2))))), (fun v0 v1 v2 v3 v4 => (d4.run N (fun s => iter (loopF C (O N) N (c 244) 122) n s (K122 N)) v0 v1 v2 v3 v4).trans (show _ = d4 N v0 v1 v2 v3 v4 (l4 N n · · · · ·) from (congr rfl (fx5 ((loop122 N n).2)))))⟩
def o0 (N : Nat) (a0 : BA) (a1 : Int) (c1 : t1) : Option R :=
 c1 a0 a1 0 0
theorem o0.run (H244 : Code) (a0 : BA) (a1 : Int) : runC C (O N) N (.seq (c 2) (.seq (c 6) (.seq (c 14) (.seq (.seq (c 60) (.block 0 (.loop H244))) (c 31))))) 1 (st0 [.one (.str a0), .one (.int .u8 a1)] [] : St D0) K0 = o0 N a0 a1 ((fun w0 w1 w2 w3 => iter (loopF C (O N) N H244 122) N (s1 w0 w1 w2 w3) (blockK 0 (onN (tk C (O N) N c 30 31 K0) K0)))) := by kernel_rfl
def g (a0 : BA) (a1 : Int) : Option R := o0 N a0 a1 (l1 N N · · · ·)
theorem c1_0 : (c 1) = (.seq (c 2) (.seq (c 6) (.seq (c 14) (.seq (.seq (c 60) (.block 0 (.loop (c 244)))) (c 31))))) := by kernel_rfl
theorem g.run (a0 : BA) (a1 : Int) : runC C (O N) N (c 1) 1 (st0 [.one (.str a0), .one (.int .u8 a1)] [] : St D0) K0 = g N a0 a1 := by
  rw [c1_0]; unfold g; exact (o0.run N (c 244) a0 a1).trans (congr rfl (fx4 ((loop122 N N).1)))
def ent : Ent Tryz.prog T0 := mkEntC C tabOk0 mixed0 41 [(false, [.any]), (false, [.any])] sig (E N) Tryz.func41 (by kernel_rfl) [(false, [.own 9])] N (fun t => g N t.1 t.2) (fun _ => by kernel_rfl) (fun t => g.run N t.1 t.2)
end zq178
abbrev zq175.R : Type := ByteArray
abbrev zq175.sig : Sig := ⟨[(false, 1)], [], [.int .i64], [(false, 1)], [], [.str]⟩
noncomputable def zq175.C : Cfg D0 := ⟨Tryz.prog, T0, 21, 0, 20, 0, [], 9256, false, []⟩
noncomputable def zq175.E (N : Nat) (G : Int → Option zq175.R) (hG : ∀ (a0 : Int) (r : zq175.R), G a0 = some r → Go.PM.Good Tryz.prog T0 61 [.one (.int .i64 a0)] [] (zq175.sig.ret r) (zq175.sig.bs r)) : List (Ent Tryz.prog T0) := [mkEnt 61 [(false, [.any])] zq175.sig (fun t => G t) (fun t r h => hG t r h)]
noncomputable def zq175.O (N : Nat) (G : Int → Option zq175.R) (hG : ∀ (a0 : Int) (r : zq175.R), G a0 = some r → Go.PM.Good Tryz.prog T0 61 [.one (.int .i64 a0)] [] (zq175.sig.ret r) (zq175.sig.bs r)) : Orc D0 zq175.R := orcOf (zq175.E N G hG)
noncomputable def zq175.K0 : Ex → St D0 → Option zq175.R := exitK zq175.C Tryz.f61.results.toList [(false, [.any])] (decOut zq175.sig)
noncomputable def zq175.c (p : Nat) : Code := codeAt (Tryz.f61.body.getD .skip) (pathN p)
noncomputable def zq175.o0 (N : Nat) (G : Int → Option zq175.R) (a0 : Int) : Option zq175.R :=
 bif (decide (a0 < 10)) then
  (numsO T0 5 ([((IntKind.wrap .u8) (w64 (48 + a0)))] : List Int)).bind fun r1 =>
  some ((strOfNums r1))
 else
 (G (w64 (Int.tdiv a0 10))).bind fun r2 =>
 (numsO T0 5 ([((IntKind.wrap .u8) (w64 (48 + (Int.tmod a0 10))))] : List Int)).bind fun r3 =>
 bif (Nat.ble (r2.size + (strOfNums r3).size) 9223372036854775807) then
  some ((r2 ++ (strOfNums r3)))
 else
 none
noncomputable def zq175.s (N : Nat) (G : Int → Option zq175.R) (a0 : Int) : Option zq175.R := zq175.o0 N G a0
theorem zq175.s.run (N : Nat) (G : Int → Option zq175.R) (hG : ∀ (a0 : Int) (r : zq175.R), G a0 = some r → Go.PM.Good Tryz.prog T0 61 [.one (.int .i64 a0)] [] (zq175.sig.ret r) (zq175.sig.bs r)) (a0 : Int) : runC zq175.C (zq175.O N G hG) N (zq175.c 1) 1 (st0 [.one (.int .i64 a0)] [] : St D0) zq175.K0 = zq175.s N G a0 := by kernel_rfl
noncomputable def zq175.gk (N : Nat) : Nat → Int → Option zq175.R
  | 0, _ => none
  | k + 1, a0 => zq175.s N (zq175.gk N k) a0
theorem zq175.goodk (N : Nat) : ∀ (k : Nat) (a0 : Int) (r : zq175.R), zq175.gk N k a0 = some r → Go.PM.Good Tryz.prog T0 61 [.one (.int .i64 a0)] [] (zq175.sig.ret r) (zq175.sig.bs r)
  | 0, _, _, h => by cases h
  | k + 1, a0, r, h => good_fn tabOk0 mixed0 zq175.sig (zq175.E N (zq175.gk N k) (zq175.goodk N k)) Tryz.func61 (by kernel_rfl) (by kernel_rfl) 21 0 0 [] 9256 false [] [(false, [.any])] (by kernel_rfl) rfl rfl ((zq175.s.run N (zq175.gk N k) (zq175.goodk N k) a0).trans h)
noncomputable def zq175.g (N : Nat) (a0 : Int) : Option zq175.R := zq175.gk N N a0
theorem zq175.good (N : Nat) (a0 : Int) (r : zq175.R) (h : zq175.g N a0 = some r) : Go.PM.Good Tryz.prog T0 61 [.one (.int .i64 a0)] [] (zq175.sig.ret r) (zq175.sig.bs r) := zq175.goodk N N a0 r h
noncomputable def zq175.ent (N : Nat) : Ent Tryz.prog T0 := mkEnt 61 [(false, [.any])] zq175.sig (fun t => zq175.g N t) (fun t r h => zq175.good N t r h)
namespace zq176
variable (N : Nat)
abbrev R : Type := Int
abbrev QQ : Type := St D0 → Option R
abbrev sig : Sig := ⟨[(false, 1)], [], [.str], [(false, 1)], [], [.i]⟩
noncomputable def C : Cfg D0 := ⟨Tryz.prog, T0, 17184325661, 0, 44, 0, [(12, [0, 18], []), (122, [0, 3, 4], []), (7824, [0, 3, 4, 34], [])], 450008466464, false, []⟩
def E : List (Ent Tryz.prog T0) := [zq173.ent N]
def O : Orc D0 R := orcOf (E N)
def K0 : Ex → QQ := exitK C Tryz.f119.results.toList [(false, [.any])] (decOut sig)
noncomputable def c (p : Nat) : Code := codeAt (Tryz.f119.body.getD .skip) (pathN p)
abbrev t2 : Type := BA → Int → Int → Option R
abbrev t3 : Type := BA → Int → Int → Bool → Option R
def s1 (v0 : BA) (v1 : Bool) : St D0 := mkSt [(0, .one (.str v0)), (18, .one (.bool v1))] []
def s2 (v0 : BA) (v1 v2 : Int) : St D0 := mkSt [(0, .one (.str v0)), (3, .one (.i v1)), (4, .one (.i v2))] []
def s3 (v0 : BA) (v1 v2 : Int) (v3 : Bool) : St D0 := mkSt [(0, .one (.str v0)), (3, .one (.i v1)), (4, .one (.i v2)), (34, .one (.bool v3))] []
def K7825 (Kn122 : QQ) : Ex → QQ := ((fun up => (onN (tk C (O N) N c 3912 3913 up) up)) (blockK 1 ((fun up => (onN (tk C (O N) N c 978 979 up) up)) ((fun up => (onN (fun s => C.tidy 122 s ((onN Kn122 up) .normal)) (onN Kn122 up))) (blockK 0 (onN (tk C (O N) N c 30 31 K0) K0))))))
def o3 (N : Nat) (v0 : BA) (v1 v2 : Int) (v3 : Bool) (c2 : t2) : Option R :=
 bif v3 then
  some ((-1))
 else
 bif (decide (0 ≤ v2)) then
  bif (decide (v2 < (v0.size : Int))) then
   c2 v0 (w64 ((w64 (10 * v1)) + (w64 ((IntKind.wrap .u8) ((bt v0 v2) - 48))))) (w64 (v2 + 1))
  else
  none
 else
 none
def d3 (v0 : BA) (v1 v2 : Int) (v3 : Bool) (c2 : t2) : Option R := o3 N v0 v1 v2 v3 c2
theorem d3.run (Kn122 : QQ) (v0 : BA) (v1 v2 : Int) (v3 : Bool) : runC C (O N) N (c 7825) 7825 (s3 v0 v1 v2 v3) (K7825 N Kn122) = d3 N v0 v1 v2 v3 (Kn122 <| s2 · · ·) := by kernel_rfl
def K244 (Kn122 : QQ) : Ex → QQ := ((fun up => (onN (fun s => C.tidy 122 s ((onN Kn122 up) .normal)) (onN Kn122 up))) (blockK 0 (onN (tk C (O N) N c 30 31 K0) K0)))
def o2 (N : Nat) (v0 : BA) (v1 v2 : Int) (c3 : t3) : Option R :=
 bif (decide (v2 < (v0.size : Int))) then
  bif (decide (0 ≤ v2)) then
   bif (decide (v2 < (v0.size : Int))) then
    bif (decide ((bt v0 v2) < 48)) then
     c3 v0 v1 v2 true
    else
    bif (decide (0 ≤ v2)) then
     bif (decide (v2 < (v0.size : Int))) then
      c3 v0 v1 v2 (decide ((bt v0 v2) > 57))
     else
     none
    else
    none
   else
   none
  else
  none
 else
 some (v1)
theorem o2.run (Kn122 : QQ) (H7825 : Code) (v0 : BA) (v1 v2 : Int) : runC C (O N) N (.seq (c 488) (.seq (.block 1 (.seq (.seq (c 7824) H7825) (c 3913))) (c 979))) 244 (s2 v0 v1 v2) ((fun up => (onN (fun s => C.tidy 122 s ((onN Kn122 up) .normal)) (onN Kn122 up))) (blockK 0 (onN (tk C (O N) N c 30 31 K0) K0))) = o2 N v0 v1 v2 ((fun w0 w1 w2 w3 => runC C (O N) N H7825 7825 (s3 w0 w1 w2 w3) ((fun up => (onN (tk C (O N) N c 3912 3913 up) up)) (blockK 1 ((fun up => (onN (tk C (O N) N c 978 979 up) up)) ((fun up => (onN (fun s => C.tidy 122 s ((onN Kn122 up) .normal)) (onN Kn122 up))) (blockK 0 (onN (tk C (O N) N c 30 31 K0) K0)))))))) := by kernel_rfl
def d2 (v0 : BA) (v1 v2 : Int) (c2 : t2) : Option R := o2 N v0 v1 v2 (d3 N · · · · c2)
theorem c244_2 : (c 244) = (.seq (c 488) (.seq (.block 1 (.seq (.seq (c 7824) (c 7825)) (c 3913))) (c 979))) := by kernel_rfl
theorem d2.run (Kn122 : QQ) (v0 : BA) (v1 v2 : Int) : runC C (O N) N (c 244) 244 (s2 v0 v1 v2) (K244 N Kn122) = d2 N v0 v1 v2 (Kn122 <| s2 · · ·) := by
  rw [c244_2]; unfold d2; exact (o2.run N Kn122 (c 7825) v0 v1 v2).trans (congr rfl (fx4 (d3.run N Kn122)))
def K122 : Ex → QQ := (blockK 0 (onN (tk C (O N) N c 30 31 K0) K0))
def l2 (N : Nat) : Nat → BA → Int → Int → Option R
  | 0, _, _, _ => none
  | n + 1, v0, v1, v2 => d2 N v0 v1 v2 (l2 N n · · ·)
theorem loop122 (N : Nat) : ∀ n, (∀ (v0 : BA) (v1 v2 : Int), iter (loopF C (O N) N (c 244) 122) n (s2 v0 v1 v2) (K122 N) = l2 N n v0 v1 v2)
  | 0 => (by intros; rfl)
  | n + 1 => (fun v0 v1 v2 => (d2.run N (fun s => iter (loopF C (O N) N (c 244) 122) n s (K122 N)) v0 v1 v2).trans (show _ = d2 N v0 v1 v2 (l2 N n · · ·) from (congr rfl (fx3 ((loop122 N n))))))
def K13 : Ex → QQ := (onN (tk C (O N) N c 6 7 K0) K0)
def o1 (N : Nat) (v0 : BA) (v1 : Bool) (c2 : t2) : Option R :=
 bif v1 then
  some ((-1))
 else
 c2 v0 0 0
theorem o1.run (H244 : Code) (v0 : BA) (v1 : Bool) : runC C (O N) N (c 13) 13 (s1 v0 v1) (onN (fun s => C.tidy 6 s (fun s' => runC C (O N) N (.seq (c 14) (.seq (.seq (c 60) (.block 0 (.loop H244))) (c 31))) 7 s' K0)) K0) = o1 N v0 v1 ((fun w0 w1 w2 => iter (loopF C (O N) N H244 122) N (s2 w0 w1 w2) (blockK 0 (onN (tk C (O N) N c 30 31 K0) K0)))) := by kernel_rfl
def d1 (v0 : BA) (v1 : Bool) : Option R := o1 N v0 v1 (l2 N N · · ·)
theorem d1.run (v0 : BA) (v1 : Bool) : runC C (O N) N (c 13) 13 (s1 v0 v1) (K13 N) = d1 N v0 v1 := by
  unfold d1; exact (o1.run N (c 244) v0 v1).trans (congr rfl (fx3 ((loop122 N N))))
def o0 (a0 : BA) (c1 : BA → Bool → Option R) : Option R :=
 (zq173.g N (a0.size : Int) 1 6).bind fun r1 =>
 bif (!r1) then
  c1 a0 true
 else
 bif (decide (0 < (a0.size : Int))) then
  bif ((bt a0 0) == 48) then
   c1 a0 (decide ((a0.size : Int) > 1))
  else
  c1 a0 false
 else
 none
theorem o0.run (H13 : Code) (a0 : BA) : runC C (O N) N (.seq (c 2) (.seq (.seq (c 12) H13) (c 7))) 1 (st0 [.one (.str a0)] [] : St D0) K0 = o0 N a0 ((fun w0 w1 => runC C (O N) N H13 13 (s1 w0 w1) (onN (tk C (O N) N c 6 7 K0) K0))) := by kernel_rfl
def g (a0 : BA) : Option R := o0 N a0 ((fun w0 w1 => d1 N w0 w1))
theorem c1_0 : (c 1) = (.seq (c 2) (.seq (.seq (c 12) (c 13)) (c 7))) := by kernel_rfl
theorem g.run (a0 : BA) : runC C (O N) N (c 1) 1 (st0 [.one (.str a0)] [] : St D0) K0 = g N a0 := by
  rw [c1_0]; unfold g; exact (o0.run N (c 13) a0).trans (congr rfl (fx2 (d1.run N)))
def ent : Ent Tryz.prog T0 := mkEntC C tabOk0 mixed0 119 [(false, [.any])] sig (E N) Tryz.func119 (by kernel_rfl) [(false, [.any])] N (fun t => g N t) (fun _ => by kernel_rfl) (fun t => g.run N t)
end zq176
end Go.Proofs.YtdidghlibfopgaaGreatDoor.M
namespace Go.Proofs.YtdidghlibfopgaaGreatDoor.M
open Go Go.PM Go.Proofs.YtdidghlibfopgaaGreatDoor.P
set_option linter.unusedVariables false
set_option maxRecDepth 100000
open Go.RowKit Go.Lib
abbrev zq69.R : Type := Int × Bool
abbrev zq69.sig : Sig := ⟨[(false, 1), (false, 1)], [], [.str, .int .i64], [(false, 1), (false, 1)], [], [.int .i64, .bool]⟩
theorem zq69.asd {p : Prop} (h : p) : Aside p := h
noncomputable def zq69.v (a0 : ByteArray) (a1 : Int) : Int × Bool := match Lib.atoiAll a0.data.toList with
  | .ok v => if 0 ≤ v ∧ v ≤ a1 then (if Lib.itoa v = a0.toList then (v, true) else (0, false)) else (0, false)
  | _ => (0, false)
noncomputable def zq69.g (N : Nat) (a0 : ByteArray) (a1 : Int) : Option zq69.R := bif decide (a0.size ≤ 281474976710656) && decide (a1 ≤ 9223372036854775807) then some (zq69.v a0 a1) else none
theorem zq69.gr {w w2 w3 : World} (hb : Below w.heap.size w w2) (h : ∃ k os, w3 = Go.Sort.grow (w2.drewN k) os) : Below w.heap.size w w3 := by
  obtain ⟨k, os, rfl⟩ := h
  refine ⟨hb.os, hb.tape, hb.output, ?_, fun i hi => ?_⟩
  · show w.heap.size ≤ (w2.heap ++ os).size
    rw [Array.size_append]; have := hb.size; omega
  · show (w2.heap ++ os)[i]? = w.heap[i]?
    rw [Array.getElem?_append_left (by have := hb.size; omega)]
    exact hb.block i hi
theorem zq69.bw (w : World) (t : ByteArray) : Below w.heap.size w (Lib.bytesWorld w 5 t) := ⟨rfl, rfl, rfl, by rw [Lib.bytesWorld_size]; omega, fun i hi => Lib.bytesWorld_at_old w 5 t i (by omega)⟩
theorem zq69.within (v a1 : Int) (w : World) (hG : GlW w) : Calls Tryz.prog 79 #[.int .i64 v, .int .i64 0, .int .i64 a1] w fun e w' => e = .returned (.bool (decide (0 ≤ v ∧ v ≤ a1))) ∧ Below w.heap.size w w' := by
  have hw : zq81.g 0 v 0 a1 = some (decide (0 ≤ v ∧ v ≤ a1)) := by
    unfold zq81.g zq81.o0
    by_cases h : 0 ≤ v
    · rw [decide_eq_true (show v ≥ 0 from h), cond_true]; simp [h]
    · rw [decide_eq_false (show ¬ v ≥ 0 from h), cond_false]; simp [h]
  exact law_calls (zq81.good 0 v 0 a1 _ hw) #[.int .i64 v, .int .i64 0, .int .i64 a1] (.cons (ERep.int _ _) (.cons (ERep.int _ _) (.cons (ERep.int _ _) .nil))) rfl rfl (fun C b u h => inv_bool h) hG
set_option maxHeartbeats 2000000 in
set_option maxRecDepth 100000 in
theorem zq69.walk (a0 : ByteArray) (a1 : Int) (hlim : a0.size ≤ 281474976710656) (h63 : a1 ≤ 9223372036854775807) (r1 : Int) (r2 : Bool) (w : World) (hG : GlW w) (hv : zq69.v a0 a1 = (r1, r2)) :
    Calls Tryz.prog 92 #[.string a0, .int .i64 a1] w fun e w' => e = .returned (.tuple #[.int .i64 r1, .bool r2]) ∧ Below w.heap.size w w' := by
  have HG := zq69.asd hG
  clear hG
  unfold zq69.v at hv
  rcases hat : Lib.atoiAll a0.data.toList with v | _ | _
  · rw [hat] at hv
    have hv2 : (if 0 ≤ v ∧ v ≤ a1 then (if Lib.itoa v = a0.toList then (v, true) else (0, false)) else (0, false)) = (r1, r2) := hv
    clear hv
    have HA := zq69.asd (Tryz.strconv_Atoi_ok a0 (by omega) v hat)
    clear hat
    have hfrom : ∀ w' : World, (w' = w ∨ ∃ t, w' = Lib.bytesWorld w 5 t) → Below w.heap.size w w' := by
      rintro w' (rfl | ⟨t, rfl⟩)
      · exact Below.refl _ _
      · exact zq69.bw w t
    have HF := zq69.asd hfrom
    clear hfrom
    by_cases c1 : 0 ≤ v ∧ v ≤ a1
    · rw [if_pos c1] at hv2
      have HW := zq69.asd (fun (W : World) (hg : GlW W) => by have := zq69.within v a1 W hg; rw [decide_eq_true c1] at this; exact this)
      have HI := zq69.asd (fun (W : World) (hg : GlW W) => Tryz.strconv_Itoa v (by omega) (by omega) W hg.tab)
      clear c1
      by_cases c2 : Lib.itoa v = a0.toList
      · rw [if_pos c2] at hv2
        simp only [Prod.mk.injEq] at hv2
        obtain ⟨rfl, rfl⟩ := hv2
        have c2b0 : (Lib.itoa v == a0.toList) = true := beq_iff_eq.mpr c2
        have c2b1 : (Lib.itoa v != a0.toList) = false := bne_eq_false_iff_eq.mpr c2
        clear c2
        go_enter Tryz.func92, Tryz.ntmps92
        go_wp2_with (first | (go_at_call 151; refine (HA.out _).mono ?_; rintro e w1 ⟨rfl, hw⟩; have HB := zq69.asd (HF.out _ hw); clear hw) | (go_at_call 79; refine (HW.out _ (HG.out.below HB.out)).mono ?_; rintro e w2 ⟨rfl, hb⟩; have HB2 := zq69.asd (HB.out.trans (hb.mono HB.out.size)); clear hb) | (go_at_call 48; refine (HI.out _ (HG.out.below HB2.out)).mono ?_; rintro e w3 ⟨rfl, hk⟩; have HB3 := zq69.asd (zq69.gr HB2.out hk); clear hk))
        go_ret2
        exact ⟨rfl, HB3.out⟩
      · rw [if_neg c2] at hv2
        simp only [Prod.mk.injEq] at hv2
        obtain ⟨rfl, rfl⟩ := hv2
        have c2b0 : (Lib.itoa v == a0.toList) = false := beq_eq_false_iff_ne.mpr c2
        have c2b1 : (Lib.itoa v != a0.toList) = true := bne_iff_ne.mpr c2
        clear c2
        go_enter Tryz.func92, Tryz.ntmps92
        go_wp2_with (first | (go_at_call 151; refine (HA.out _).mono ?_; rintro e w1 ⟨rfl, hw⟩; have HB := zq69.asd (HF.out _ hw); clear hw) | (go_at_call 79; refine (HW.out _ (HG.out.below HB.out)).mono ?_; rintro e w2 ⟨rfl, hb⟩; have HB2 := zq69.asd (HB.out.trans (hb.mono HB.out.size)); clear hb) | (go_at_call 48; refine (HI.out _ (HG.out.below HB2.out)).mono ?_; rintro e w3 ⟨rfl, hk⟩; have HB3 := zq69.asd (zq69.gr HB2.out hk); clear hk))
        go_ret2
        exact ⟨rfl, HB3.out⟩
    · rw [if_neg c1] at hv2
      simp only [Prod.mk.injEq] at hv2
      obtain ⟨rfl, rfl⟩ := hv2
      have HW := zq69.asd (fun (W : World) (hg : GlW W) => by have := zq69.within v a1 W hg; rw [decide_eq_false c1] at this; exact this)
      clear c1
      go_enter Tryz.func92, Tryz.ntmps92
      go_wp2_with (first | (go_at_call 151; refine (HA.out _).mono ?_; rintro e w1 ⟨rfl, hw⟩; have HB := zq69.asd (HF.out _ hw); clear hw) | (go_at_call 79; refine (HW.out _ (HG.out.below HB.out)).mono ?_; rintro e w2 ⟨rfl, hb⟩; have HB2 := zq69.asd (HB.out.trans (hb.mono HB.out.size)); clear hb))
      go_ret2
      exact ⟨rfl, HB2.out⟩
  · rw [hat] at hv
    simp only [Prod.mk.injEq] at hv
    obtain ⟨rfl, rfl⟩ := hv
    obtain ⟨tp, p, hcell⟩ := HG.out.errS
    have HA := zq69.asd (show Calls Tryz.prog 151 #[.string a0] w fun e w' => ∃ N, e = .returned (.tuple #[.int .i64 (0), .iface 213 (.pointer (some ⟨N, 0, none⟩))]) ∧ w.heap.size ≤ N ∧ w'.heap[N]? = some (.cells #[.string ⟨#[65, 116, 111, 105]⟩, .string a0, .iface tp p] 230 (0, 0)) ∧ Below w.heap.size w w' from Go.Proofs.Any.strconv_Atoi_syntax Tryz.laysC172 a0 hlim hat (.iface tp p) w hcell (Or.inr ⟨tp, p, rfl⟩))
    clear hat hcell
    go_enter Tryz.func92, Tryz.ntmps92
    go_wp2_with (go_at_call 151; refine HA.out.mono ?_; rintro e w' ⟨N, rfl, hN, hh, hb⟩; have HB := zq69.asd hb; clear hb hh hN)
    go_ret2
    exact ⟨rfl, HB.out⟩
  · rw [hat] at hv
    simp only [Prod.mk.injEq] at hv
    obtain ⟨rfl, rfl⟩ := hv
    obtain ⟨tp, p, hcell⟩ := HG.out.errR
    have HA := zq69.asd (Tryz.strconv_Atoi_range a0 hlim hat (.iface tp p) w hcell (Or.inr ⟨tp, p, rfl⟩))
    clear hat hcell
    generalize Lib.atoiSat a0.data.toList = sat at HA
    go_enter Tryz.func92, Tryz.ntmps92
    go_wp2_with (go_at_call 151; refine HA.out.mono ?_; rintro e w' ⟨N, rfl, hN, hh, hb⟩; have HB := zq69.asd hb; clear hb hh hN)
    go_ret2
    exact ⟨rfl, HB.out⟩
theorem zq69.good (N : Nat) (a0 : ByteArray) (a1 : Int) (r : zq69.R) (h : zq69.g N a0 a1 = some r) : Go.PM.Good Tryz.prog T0 92 [.one (.str a0), .one (.int .i64 a1)] [] (zq69.sig.ret r) (zq69.sig.bs r) := by
  obtain ⟨hc, h⟩ := bif_some h
  simp only [Bool.and_eq_true, decide_eq_true_eq] at hc
  have hr := Option.some.inj h
  refine good_glob (T := T0) ⟨_, Tryz.func92, by kernel_rfl, rfl⟩ [.one (.str a0), .one (.int .i64 a1)] (ret := zq69.sig.ret r) rfl rfl ?_
  intro w C blk vargs hsz hrep hag hgl
  have ev : vargs = #[.string a0, .int .i64 a1] := (args2 hsz).trans (by rw [rep_str (hrep 0), rep_int (hrep 1)])
  rw [ev]
  refine (zq69.walk a0 a1 hc.1 hc.2 r.1 r.2 w hgl hr).mono ?_
  rintro e w' ⟨rfl, hB⟩
  exact ⟨_, rfl, ⟨_, rfl, .cons (crep1 (ERep.int _ _)) (.cons (crep1 (ERep.bool _)) .nil)⟩, hB⟩
noncomputable def zq69.ent (N : Nat) : Ent Tryz.prog T0 := mkEnt 92 [(false, [.any]), (false, [.any])] zq69.sig (fun t => zq69.g N t.1 t.2) (fun t r h => zq69.good N t.1 t.2 r h)
abbrev zq183.R : Type := Int × Bool
abbrev zq183.sig : Sig := ⟨[(false, 1)], [], [.str], [(false, 1), (false, 1)], [], [.int .i64, .er]⟩
noncomputable def zq183.v (a0 : ByteArray) : Int × Bool := match Lib.atoiAll a0.data.toList with
  | .ok v => (v, true)
  | .range => (Lib.atoiSat a0.data.toList, false)
  | _ => (0, false)
noncomputable def zq183.g (N : Nat) (a0 : ByteArray) : Option zq183.R := bif decide (a0.size ≤ 281474976710656) then some (zq183.v a0) else none
theorem zq183.bw (w : World) (t : ByteArray) : Below w.heap.size w (Lib.bytesWorld w 5 t) := ⟨rfl, rfl, rfl, by rw [Lib.bytesWorld_size]; omega, fun i hi => Lib.bytesWorld_at_old w 5 t i (by omega)⟩
theorem zq183.good (N : Nat) (a0 : ByteArray) (r : zq183.R) (h : zq183.g N a0 = some r) : Go.PM.Good Tryz.prog T0 151 [.one (.str a0)] [] (zq183.sig.ret r) (zq183.sig.bs r) := by
  obtain ⟨hc, h⟩ := bif_some h
  have hlim : a0.size ≤ 281474976710656 := of_decide_eq_true hc
  cases Option.some.inj h
  refine good_glob (T := T0) ⟨_, Tryz.func151, by kernel_rfl, rfl⟩ [.one (.str a0)] (ret := zq183.sig.ret (zq183.v a0)) rfl rfl ?_
  intro w C blk vargs hsz hrep hag hgl
  have ev : vargs = #[.string a0] := (args1 hsz).trans (by rw [rep_str (hrep 0)])
  rw [ev]
  have HG : GlW w := hgl
  rcases hat : Lib.atoiAll a0.data.toList with v | _ | _
  · have hv : zq183.v a0 = (v, true) := by unfold zq183.v; rw [hat]
    rw [hv]
    refine (Tryz.strconv_Atoi_ok a0 (by omega) v hat w).mono ?_
    rintro e w' ⟨rfl, hw⟩
    refine ⟨_, rfl, ⟨_, rfl, .cons (crep1 (ERep.int _ _)) (.cons (crep1 (Or.inl ⟨rfl, rfl⟩)) .nil)⟩, ?_⟩
    rcases hw with rfl | ⟨t, rfl⟩
    · exact Below.refl _ _
    · exact zq183.bw w t
  · have hv : zq183.v a0 = (0, false) := by unfold zq183.v; rw [hat]
    rw [hv]
    obtain ⟨tp, p, hcell⟩ := HG.errS
    refine (show Calls Tryz.prog 151 #[.string a0] w fun e w' => ∃ N, e = .returned (.tuple #[.int .i64 (0), .iface 213 (.pointer (some ⟨N, 0, none⟩))]) ∧ w.heap.size ≤ N ∧ w'.heap[N]? = some (.cells #[.string ⟨#[65, 116, 111, 105]⟩, .string a0, .iface tp p] 230 (0, 0)) ∧ Below w.heap.size w w' from Go.Proofs.Any.strconv_Atoi_syntax Tryz.laysC172 a0 hlim hat (.iface tp p) w hcell (Or.inr ⟨tp, p, rfl⟩)).mono ?_
    rintro e w' ⟨N, rfl, hN, hh, hb⟩
    exact ⟨_, rfl, ⟨_, rfl, .cons (crep1 (ERep.int _ _)) (.cons (crep1 (Or.inr ⟨rfl, _, _, rfl⟩)) .nil)⟩, hb⟩
  · have hv : zq183.v a0 = (Lib.atoiSat a0.data.toList, false) := by unfold zq183.v; rw [hat]
    rw [hv]
    obtain ⟨tp, p, hcell⟩ := HG.errR
    refine (Tryz.strconv_Atoi_range a0 hlim hat (.iface tp p) w hcell (Or.inr ⟨tp, p, rfl⟩)).mono ?_
    rintro e w' ⟨N, rfl, hN, hh, hb⟩
    exact ⟨_, rfl, ⟨_, rfl, .cons (crep1 (ERep.int _ _)) (.cons (crep1 (Or.inr ⟨rfl, _, _, rfl⟩)) .nil)⟩, hb⟩
noncomputable def zq183.ent (N : Nat) : Ent Tryz.prog T0 := mkEnt 151 [(false, [.any])] zq183.sig (fun t => zq183.g N t) (fun t r h => zq183.good N t r h)
abbrev zq184.R : Type := ByteArray
abbrev zq184.sig : Sig := ⟨[(false, 1)], [], [.int .i64], [(false, 1)], [], [.str]⟩
noncomputable def zq184.g (N : Nat) (a0 : Int) : Option zq184.R := bif decide (0 ≤ a0) && decide (a0 ≤ 9223372036854775807) then some ⟨(Lib.itoa a0).toArray⟩ else none
theorem zq184.gr {w w2 w3 : World} (hb : Below w.heap.size w w2) (h : ∃ k os, w3 = Go.Sort.grow (w2.drewN k) os) : Below w.heap.size w w3 := by
  obtain ⟨k, os, rfl⟩ := h
  refine ⟨hb.os, hb.tape, hb.output, ?_, fun i hi => ?_⟩
  · show w.heap.size ≤ (w2.heap ++ os).size
    rw [Array.size_append]; have := hb.size; omega
  · show (w2.heap ++ os)[i]? = w.heap[i]?
    rw [Array.getElem?_append_left (by have := hb.size; omega)]
    exact hb.block i hi
theorem zq184.good (N : Nat) (a0 : Int) (r : zq184.R) (h : zq184.g N a0 = some r) : Go.PM.Good Tryz.prog T0 48 [.one (.int .i64 a0)] [] (zq184.sig.ret r) (zq184.sig.bs r) := by
  obtain ⟨hc, h⟩ := bif_some h
  simp only [Bool.and_eq_true, decide_eq_true_eq] at hc
  cases Option.some.inj h
  refine good_glob (T := T0) ⟨_, Tryz.func48, by kernel_rfl, rfl⟩ [.one (.int .i64 a0)] (ret := .one (.str _)) rfl rfl ?_
  intro w C blk vargs hsz hrep hag hgl
  have ev : vargs = #[.int .i64 a0] := (args1 hsz).trans (by rw [rep_int (hrep 0)])
  rw [ev]
  refine (Tryz.strconv_Itoa a0 (by omega) (by omega) w (GlW.tab hgl)).mono ?_
  rintro e w' ⟨rfl, hk⟩
  exact ⟨_, rfl, ERep.str _, zq184.gr (Below.refl _ _) hk⟩
noncomputable def zq184.ent (N : Nat) : Ent Tryz.prog T0 := mkEnt 48 [(false, [.any])] zq184.sig (fun t => zq184.g N t) (fun t r h => zq184.good N t r h)
end Go.Proofs.YtdidghlibfopgaaGreatDoor.M
namespace Go.Proofs.YtdidghlibfopgaaGreatDoor.M
open Go Go.PM Go.Proofs.YtdidghlibfopgaaGreatDoor.P
set_option linter.unusedVariables false
set_option maxRecDepth 100000
namespace zq52
variable (N : Nat)
abbrev R : Type := Int × Int
abbrev sig : Sig := ⟨[(false, 1), (false, 1)], [], [.i, .i], [(false, 1), (false, 1)], [], [.i, .i]⟩
noncomputable def C : Cfg D0 := ⟨Tryz.prog, T0, 33011, 0, 23, 0, [(14, [6, 7], [])], 875264, false, []⟩
def E (N : Nat) : List (Ent Tryz.prog T0) := []
def O : Orc D0 R := orcOf (E N)
def K0 : Ex → St D0 → Option R := exitK C Tryz.f81.results.toList [(false, [.any]), (false, [.any])] (decOut sig)
noncomputable def c (p : Nat) : Code := codeAt (Tryz.f81.body.getD .skip) (pathN p)
def s1 (v0 v1 : Int) : St D0 := mkSt [(6, .one (.i v0)), (7, .one (.i v1))] []
def K15 (N : Nat) : Ex → St D0 → Option R := K0
def o1 (N : Nat) (v0 v1 : Int) : Option R :=
 some (v0, v1)
def d1 (v0 v1 : Int) : Option R := o1 N v0 v1
theorem d1.run (v0 v1 : Int) : runC C (O N) N (c 15) 15 (s1 v0 v1) (K15 N) = d1 N v0 v1 := by kernel_rfl
def o0 (N : Nat) (a0 a1 : Int) (c1 : Int → Int → Option R) : Option R :=
 bif (a1 == 0) then
  none
 else
 bif (a1 == 0) then
  none
 else
 bif (decide ((Int.tmod a0 a1) < 0)) then
  c1 (w64 ((w64 (Int.tdiv a0 a1)) - 1)) (w64 ((Int.tmod a0 a1) + a1))
 else
 c1 (w64 (Int.tdiv a0 a1)) (Int.tmod a0 a1)
theorem o0.run (H15 : Code) (a0 a1 : Int) : runC C (O N) N (.seq (c 2) (.seq (c 6) (.seq (c 14) H15))) 1 (st0 [.one (.i a0), .one (.i a1)] [] : St D0) K0 = o0 N a0 a1 ((fun w0 w1 => runC C (O N) N H15 15 (s1 w0 w1) K0)) := by kernel_rfl
def g (a0 a1 : Int) : Option R := o0 N a0 a1 ((fun w0 w1 => d1 N w0 w1))
theorem c1_0 : (c 1) = (.seq (c 2) (.seq (c 6) (.seq (c 14) (c 15)))) := by kernel_rfl
theorem g.run (a0 a1 : Int) : runC C (O N) N (c 1) 1 (st0 [.one (.i a0), .one (.i a1)] [] : St D0) K0 = g N a0 a1 := by
  rw [c1_0]; unfold g; exact (o0.run N (c 15) a0 a1).trans (congr rfl (fx2 (d1.run N)))
def ent : Ent Tryz.prog T0 := mkEntC C tabOk0 mixed0 81 [(false, [.any]), (false, [.any])] sig (E N) Tryz.func81 (by kernel_rfl) [(false, [.any]), (false, [.any])] N (fun t => g N t.1 t.2) (fun _ => by kernel_rfl) (fun t => g.run N t.1 t.2)
end zq52
namespace zq55
variable (N : Nat)
abbrev R : Type := Int
abbrev QQ : Type := St D0 → Option R
abbrev sig : Sig := ⟨[(false, 1), (false, 1)], [], [.i, .i], [(false, 1)], [], [.i]⟩
noncomputable def C : Cfg D0 := ⟨Tryz.prog, T0, 83, 0, 15, 0, [(12, [0, 1], [])], 7072, false, []⟩
def E (N : Nat) : List (Ent Tryz.prog T0) := []
def O : Orc D0 R := orcOf (E N)
def K0 : Ex → QQ := exitK C Tryz.f80.results.toList [(false, [.any])] (decOut sig)
noncomputable def c (p : Nat) : Code := codeAt (Tryz.f80.body.getD .skip) (pathN p)
def s1 (v0 v1 : Int) : St D0 := mkSt [(0, .one (.i v0)), (1, .one (.i v1))] []
def K24 (Kn12 : QQ) : Ex → QQ := ((fun up => (onN (fun s => C.tidy 12 s ((onN Kn12 up) .normal)) (onN Kn12 up))) (blockK 0 (onN (tk C (O N) N c 6 7 K0) K0)))
def o1 (N : Nat) (v0 v1 : Int) (c1 : Int → Int → Option R) : Option R :=
 bif (v1 != 0) then
  bif (v1 == 0) then
   none
  else
  c1 v1 (Int.tmod v0 v1)
 else
 some ((if (w64 (0 - v0)) > v0 then (w64 (0 - v0)) else v0))
def d1 (v0 v1 : Int) (c1 : Int → Int → Option R) : Option R := o1 N v0 v1 c1
theorem d1.run (Kn12 : QQ) (v0 v1 : Int) : runC C (O N) N (c 24) 24 (s1 v0 v1) (K24 N Kn12) = d1 N v0 v1 ((fun w0 w1 => Kn12 (s1 w0 w1))) := by kernel_rfl
def K12 : Ex → QQ := (blockK 0 (onN (tk C (O N) N c 6 7 K0) K0))
def l1 (N : Nat) : Nat → Int → Int → Option R
  | 0, _, _ => none
  | n + 1, v0, v1 => d1 N v0 v1 ((fun w0 w1 => l1 N n w0 w1))
theorem loop12 (N : Nat) : ∀ n, (∀ (v0 v1 : Int), iter (loopF C (O N) N (c 24) 12) n (s1 v0 v1) (K12 N) = l1 N n v0 v1)
  | 0 => (by intros; rfl)
  | n + 1 => (fun v0 v1 => (d1.run N (fun s => iter (loopF C (O N) N (c 24) 12) n s (K12 N)) v0 v1).trans (show _ = d1 N v0 v1 ((fun w0 w1 => l1 N n w0 w1)) from (congr rfl (fx2 ((loop12 N n))))))
def o0 (N : Nat) (a0 a1 : Int) (c1 : Int → Int → Option R) : Option R :=
 c1 a0 a1
theorem o0.run (H24 : Code) (a0 a1 : Int) : runC C (O N) N (.seq (c 2) (.seq (.block 0 (.loop H24)) (c 7))) 1 (st0 [.one (.i a0), .one (.i a1)] [] : St D0) K0 = o0 N a0 a1 ((fun w0 w1 => iter (loopF C (O N) N H24 12) N (s1 w0 w1) (blockK 0 (onN (tk C (O N) N c 6 7 K0) K0)))) := by kernel_rfl
def g (a0 a1 : Int) : Option R := o0 N a0 a1 ((fun w0 w1 => l1 N N w0 w1))
theorem c1_0 : (c 1) = (.seq (c 2) (.seq (.block 0 (.loop (c 24))) (c 7))) := by kernel_rfl
theorem g.run (a0 a1 : Int) : runC C (O N) N (c 1) 1 (st0 [.one (.i a0), .one (.i a1)] [] : St D0) K0 = g N a0 a1 := by
  rw [c1_0]; unfold g; exact (o0.run N (c 24) a0 a1).trans (congr rfl (fx2 ((loop12 N N))))
def ent : Ent Tryz.prog T0 := mkEntC C tabOk0 mixed0 80 [(false, [.any]), (false, [.any])] sig (E N) Tryz.func80 (by kernel_rfl) [(false, [.any])] N (fun t => g N t.1 t.2) (fun _ => by kernel_rfl) (fun t => g.run N t.1 t.2)
end zq55
namespace zq67
variable (N : Nat)
abbrev R : Type := Int × Int
abbrev sig : Sig := ⟨[(false, 1), (false, 1)], [], [.i, .i], [(true, 2)], [], [.i, .i]⟩
noncomputable def C : Cfg D0 := ⟨Tryz.prog, T0, 211, 0, 24, 0, [], 3589632, false, []⟩
def E : List (Ent Tryz.prog T0) := [zq52.ent N, zq55.ent N]
def O : Orc D0 R := orcOf (E N)
def K0 : Ex → St D0 → Option R := exitK C Tryz.f47.results.toList [(true, [.any, .any])] (decOut sig)
noncomputable def c (p : Nat) : Code := codeAt (Tryz.f47.body.getD .skip) (pathN p)
def o0 (a0 a1 : Int) : Option R :=
 (zq52.g N a0 a1).bind fun r1 =>
 (zq55.g N r1.2 a1).bind fun r2 =>
 bif (r2 == 0) then
  none
 else
 bif (r2 == 0) then
  none
 else
 some ((w64 (Int.tdiv r1.2 r2)), (w64 (Int.tdiv a1 r2)))
def g (a0 a1 : Int) : Option R := o0 N a0 a1
theorem g.run (a0 a1 : Int) : runC C (O N) N (c 1) 1 (st0 [.one (.i a0), .one (.i a1)] [] : St D0) K0 = g N a0 a1 := by kernel_rfl
def ent : Ent Tryz.prog T0 := mkEntC C tabOk0 mixed0 47 [(false, [.any]), (false, [.any])] sig (E N) Tryz.func47 (by kernel_rfl) [(true, [.any, .any])] N (fun t => g N t.1 t.2) (fun _ => by kernel_rfl) (fun t => g.run N t.1 t.2)
end zq67
namespace zq43
variable (N : Nat)
abbrev R : Type := Int × Int
abbrev sig : Sig := ⟨[(true, 2), (false, 1)], [], [.i, .i, .i], [(true, 2)], [], [.i, .i]⟩
noncomputable def C : Cfg D0 := ⟨Tryz.prog, T0, 23, 0, 12, 0, [], 128, false, []⟩
def E : List (Ent Tryz.prog T0) := [zq67.ent N]
def O : Orc D0 R := orcOf (E N)
def K0 : Ex → St D0 → Option R := exitK C Tryz.f162.results.toList [(true, [.any, .any])] (decOut sig)
noncomputable def c (p : Nat) : Code := codeAt (Tryz.f162.body.getD .skip) (pathN p)
def o0 (a0_0 a0_1 a1 : Int) : Option R :=
 (zq67.g N (w64 (a0_0 * a1)) a0_1).bind fun r1 =>
 some (r1.1, r1.2)
def g (a0_0 a0_1 a1 : Int) : Option R := o0 N a0_0 a0_1 a1
theorem g.run (a0_0 a0_1 a1 : Int) : runC C (O N) N (c 1) 1 (st0 [.agg [.i a0_0, .i a0_1], .one (.i a1)] [] : St D0) K0 = g N a0_0 a0_1 a1 := by kernel_rfl
def ent : Ent Tryz.prog T0 := mkEntC C tabOk0 mixed0 162 [(true, [.any, .any]), (false, [.any])] sig (E N) Tryz.func162 (by kernel_rfl) [(true, [.any, .any])] N (fun t => g N t.1 t.2.1 t.2.2) (fun _ => by kernel_rfl) (fun t => g.run N t.1 t.2.1 t.2.2)
end zq43
namespace zq20
variable (N : Nat)
abbrev R : Type := Bool
abbrev sig : Sig := ⟨[(true, 2)], [], [.i, .i], [(false, 1)], [], [.bool]⟩
noncomputable def C : Cfg D0 := ⟨Tryz.prog, T0, 7, 0, 22, 0, [], 0, false, []⟩
def E : List (Ent Tryz.prog T0) := [zq81.ent N, zq55.ent N]
def O : Orc D0 R := orcOf (E N)
def K0 : Ex → St D0 → Option R := exitK C Tryz.f78.results.toList [(false, [.any])] (decOut sig)
noncomputable def c (p : Nat) : Code := codeAt (Tryz.f78.body.getD .skip) (pathN p)
def o0 (a0_0 a0_1 : Int) : Option R :=
 (zq81.g N a0_1 1 1000000).bind fun r1 =>
 bif r1 then
  (zq81.g N a0_0 0 (w64 (a0_1 - 1))).bind fun r2 =>
  bif r2 then
   (zq55.g N a0_0 a0_1).bind fun r3 =>
   some ((r3 == 1))
  else
  some (false)
 else
 some (false)
def g (a0_0 a0_1 : Int) : Option R := o0 N a0_0 a0_1
theorem g.run (a0_0 a0_1 : Int) : runC C (O N) N (c 1) 1 (st0 [.agg [.i a0_0, .i a0_1]] [] : St D0) K0 = g N a0_0 a0_1 := by kernel_rfl
def ent : Ent Tryz.prog T0 := mkEntC C tabOk0 mixed0 78 [(true, [.any, .any])] sig (E N) Tryz.func78 (by kernel_rfl) [(false, [.any])] N (fun t => g N t.1 t.2) (fun _ => by kernel_rfl) (fun t => g.run N t.1 t.2)
end zq20
namespace zq62
variable (N : Nat)
abbrev R : Type := Bool
abbrev sig : Sig := ⟨[(false, 1), (true, 2)], [], [.i, .i, .i], [(false, 1)], [], [.bool]⟩
noncomputable def C : Cfg D0 := ⟨Tryz.prog, T0, 27, 0, 11, 0, [], 32, false, []⟩
def E : List (Ent Tryz.prog T0) := [zq58.ent N, zq20.ent N]
def O : Orc D0 R := orcOf (E N)
def K0 : Ex → St D0 → Option R := exitK C Tryz.f43.results.toList [(false, [.any])] (decOut sig)
noncomputable def c (p : Nat) : Code := codeAt (Tryz.f43.body.getD .skip) (pathN p)
def o0 (a0 a1_0 a1_1 : Int) : Option R :=
 (zq58.g N a0).bind fun r1 =>
 bif r1 then
  (zq20.g N a1_0 a1_1).bind fun r2 =>
  some (r2)
 else
 some (false)
def g (a0 a1_0 a1_1 : Int) : Option R := o0 N a0 a1_0 a1_1
theorem g.run (a0 a1_0 a1_1 : Int) : runC C (O N) N (c 1) 1 (st0 [.one (.i a0), .agg [.i a1_0, .i a1_1]] [] : St D0) K0 = g N a0 a1_0 a1_1 := by kernel_rfl
def ent : Ent Tryz.prog T0 := mkEntC C tabOk0 mixed0 43 [(false, [.any]), (true, [.any, .any])] sig (E N) Tryz.func43 (by kernel_rfl) [(false, [.any])] N (fun t => g N t.1 t.2.1 t.2.2) (fun _ => by kernel_rfl) (fun t => g.run N t.1 t.2.1 t.2.2)
end zq62
namespace zq147
variable (N : Nat)
abbrev R : Type := Int
abbrev QQ : Type := St D0 → Option R
abbrev sig : Sig := ⟨[(false, 1), (false, 1)], [], [.i, .i], [(false, 1)], [], [.i]⟩
noncomputable def C : Cfg D0 := ⟨Tryz.prog, T0, 83, 0, 12, 0, [(12, [0, 1], [])], 928, false, []⟩
def E (N : Nat) : List (Ent Tryz.prog T0) := []
def O : Orc D0 R := orcOf (E N)
def K0 : Ex → QQ := exitK C Tryz.f85.results.toList [(false, [.any])] (decOut sig)
noncomputable def c (p : Nat) : Code := codeAt (Tryz.f85.body.getD .skip) (pathN p)
def s1 (v0 v1 : Int) : St D0 := mkSt [(0, .one (.i v0)), (1, .one (.i v1))] []
def K24 (Kn12 : QQ) : Ex → QQ := ((fun up => (onN (fun s => C.tidy 12 s ((onN Kn12 up) .normal)) (onN Kn12 up))) (blockK 0 (onN (tk C (O N) N c 6 7 K0) K0)))
def o1 (N : Nat) (v0 v1 : Int) (c1 : Int → Int → Option R) : Option R :=
 bif (decide (v1 > 0)) then
  bif (v1 == 0) then
   none
  else
  c1 v1 (Int.tmod v0 v1)
 else
 some (v0)
def d1 (v0 v1 : Int) (c1 : Int → Int → Option R) : Option R := o1 N v0 v1 c1
theorem d1.run (Kn12 : QQ) (v0 v1 : Int) : runC C (O N) N (c 24) 24 (s1 v0 v1) (K24 N Kn12) = d1 N v0 v1 ((fun w0 w1 => Kn12 (s1 w0 w1))) := by kernel_rfl
def K12 : Ex → QQ := (blockK 0 (onN (tk C (O N) N c 6 7 K0) K0))
def l1 (N : Nat) : Nat → Int → Int → Option R
  | 0, _, _ => none
  | n + 1, v0, v1 => d1 N v0 v1 ((fun w0 w1 => l1 N n w0 w1))
theorem loop12 (N : Nat) : ∀ n, (∀ (v0 v1 : Int), iter (loopF C (O N) N (c 24) 12) n (s1 v0 v1) (K12 N) = l1 N n v0 v1)
  | 0 => (by intros; rfl)
  | n + 1 => (fun v0 v1 => (d1.run N (fun s => iter (loopF C (O N) N (c 24) 12) n s (K12 N)) v0 v1).trans (show _ = d1 N v0 v1 ((fun w0 w1 => l1 N n w0 w1)) from (congr rfl (fx2 ((loop12 N n))))))
def o0 (N : Nat) (a0 a1 : Int) (c1 : Int → Int → Option R) : Option R :=
 c1 a0 a1
theorem o0.run (H24 : Code) (a0 a1 : Int) : runC C (O N) N (.seq (c 2) (.seq (.block 0 (.loop H24)) (c 7))) 1 (st0 [.one (.i a0), .one (.i a1)] [] : St D0) K0 = o0 N a0 a1 ((fun w0 w1 => iter (loopF C (O N) N H24 12) N (s1 w0 w1) (blockK 0 (onN (tk C (O N) N c 6 7 K0) K0)))) := by kernel_rfl
def g (a0 a1 : Int) : Option R := o0 N a0 a1 ((fun w0 w1 => l1 N N w0 w1))
theorem c1_0 : (c 1) = (.seq (c 2) (.seq (.block 0 (.loop (c 24))) (c 7))) := by kernel_rfl
theorem g.run (a0 a1 : Int) : runC C (O N) N (c 1) 1 (st0 [.one (.i a0), .one (.i a1)] [] : St D0) K0 = g N a0 a1 := by
  rw [c1_0]; unfold g; exact (o0.run N (c 24) a0 a1).trans (congr rfl (fx2 ((loop12 N N))))
def ent : Ent Tryz.prog T0 := mkEntC C tabOk0 mixed0 85 [(false, [.any]), (false, [.any])] sig (E N) Tryz.func85 (by kernel_rfl) [(false, [.any])] N (fun t => g N t.1 t.2) (fun _ => by kernel_rfl) (fun t => g.run N t.1 t.2)
end zq147
namespace zq151
variable (N : Nat)
abbrev R : Type := Int × Int × Bool
abbrev sig : Sig := ⟨[(false, 1), (false, 1)], [], [.i, .i], [(true, 2), (false, 1)], [], [.i, .i, .bool]⟩
noncomputable def C : Cfg D0 := ⟨Tryz.prog, T0, 134217971, 0, 30, 0, [], 7187200, false, []⟩
def E : List (Ent Tryz.prog T0) := [zq147.ent N]
def O : Orc D0 R := orcOf (E N)
def K0 : Ex → St D0 → Option R := exitK C Tryz.f89.results.toList [(true, [.any, .any]), (false, [.any])] (decOut sig)
noncomputable def c (p : Nat) : Code := codeAt (Tryz.f89.body.getD .skip) (pathN p)
def o0 (a0 a1 : Int) : Option R :=
 bif (a1 == 0) then
  none
 else
 bif (a1 == 0) then
  none
 else
 (zq147.g N (Int.tmod (w64 ((Int.tmod a0 a1) + a1)) a1) a1).bind fun r1 =>
 bif (r1 == 0) then
  none
 else
 bif (r1 == 0) then
  none
 else
 bif (decide ((w64 (Int.tdiv a1 r1)) > 1000000)) then
  some (0, 0, false)
 else
 some ((w64 (Int.tdiv (Int.tmod (w64 ((Int.tmod a0 a1) + a1)) a1) r1)), (w64 (Int.tdiv a1 r1)), true)
def g (a0 a1 : Int) : Option R := o0 N a0 a1
theorem g.run (a0 a1 : Int) : runC C (O N) N (c 1) 1 (st0 [.one (.i a0), .one (.i a1)] [] : St D0) K0 = g N a0 a1 := by kernel_rfl
def ent : Ent Tryz.prog T0 := mkEntC C tabOk0 mixed0 89 [(false, [.any]), (false, [.any])] sig (E N) Tryz.func89 (by kernel_rfl) [(true, [.any, .any]), (false, [.any])] N (fun t => g N t.1 t.2) (fun _ => by kernel_rfl) (fun t => g.run N t.1 t.2)
end zq151
namespace zq155
variable (N : Nat)
abbrev R : Type := Int × Int
abbrev sig : Sig := ⟨[(true, 2), (false, 1)], [], [.i, .i, .i], [(true, 2)], [], [.i, .i]⟩
noncomputable def C : Cfg D0 := ⟨Tryz.prog, T0, 55, 0, 18, 0, [], 1024, false, []⟩
def E : List (Ent Tryz.prog T0) := [zq151.ent N]
def O : Orc D0 R := orcOf (E N)
def K0 : Ex → St D0 → Option R := exitK C Tryz.f88.results.toList [(true, [.any, .any])] (decOut sig)
noncomputable def c (p : Nat) : Code := codeAt (Tryz.f88.body.getD .skip) (pathN p)
def o0 (a0_0 a0_1 a1 : Int) : Option R :=
 (zq151.g N (w64 (a0_0 * a1)) a0_1).bind fun r1 =>
 some (r1.1, r1.2.1)
def g (a0_0 a0_1 a1 : Int) : Option R := o0 N a0_0 a0_1 a1
theorem g.run (a0_0 a0_1 a1 : Int) : runC C (O N) N (c 1) 1 (st0 [.agg [.i a0_0, .i a0_1], .one (.i a1)] [] : St D0) K0 = g N a0_0 a0_1 a1 := by kernel_rfl
def ent : Ent Tryz.prog T0 := mkEntC C tabOk0 mixed0 88 [(true, [.any, .any]), (false, [.any])] sig (E N) Tryz.func88 (by kernel_rfl) [(true, [.any, .any])] N (fun t => g N t.1 t.2.1 t.2.2) (fun _ => by kernel_rfl) (fun t => g.run N t.1 t.2.1 t.2.2)
end zq155
namespace zq149
variable (N : Nat)
abbrev R : Type := Bool
abbrev sig : Sig := ⟨[(true, 2)], [], [.i, .i], [(false, 1)], [], [.bool]⟩
noncomputable def C : Cfg D0 := ⟨Tryz.prog, T0, 7, 0, 22, 0, [], 0, false, []⟩
def E : List (Ent Tryz.prog T0) := [zq173.ent N, zq147.ent N]
def O : Orc D0 R := orcOf (E N)
def K0 : Ex → St D0 → Option R := exitK C Tryz.f116.results.toList [(false, [.any])] (decOut sig)
noncomputable def c (p : Nat) : Code := codeAt (Tryz.f116.body.getD .skip) (pathN p)
def o0 (a0_0 a0_1 : Int) : Option R :=
 (zq173.g N a0_1 1 1000000).bind fun r1 =>
 bif r1 then
  (zq173.g N a0_0 0 (w64 (a0_1 - 1))).bind fun r2 =>
  bif r2 then
   (zq147.g N a0_0 a0_1).bind fun r3 =>
   some ((r3 == 1))
  else
  some (false)
 else
 some (false)
def g (a0_0 a0_1 : Int) : Option R := o0 N a0_0 a0_1
theorem g.run (a0_0 a0_1 : Int) : runC C (O N) N (c 1) 1 (st0 [.agg [.i a0_0, .i a0_1]] [] : St D0) K0 = g N a0_0 a0_1 := by kernel_rfl
def ent : Ent Tryz.prog T0 := mkEntC C tabOk0 mixed0 116 [(true, [.any, .any])] sig (E N) Tryz.func116 (by kernel_rfl) [(false, [.any])] N (fun t => g N t.1 t.2) (fun _ => by kernel_rfl) (fun t => g.run N t.1 t.2)
end zq149
namespace zq146
variable (N : Nat)
abbrev R : Type := Bool
abbrev sig : Sig := ⟨[(false, 1), (true, 2)], [], [.i, .i, .i], [(false, 1)], [], [.bool]⟩
noncomputable def C : Cfg D0 := ⟨Tryz.prog, T0, 27, 0, 11, 0, [], 32, false, []⟩
def E : List (Ent Tryz.prog T0) := [zq150.ent N, zq149.ent N]
def O : Orc D0 R := orcOf (E N)
def K0 : Ex → St D0 → Option R := exitK C Tryz.f72.results.toList [(false, [.any])] (decOut sig)
noncomputable def c (p : Nat) : Code := codeAt (Tryz.f72.body.getD .skip) (pathN p)
def o0 (a0 a1_0 a1_1 : Int) : Option R :=
 (zq150.g N a0).bind fun r1 =>
 bif r1 then
  (zq149.g N a1_0 a1_1).bind fun r2 =>
  some (r2)
 else
 some (false)
def g (a0 a1_0 a1_1 : Int) : Option R := o0 N a0 a1_0 a1_1
theorem g.run (a0 a1_0 a1_1 : Int) : runC C (O N) N (c 1) 1 (st0 [.one (.i a0), .agg [.i a1_0, .i a1_1]] [] : St D0) K0 = g N a0 a1_0 a1_1 := by kernel_rfl
def ent : Ent Tryz.prog T0 := mkEntC C tabOk0 mixed0 72 [(false, [.any]), (true, [.any, .any])] sig (E N) Tryz.func72 (by kernel_rfl) [(false, [.any])] N (fun t => g N t.1 t.2.1 t.2.2) (fun _ => by kernel_rfl) (fun t => g.run N t.1 t.2.1 t.2.2)
end zq146
namespace zq24
variable (N : Nat)
abbrev R : Type := Int × Int × Bool
abbrev sig : Sig := ⟨[(false, 1), (true, 2)], [], [.i, .i, .i], [(true, 2), (false, 1)], [], [.i, .i, .bool]⟩
noncomputable def C : Cfg D0 := ⟨Tryz.prog, T0, 571, 0, 14, 0, [], 4160, false, []⟩
def E : List (Ent Tryz.prog T0) := [zq62.ent N, zq43.ent N]
def O : Orc D0 R := orcOf (E N)
def K0 : Ex → St D0 → Option R := exitK C Tryz.f102.results.toList [(true, [.any, .any]), (false, [.any])] (decOut sig)
noncomputable def c (p : Nat) : Code := codeAt (Tryz.f102.body.getD .skip) (pathN p)
def o0 (a0 a1_0 a1_1 : Int) : Option R :=
 (zq62.g N a0 a1_0 a1_1).bind fun r1 =>
 bif (!r1) then
  some (0, 0, false)
 else
 (zq43.g N a1_0 a1_1 a0).bind fun r2 =>
 some (r2.1, r2.2, true)
def g (a0 a1_0 a1_1 : Int) : Option R := o0 N a0 a1_0 a1_1
theorem g.run (a0 a1_0 a1_1 : Int) : runC C (O N) N (c 1) 1 (st0 [.one (.i a0), .agg [.i a1_0, .i a1_1]] [] : St D0) K0 = g N a0 a1_0 a1_1 := by kernel_rfl
def ent : Ent Tryz.prog T0 := mkEntC C tabOk0 mixed0 102 [(false, [.any]), (true, [.any, .any])] sig (E N) Tryz.func102 (by kernel_rfl) [(true, [.any, .any]), (false, [.any])] N (fun t => g N t.1 t.2.1 t.2.2) (fun _ => by kernel_rfl) (fun t => g.run N t.1 t.2.1 t.2.2)
end zq24
namespace zq118
variable (N : Nat)
abbrev R : Type := Int × Int × Bool
abbrev sig : Sig := ⟨[(false, 1), (true, 2)], [], [.i, .i, .i], [(true, 2), (false, 1)], [], [.i, .i, .bool]⟩
noncomputable def C : Cfg D0 := ⟨Tryz.prog, T0, 571, 0, 14, 0, [], 4160, false, []⟩
def E : List (Ent Tryz.prog T0) := [zq146.ent N, zq155.ent N]
def O : Orc D0 R := orcOf (E N)
def K0 : Ex → St D0 → Option R := exitK C Tryz.f129.results.toList [(true, [.any, .any]), (false, [.any])] (decOut sig)
noncomputable def c (p : Nat) : Code := codeAt (Tryz.f129.body.getD .skip) (pathN p)
def o0 (a0 a1_0 a1_1 : Int) : Option R :=
 (zq146.g N a0 a1_0 a1_1).bind fun r1 =>
 bif (!r1) then
  some (0, 0, false)
 else
 (zq155.g N a1_0 a1_1 a0).bind fun r2 =>
 some (r2.1, r2.2, true)
def g (a0 a1_0 a1_1 : Int) : Option R := o0 N a0 a1_0 a1_1
theorem g.run (a0 a1_0 a1_1 : Int) : runC C (O N) N (c 1) 1 (st0 [.one (.i a0), .agg [.i a1_0, .i a1_1]] [] : St D0) K0 = g N a0 a1_0 a1_1 := by kernel_rfl
def ent : Ent Tryz.prog T0 := mkEntC C tabOk0 mixed0 129 [(false, [.any]), (true, [.any, .any])] sig (E N) Tryz.func129 (by kernel_rfl) [(true, [.any, .any]), (false, [.any])] N (fun t => g N t.1 t.2.1 t.2.2) (fun _ => by kernel_rfl) (fun t => g.run N t.1 t.2.1 t.2.2)
end zq118
namespace zq4
variable (N : Nat)
abbrev R : Type := Int × Int × Bool
abbrev sig : Sig := ⟨[(false, 1), (true, 2)], [], [.i, .i, .i], [(true, 2), (false, 1)], [], [.i, .i, .bool]⟩
noncomputable def C : Cfg D0 := ⟨Tryz.prog, T0, 571, 0, 15, 0, [], 4160, false, []⟩
def E : List (Ent Tryz.prog T0) := [zq62.ent N, zq43.ent N]
def O : Orc D0 R := orcOf (E N)
def K0 : Ex → St D0 → Option R := exitK C Tryz.f103.results.toList [(true, [.any, .any]), (false, [.any])] (decOut sig)
noncomputable def c (p : Nat) : Code := codeAt (Tryz.f103.body.getD .skip) (pathN p)
def o0 (a0 a1_0 a1_1 : Int) : Option R :=
 (zq62.g N a0 a1_0 a1_1).bind fun r1 =>
 bif (!r1) then
  some (0, 0, false)
 else
 (zq43.g N a1_0 a1_1 (w64 (a0 - 1))).bind fun r2 =>
 some (r2.1, r2.2, true)
def g (a0 a1_0 a1_1 : Int) : Option R := o0 N a0 a1_0 a1_1
theorem g.run (a0 a1_0 a1_1 : Int) : runC C (O N) N (c 1) 1 (st0 [.one (.i a0), .agg [.i a1_0, .i a1_1]] [] : St D0) K0 = g N a0 a1_0 a1_1 := by kernel_rfl
def ent : Ent Tryz.prog T0 := mkEntC C tabOk0 mixed0 103 [(false, [.any]), (true, [.any, .any])] sig (E N) Tryz.func103 (by kernel_rfl) [(true, [.any, .any]), (false, [.any])] N (fun t => g N t.1 t.2.1 t.2.2) (fun _ => by kernel_rfl) (fun t => g.run N t.1 t.2.1 t.2.2)
end zq4
namespace zq106
variable (N : Nat)
abbrev R : Type := Int × Int × Bool
abbrev sig : Sig := ⟨[(false, 1), (true, 2)], [], [.i, .i, .i], [(true, 2), (false, 1)], [], [.i, .i, .bool]⟩
noncomputable def C : Cfg D0 := ⟨Tryz.prog, T0, 571, 0, 15, 0, [], 4160, false, []⟩
def E : List (Ent Tryz.prog T0) := [zq146.ent N, zq155.ent N]
def O : Orc D0 R := orcOf (E N)
def K0 : Ex → St D0 → Option R := exitK C Tryz.f130.results.toList [(true, [.any, .any]), (false, [.any])] (decOut sig)
noncomputable def c (p : Nat) : Code := codeAt (Tryz.f130.body.getD .skip) (pathN p)
def o0 (a0 a1_0 a1_1 : Int) : Option R :=
 (zq146.g N a0 a1_0 a1_1).bind fun r1 =>
 bif (!r1) then
  some (0, 0, false)
 else
 (zq155.g N a1_0 a1_1 (w64 (a0 - 1))).bind fun r2 =>
 some (r2.1, r2.2, true)
def g (a0 a1_0 a1_1 : Int) : Option R := o0 N a0 a1_0 a1_1
theorem g.run (a0 a1_0 a1_1 : Int) : runC C (O N) N (c 1) 1 (st0 [.one (.i a0), .agg [.i a1_0, .i a1_1]] [] : St D0) K0 = g N a0 a1_0 a1_1 := by kernel_rfl
def ent : Ent Tryz.prog T0 := mkEntC C tabOk0 mixed0 130 [(false, [.any]), (true, [.any, .any])] sig (E N) Tryz.func130 (by kernel_rfl) [(true, [.any, .any]), (false, [.any])] N (fun t => g N t.1 t.2.1 t.2.2) (fun _ => by kernel_rfl) (fun t => g.run N t.1 t.2.1 t.2.2)
end zq106
namespace zq41
variable (N : Nat)
abbrev R : Type := Int × Int
abbrev sig : Sig := ⟨[(true, 2)], [], [.i, .i], [(true, 2)], [], [.i, .i]⟩
noncomputable def C : Cfg D0 := ⟨Tryz.prog, T0, 7, 0, 5, 0, [], 0, false, []⟩
def E : List (Ent Tryz.prog T0) := [zq43.ent N]
def O : Orc D0 R := orcOf (E N)
def K0 : Ex → St D0 → Option R := exitK C Tryz.f158.results.toList [(true, [.any, .any])] (decOut sig)
noncomputable def c (p : Nat) : Code := codeAt (Tryz.f158.body.getD .skip) (pathN p)
def o0 (a0_0 a0_1 : Int) : Option R :=
 (zq43.g N a0_0 a0_1 (-1)).bind fun r1 =>
 some (r1.1, r1.2)
def g (a0_0 a0_1 : Int) : Option R := o0 N a0_0 a0_1
theorem g.run (a0_0 a0_1 : Int) : runC C (O N) N (c 1) 1 (st0 [.agg [.i a0_0, .i a0_1]] [] : St D0) K0 = g N a0_0 a0_1 := by kernel_rfl
def ent : Ent Tryz.prog T0 := mkEntC C tabOk0 mixed0 158 [(true, [.any, .any])] sig (E N) Tryz.func158 (by kernel_rfl) [(true, [.any, .any])] N (fun t => g N t.1 t.2) (fun _ => by kernel_rfl) (fun t => g.run N t.1 t.2)
end zq41
namespace zq1
variable (N : Nat)
abbrev R : Type := Bool
abbrev sig : Sig := ⟨[(false, 1)], [], [.i], [(false, 1)], [], [.bool]⟩
noncomputable def C : Cfg D0 := ⟨Tryz.prog, T0, 5, 0, 6, 0, [], 24, false, []⟩
def E (N : Nat) : List (Ent Tryz.prog T0) := []
def O : Orc D0 R := orcOf (E N)
def K0 : Ex → St D0 → Option R := exitK C Tryz.f232.results.toList [(false, [.any])] (decOut sig)
noncomputable def c (p : Nat) : Code := codeAt (Tryz.f232.body.getD .skip) (pathN p)
def o0 (N : Nat) (a0 : Int) : Option R :=
 some ((a0 != a0))
def g (a0 : Int) : Option R := o0 N a0
theorem g.run (a0 : Int) : runC C (O N) N (c 1) 1 (st0 [.one (.i a0)] [] : St D0) K0 = g N a0 := by kernel_rfl
def ent : Ent Tryz.prog T0 := mkEntC C tabOk0 mixed0 232 [(false, [.any])] sig (E N) Tryz.func232 (by kernel_rfl) [(false, [.any])] N (fun t => g N t) (fun _ => by kernel_rfl) (fun t => g.run N t)
end zq1
namespace zq0
variable (N : Nat)
abbrev R : Type := Int
abbrev sig : Sig := ⟨[(false, 1), (false, 1)], [], [.i, .i], [(false, 1)], [], [.i]⟩
noncomputable def C : Cfg D0 := ⟨Tryz.prog, T0, 604275, 0, 20, 0, [], 443008, false, []⟩
def E : List (Ent Tryz.prog T0) := [zq1.ent N]
def O : Orc D0 R := orcOf (E N)
def K0 : Ex → St D0 → Option R := exitK C Tryz.f206.results.toList [(false, [.any])] (decOut sig)
noncomputable def c (p : Nat) : Code := codeAt (Tryz.f206.body.getD .skip) (pathN p)
def o0 (a0 a1 : Int) : Option R :=
 (zq1.g N a0).bind fun r1 =>
 (zq1.g N a1).bind fun r2 =>
 bif r1 then
  bif r2 then
   some (0)
  else
  some ((-1))
 else
 bif r2 then
  some (1)
 else
 bif (decide (a0 < a1)) then
  some ((-1))
 else
 bif (decide (a0 > a1)) then
  some (1)
 else
 some (0)
def g (a0 a1 : Int) : Option R := o0 N a0 a1
theorem g.run (a0 a1 : Int) : runC C (O N) N (c 1) 1 (st0 [.one (.i a0), .one (.i a1)] [] : St D0) K0 = g N a0 a1 := by kernel_rfl
def ent : Ent Tryz.prog T0 := mkEntC C tabOk0 mixed0 206 [(false, [.any]), (false, [.any])] sig (E N) Tryz.func206 (by kernel_rfl) [(false, [.any])] N (fun t => g N t.1 t.2) (fun _ => by kernel_rfl) (fun t => g.run N t.1 t.2)
end zq0
namespace zq39
variable (N : Nat)
abbrev R : Type := Int
abbrev sig : Sig := ⟨[(true, 2), (true, 2)], [], [.i, .i, .i, .i], [(false, 1)], [], [.i]⟩
noncomputable def C : Cfg D0 := ⟨Tryz.prog, T0, 31, 0, 16, 0, [], 0, false, []⟩
def E : List (Ent Tryz.prog T0) := [zq0.ent N]
def O : Orc D0 R := orcOf (E N)
def K0 : Ex → St D0 → Option R := exitK C Tryz.f163.results.toList [(false, [.any])] (decOut sig)
noncomputable def c (p : Nat) : Code := codeAt (Tryz.f163.body.getD .skip) (pathN p)
def o0 (a0_0 a0_1 a1_0 a1_1 : Int) : Option R :=
 (zq0.g N (w64 (a0_0 * a1_1)) (w64 (a1_0 * a0_1))).bind fun r1 =>
 some (r1)
def g (a0_0 a0_1 a1_0 a1_1 : Int) : Option R := o0 N a0_0 a0_1 a1_0 a1_1
theorem g.run (a0_0 a0_1 a1_0 a1_1 : Int) : runC C (O N) N (c 1) 1 (st0 [.agg [.i a0_0, .i a0_1], .agg [.i a1_0, .i a1_1]] [] : St D0) K0 = g N a0_0 a0_1 a1_0 a1_1 := by kernel_rfl
def ent : Ent Tryz.prog T0 := mkEntC C tabOk0 mixed0 163 [(true, [.any, .any]), (true, [.any, .any])] sig (E N) Tryz.func163 (by kernel_rfl) [(false, [.any])] N (fun t => g N t.1 t.2.1 t.2.2.1 t.2.2.2) (fun _ => by kernel_rfl) (fun t => g.run N t.1 t.2.1 t.2.2.1 t.2.2.2)
end zq39
namespace zq34
variable (N : Nat)
abbrev R : Type := Int × Int × Bool
abbrev sig : Sig := ⟨[(false, 1), (true, 2)], [], [.i, .i, .i], [(true, 2), (false, 1)], [], [.i, .i, .bool]⟩
noncomputable def C : Cfg D0 := ⟨Tryz.prog, T0, 8454651, 0, 26, 0, [], 33792, false, []⟩
def E : List (Ent Tryz.prog T0) := [zq4.ent N, zq41.ent N, zq39.ent N]
def O : Orc D0 R := orcOf (E N)
def K0 : Ex → St D0 → Option R := exitK C Tryz.f104.results.toList [(true, [.any, .any]), (false, [.any])] (decOut sig)
noncomputable def c (p : Nat) : Code := codeAt (Tryz.f104.body.getD .skip) (pathN p)
def o0 (a0 a1_0 a1_1 : Int) : Option R :=
 (zq4.g N a0 a1_0 a1_1).bind fun r1 =>
 bif (!r1.2.2) then
  some (0, 0, false)
 else
 (zq41.g N r1.1 r1.2.1).bind fun r2 =>
 (zq39.g N r2.1 r2.2 r1.1 r1.2.1).bind fun r3 =>
 bif (decide (r3 < 0)) then
  some (r2.1, r2.2, true)
 else
 some (r1.1, r1.2.1, true)
def g (a0 a1_0 a1_1 : Int) : Option R := o0 N a0 a1_0 a1_1
theorem g.run (a0 a1_0 a1_1 : Int) : runC C (O N) N (c 1) 1 (st0 [.one (.i a0), .agg [.i a1_0, .i a1_1]] [] : St D0) K0 = g N a0 a1_0 a1_1 := by kernel_rfl
def ent : Ent Tryz.prog T0 := mkEntC C tabOk0 mixed0 104 [(false, [.any]), (true, [.any, .any])] sig (E N) Tryz.func104 (by kernel_rfl) [(true, [.any, .any]), (false, [.any])] N (fun t => g N t.1 t.2.1 t.2.2) (fun _ => by kernel_rfl) (fun t => g.run N t.1 t.2.1 t.2.2)
end zq34
namespace zq152
variable (N : Nat)
abbrev R : Type := Int × Int
abbrev sig : Sig := ⟨[(true, 2)], [], [.i, .i], [(true, 2)], [], [.i, .i]⟩
noncomputable def C : Cfg D0 := ⟨Tryz.prog, T0, 7, 0, 5, 0, [], 0, false, []⟩
def E : List (Ent Tryz.prog T0) := [zq155.ent N]
def O : Orc D0 R := orcOf (E N)
def K0 : Ex → St D0 → Option R := exitK C Tryz.f125.results.toList [(true, [.any, .any])] (decOut sig)
noncomputable def c (p : Nat) : Code := codeAt (Tryz.f125.body.getD .skip) (pathN p)
def o0 (a0_0 a0_1 : Int) : Option R :=
 (zq155.g N a0_0 a0_1 (-1)).bind fun r1 =>
 some (r1.1, r1.2)
def g (a0_0 a0_1 : Int) : Option R := o0 N a0_0 a0_1
theorem g.run (a0_0 a0_1 : Int) : runC C (O N) N (c 1) 1 (st0 [.agg [.i a0_0, .i a0_1]] [] : St D0) K0 = g N a0_0 a0_1 := by kernel_rfl
def ent : Ent Tryz.prog T0 := mkEntC C tabOk0 mixed0 125 [(true, [.any, .any])] sig (E N) Tryz.func125 (by kernel_rfl) [(true, [.any, .any])] N (fun t => g N t.1 t.2) (fun _ => by kernel_rfl) (fun t => g.run N t.1 t.2)
end zq152
namespace zq177
variable (N : Nat)
abbrev R : Type := Int
abbrev sig : Sig := ⟨[(false, 1)], [], [.i], [(false, 1)], [], [.i]⟩
noncomputable def C : Cfg D0 := ⟨Tryz.prog, T0, 77, 0, 9, 0, [], 144, false, []⟩
def E (N : Nat) : List (Ent Tryz.prog T0) := []
def O : Orc D0 R := orcOf (E N)
def K0 : Ex → St D0 → Option R := exitK C Tryz.f216.results.toList [(false, [.any])] (decOut sig)
noncomputable def c (p : Nat) : Code := codeAt (Tryz.f216.body.getD .skip) (pathN p)
def o0 (N : Nat) (a0 : Int) : Option R :=
 bif (decide (a0 > 0)) then
  some (1)
 else
 bif (decide (a0 < 0)) then
  some ((-1))
 else
 some (0)
def g (a0 : Int) : Option R := o0 N a0
theorem g.run (a0 : Int) : runC C (O N) N (c 1) 1 (st0 [.one (.i a0)] [] : St D0) K0 = g N a0 := by kernel_rfl
def ent : Ent Tryz.prog T0 := mkEntC C tabOk0 mixed0 216 [(false, [.any])] sig (E N) Tryz.func216 (by kernel_rfl) [(false, [.any])] N (fun t => g N t) (fun _ => by kernel_rfl) (fun t => g.run N t)
end zq177
namespace zq148
variable (N : Nat)
abbrev R : Type := Int
abbrev sig : Sig := ⟨[(true, 2), (true, 2)], [], [.i, .i, .i, .i], [(false, 1)], [], [.i]⟩
noncomputable def C : Cfg D0 := ⟨Tryz.prog, T0, 31, 0, 17, 0, [], 0, false, []⟩
def E : List (Ent Tryz.prog T0) := [zq177.ent N]
def O : Orc D0 R := orcOf (E N)
def K0 : Ex → St D0 → Option R := exitK C Tryz.f179.results.toList [(false, [.any])] (decOut sig)
noncomputable def c (p : Nat) : Code := codeAt (Tryz.f179.body.getD .skip) (pathN p)
def o0 (a0_0 a0_1 a1_0 a1_1 : Int) : Option R :=
 (zq177.g N (w64 ((w64 (a0_0 * a1_1)) - (w64 (a1_0 * a0_1))))).bind fun r1 =>
 some (r1)
def g (a0_0 a0_1 a1_0 a1_1 : Int) : Option R := o0 N a0_0 a0_1 a1_0 a1_1
theorem g.run (a0_0 a0_1 a1_0 a1_1 : Int) : runC C (O N) N (c 1) 1 (st0 [.agg [.i a0_0, .i a0_1], .agg [.i a1_0, .i a1_1]] [] : St D0) K0 = g N a0_0 a0_1 a1_0 a1_1 := by kernel_rfl
def ent : Ent Tryz.prog T0 := mkEntC C tabOk0 mixed0 179 [(true, [.any, .any]), (true, [.any, .any])] sig (E N) Tryz.func179 (by kernel_rfl) [(false, [.any])] N (fun t => g N t.1 t.2.1 t.2.2.1 t.2.2.2) (fun _ => by kernel_rfl) (fun t => g.run N t.1 t.2.1 t.2.2.1 t.2.2.2)
end zq148
namespace zq124
variable (N : Nat)
abbrev R : Type := Int × Int × Bool
abbrev sig : Sig := ⟨[(false, 1), (true, 2)], [], [.i, .i, .i], [(true, 2), (false, 1)], [], [.i, .i, .bool]⟩
noncomputable def C : Cfg D0 := ⟨Tryz.prog, T0, 4196603, 0, 25, 0, [], 16640, false, []⟩
def E : List (Ent Tryz.prog T0) := [zq146.ent N, zq155.ent N, zq152.ent N, zq148.ent N]
def O : Orc D0 R := orcOf (E N)
def K0 : Ex → St D0 → Option R := exitK C Tryz.f131.results.toList [(true, [.any, .any]), (false, [.any])] (decOut sig)
noncomputable def c (p : Nat) : Code := codeAt (Tryz.f131.body.getD .skip) (pathN p)
def o0 (a0 a1_0 a1_1 : Int) : Option R :=
 (zq146.g N a0 a1_0 a1_1).bind fun r1 =>
 bif (!r1) then
  some (0, 0, false)
 else
 (zq155.g N a1_0 a1_1 (w64 (a0 - 1))).bind fun r2 =>
 (zq152.g N r2.1 r2.2).bind fun r3 =>
 (zq148.g N r3.1 r3.2 r2.1 r2.2).bind fun r4 =>
 bif (decide (r4 < 0)) then
  some (r3.1, r3.2, true)
 else
 some (r2.1, r2.2, true)
def g (a0 a1_0 a1_1 : Int) : Option R := o0 N a0 a1_0 a1_1
theorem g.run (a0 a1_0 a1_1 : Int) : runC C (O N) N (c 1) 1 (st0 [.one (.i a0), .agg [.i a1_0, .i a1_1]] [] : St D0) K0 = g N a0 a1_0 a1_1 := by kernel_rfl
def ent : Ent Tryz.prog T0 := mkEntC C tabOk0 mixed0 131 [(false, [.any]), (true, [.any, .any])] sig (E N) Tryz.func131 (by kernel_rfl) [(true, [.any, .any]), (false, [.any])] N (fun t => g N t.1 t.2.1 t.2.2) (fun _ => by kernel_rfl) (fun t => g.run N t.1 t.2.1 t.2.2)
end zq124
namespace zq45
variable (N : Nat)
abbrev R : Type := Bool
abbrev sig : Sig := ⟨[(true, 2)], [], [.i, .i], [(false, 1)], [], [.bool]⟩
noncomputable def C : Cfg D0 := ⟨Tryz.prog, T0, 7, 0, 6, 0, [], 0, false, []⟩
def E : List (Ent Tryz.prog T0) := [zq20.ent N]
def O : Orc D0 R := orcOf (E N)
def K0 : Ex → St D0 → Option R := exitK C Tryz.f203.results.toList [(false, [.any])] (decOut sig)
noncomputable def c (p : Nat) : Code := codeAt (Tryz.f203.body.getD .skip) (pathN p)
def o0 (a0_0 a0_1 : Int) : Option R :=
 (zq20.g N a0_0 a0_1).bind fun r1 =>
 some ((!r1))
def g (a0_0 a0_1 : Int) : Option R := o0 N a0_0 a0_1
theorem g.run (a0_0 a0_1 : Int) : runC C (O N) N (c 1) 1 (st0 [.agg [.i a0_0, .i a0_1]] [] : St D0) K0 = g N a0_0 a0_1 := by kernel_rfl
def ent : Ent Tryz.prog T0 := mkEntC C tabOk0 mixed0 203 [(true, [.any, .any])] sig (E N) Tryz.func203 (by kernel_rfl) [(false, [.any])] N (fun t => g N t.1 t.2) (fun _ => by kernel_rfl) (fun t => g.run N t.1 t.2)
end zq45
namespace zq103
variable (N : Nat)
abbrev R : Type := Int
abbrev QQ : Type := St D0 → Option R
abbrev sig : Sig := ⟨[(false, 1), (false, 1)], [], [.sl false 25, .fn 203 []], [(false, 1)], [], [.i]⟩
noncomputable def C : Cfg D0 := ⟨Tryz.prog, T0, 66483, 0, 19, 0, [(26, [0, 1, 7, 8], [])], 14400, false, []⟩
def E : List (Ent Tryz.prog T0) := [zq45.ent N]
def O : Orc D0 R := orcOf (E N)
def K0 : Ex → QQ := exitK C Tryz.f230.results.toList [(false, [.any])] (decOut sig)
noncomputable def c (p : Nat) : Code := codeAt (Tryz.f230.body.getD .skip) (pathN p)
abbrev t1 : Type := (List S25) → Int → Int → Option R
def s1 (v0 : List S25) (v1 v2 : Int) : St D0 := mkSt [(0, .one (.sl false 25 v0)), (1, .one (.fn 203 [])), (7, .one (.i v1)), (8, .one (.i v2))] []
def K52 (Kn26 : QQ) : Ex → QQ := ((fun up => (onN (fun s => C.tidy 26 s ((onN Kn26 up) .normal)) (onN Kn26 up))) (blockK 0 (onN (tk C (O N) N c 6 7 K0) K0)))
def o1 (v0 : List S25) (v1 v2 : Int) (c1 : t1) : Option R :=
 bif (decide (v2 < v1)) then
  bif (decide (0 ≤ v2)) then
   bif (decide (v2 < (v0.length : Int))) then
    (v0[(v2 : Int).toNat]?).bind fun x1 =>
    (zq45.g N x1.f0 x1.f1).bind fun r2 =>
    bif r2 then
     some (v2)
    else
    c1 v0 v1 (w64 (v2 + 1))
   else
   none
  else
  none
 else
 some ((-1))
def d1 (v0 : List S25) (v1 v2 : Int) (c1 : t1) : Option R := o1 N v0 v1 v2 c1
theorem d1.run (Kn26 : QQ) (v0 : List S25) (v1 v2 : Int) : runC C (O N) N (c 52) 52 (s1 v0 v1 v2) (K52 N Kn26) = d1 N v0 v1 v2 (Kn26 <| s1 · · ·) := by kernel_rfl
def K26 : Ex → QQ := (blockK 0 (onN (tk C (O N) N c 6 7 K0) K0))
def l1 (N : Nat) : Nat → (List S25) → Int → Int → Option R
  | 0, _, _, _ => none
  | n + 1, v0, v1, v2 => d1 N v0 v1 v2 (l1 N n · · ·)
theorem loop26 (N : Nat) : ∀ n, (∀ (v0 : List S25) (v1 v2 : Int), iter (loopF C (O N) N (c 52) 26) n (s1 v0 v1 v2) (K26 N) = l1 N n v0 v1 v2)
  | 0 => (by intros; rfl)
  | n + 1 => (fun v0 v1 v2 => (d1.run N (fun s => iter (loopF C (O N) N (c 52) 26) n s (K26 N)) v0 v1 v2).trans (show _ = d1 N v0 v1 v2 (l1 N n · · ·) from (congr rfl (fx3 ((loop26 N n))))))
def o0 (N : Nat) (a0 : List S25) (c1 : t1) : Option R :=
 c1 a0 (a0.length : Int) 0
theorem o0.run (H52 : Code) (a0 : List S25) : runC C (O N) N (.seq (c 2) (.seq (.seq (c 12) (.block 0 (.loop H52))) (c 7))) 1 (st0 [.one (.sl false 25 a0), .one (.fn 203 [])] [] : St D0) K0 = o0 N a0 ((fun w0 w1 w2 => iter (loopF C (O N) N H52 26) N (s1 w0 w1 w2) (blockK 0 (onN (tk C (O N) N c 6 7 K0) K0)))) := by kernel_rfl
def g (a0 : List S25) : Option R := o0 N a0 (l1 N N · · ·)
theorem c1_0 : (c 1) = (.seq (c 2) (.seq (.seq (c 12) (.block 0 (.loop (c 52)))) (c 7))) := by kernel_rfl
theorem g.run (a0 : List S25) : runC C (O N) N (c 1) 1 (st0 [.one (.sl false 25 a0), .one (.fn 203 [])] [] : St D0) K0 = g N a0 := by
  rw [c1_0]; unfold g; exact (o0.run N (c 52) a0).trans (congr rfl (fx3 ((loop26 N N))))
def ent : Ent Tryz.prog T0 := mkEntC C tabOk0 mixed0 230 [(false, [.ro 25]), (false, [.any])] sig (E N) Tryz.func230 (by kernel_rfl) [(false, [.any])] N (fun t => g N t.1) (fun _ => by kernel_rfl) (fun t => g.run N t.1)
end zq103
namespace zq102
variable (N : Nat)
abbrev R : Type := Bool
abbrev sig : Sig := ⟨[(false, 1), (false, 1)], [], [.sl false 25, .fn 203 []], [(false, 1)], [], [.bool]⟩
noncomputable def C : Cfg D0 := ⟨Tryz.prog, T0, 19, 0, 9, 0, [], 96, false, []⟩
def E : List (Ent Tryz.prog T0) := [zq103.ent N]
def O : Orc D0 R := orcOf (E N)
def K0 : Ex → St D0 → Option R := exitK C Tryz.f202.results.toList [(false, [.any])] (decOut sig)
noncomputable def c (p : Nat) : Code := codeAt (Tryz.f202.body.getD .skip) (pathN p)
def o0 (a0 : List S25) : Option R :=
 (zq103.g N a0).bind fun r1 =>
 some ((decide (r1 ≥ 0)))
def g (a0 : List S25) : Option R := o0 N a0
theorem g.run (a0 : List S25) : runC C (O N) N (c 1) 1 (st0 [.one (.sl false 25 a0), .one (.fn 203 [])] [] : St D0) K0 = g N a0 := by kernel_rfl
def ent : Ent Tryz.prog T0 := mkEntC C tabOk0 mixed0 202 [(false, [.ro 25]), (false, [.any])] sig (E N) Tryz.func202 (by kernel_rfl) [(false, [.any])] N (fun t => g N t.1) (fun _ => by kernel_rfl) (fun t => g.run N t.1)
end zq102
namespace zq44
variable (N : Nat)
abbrev R : Type := Bool
abbrev sig : Sig := ⟨[(false, 1)], [], [.sl false 25], [(false, 1)], [], [.bool]⟩
noncomputable def C : Cfg D0 := ⟨Tryz.prog, T0, 5, 0, 6, 0, [], 8, false, []⟩
def E : List (Ent Tryz.prog T0) := [zq102.ent N]
def O : Orc D0 R := orcOf (E N)
def K0 : Ex → St D0 → Option R := exitK C Tryz.f155.results.toList [(false, [.any])] (decOut sig)
noncomputable def c (p : Nat) : Code := codeAt (Tryz.f155.body.getD .skip) (pathN p)
def o0 (a0 : List S25) : Option R :=
 (zq102.g N a0).bind fun r1 =>
 some ((!r1))
def g (a0 : List S25) : Option R := o0 N a0
theorem g.run (a0 : List S25) : runC C (O N) N (c 1) 1 (st0 [.one (.sl false 25 a0)] [] : St D0) K0 = g N a0 := by kernel_rfl
def ent : Ent Tryz.prog T0 := mkEntC C tabOk0 mixed0 155 [(false, [.ro 25])] sig (E N) Tryz.func155 (by kernel_rfl) [(false, [.any])] N (fun t => g N t) (fun _ => by kernel_rfl) (fun t => g.run N t)
end zq44
namespace zq42
variable (N : Nat)
abbrev R : Type := Int × Int
abbrev sig : Sig := ⟨[(true, 2), (true, 2)], [], [.i, .i, .i, .i], [(true, 2)], [], [.i, .i]⟩
noncomputable def C : Cfg D0 := ⟨Tryz.prog, T0, 31, 0, 22, 0, [], 0, false, []⟩
def E : List (Ent Tryz.prog T0) := [zq67.ent N]
def O : Orc D0 R := orcOf (E N)
def K0 : Ex → St D0 → Option R := exitK C Tryz.f156.results.toList [(true, [.any, .any])] (decOut sig)
noncomputable def c (p : Nat) : Code := codeAt (Tryz.f156.body.getD .skip) (pathN p)
def o0 (a0_0 a0_1 a1_0 a1_1 : Int) : Option R :=
 (zq67.g N (w64 ((w64 (a0_0 * a1_1)) + (w64 (a1_0 * a0_1)))) (w64 (a0_1 * a1_1))).bind fun r1 =>
 some (r1.1, r1.2)
def g (a0_0 a0_1 a1_0 a1_1 : Int) : Option R := o0 N a0_0 a0_1 a1_0 a1_1
theorem g.run (a0_0 a0_1 a1_0 a1_1 : Int) : runC C (O N) N (c 1) 1 (st0 [.agg [.i a0_0, .i a0_1], .agg [.i a1_0, .i a1_1]] [] : St D0) K0 = g N a0_0 a0_1 a1_0 a1_1 := by kernel_rfl
def ent : Ent Tryz.prog T0 := mkEntC C tabOk0 mixed0 156 [(true, [.any, .any]), (true, [.any, .any])] sig (E N) Tryz.func156 (by kernel_rfl) [(true, [.any, .any])] N (fun t => g N t.1 t.2.1 t.2.2.1 t.2.2.2) (fun _ => by kernel_rfl) (fun t => g.run N t.1 t.2.1 t.2.2.1 t.2.2.2)
end zq42
namespace zq56
variable (N : Nat)
abbrev R : Type := Int × Int × Bool
abbrev sig : Sig := ⟨[(true, 2)], [], [.i, .i], [(true, 2), (false, 1)], [], [.i, .i, .bool]⟩
noncomputable def C : Cfg D0 := ⟨Tryz.prog, T0, 79, 0, 9, 0, [], 0, false, []⟩
def E : List (Ent Tryz.prog T0) := [zq20.ent N]
def O : Orc D0 R := orcOf (E N)
def K0 : Ex → St D0 → Option R := exitK C Tryz.f154.results.toList [(true, [.any, .any]), (false, [.any])] (decOut sig)
noncomputable def c (p : Nat) : Code := codeAt (Tryz.f154.body.getD .skip) (pathN p)
def o0 (a0_0 a0_1 : Int) : Option R :=
 (zq20.g N a0_0 a0_1).bind fun r1 =>
 bif (!r1) then
  some (0, 0, false)
 else
 some (a0_0, a0_1, true)
def g (a0_0 a0_1 : Int) : Option R := o0 N a0_0 a0_1
theorem g.run (a0_0 a0_1 : Int) : runC C (O N) N (c 1) 1 (st0 [.agg [.i a0_0, .i a0_1]] [] : St D0) K0 = g N a0_0 a0_1 := by kernel_rfl
def ent : Ent Tryz.prog T0 := mkEntC C tabOk0 mixed0 154 [(true, [.any, .any])] sig (E N) Tryz.func154 (by kernel_rfl) [(true, [.any, .any]), (false, [.any])] N (fun t => g N t.1 t.2) (fun _ => by kernel_rfl) (fun t => g.run N t.1 t.2)
end zq56
namespace zq2
variable (N : Nat)
abbrev R : Type := Int × Int × Bool
abbrev sig : Sig := ⟨[(true, 2), (true, 2)], [], [.i, .i, .i, .i], [(true, 2), (false, 1)], [], [.i, .i, .bool]⟩
noncomputable def C : Cfg D0 := ⟨Tryz.prog, T0, 1087, 0, 18, 0, [], 0, false, []⟩
def E : List (Ent Tryz.prog T0) := [zq44.ent N, zq42.ent N, zq56.ent N]
def O : Orc D0 R := orcOf (E N)
def K0 : Ex → St D0 → Option R := exitK C Tryz.f96.results.toList [(true, [.any, .any]), (false, [.any])] (decOut sig)
noncomputable def c (p : Nat) : Code := codeAt (Tryz.f96.body.getD .skip) (pathN p)
def o0 (a0_0 a0_1 a1_0 a1_1 : Int) : Option R :=
 (zq44.g N ([(⟨a0_0, a0_1⟩ : S25), (⟨a1_0, a1_1⟩ : S25)] : List S25)).bind fun r1 =>
 bif (!r1) then
  some (0, 0, false)
 else
 (zq42.g N a0_0 a0_1 a1_0 a1_1).bind fun r2 =>
 (zq56.g N r2.1 r2.2).bind fun r3 =>
 some (r3.1, r3.2.1, r3.2.2)
def g (a0_0 a0_1 a1_0 a1_1 : Int) : Option R := o0 N a0_0 a0_1 a1_0 a1_1
theorem g.run (a0_0 a0_1 a1_0 a1_1 : Int) : runC C (O N) N (c 1) 1 (st0 [.agg [.i a0_0, .i a0_1], .agg [.i a1_0, .i a1_1]] [] : St D0) K0 = g N a0_0 a0_1 a1_0 a1_1 := by kernel_rfl
def ent : Ent Tryz.prog T0 := mkEntC C tabOk0 mixed0 96 [(true, [.any, .any]), (true, [.any, .any])] sig (E N) Tryz.func96 (by kernel_rfl) [(true, [.any, .any]), (false, [.any])] N (fun t => g N t.1 t.2.1 t.2.2.1 t.2.2.2) (fun _ => by kernel_rfl) (fun t => g.run N t.1 t.2.1 t.2.2.1 t.2.2.2)
end zq2
namespace zq76
variable (N : Nat)
abbrev R : Type := Int × Int × Int × Int
abbrev sig : Sig := ⟨[(false, 1), (true, 2)], [], [.i, .i, .i], [(false, 1), (false, 1), (true, 2)], [], [.i, .i, .i, .i]⟩
noncomputable def C : Cfg D0 := ⟨Tryz.prog, T0, 507, 0, 26, 0, [], 5523456, false, []⟩
def E : List (Ent Tryz.prog T0) := [zq67.ent N]
def O : Orc D0 R := orcOf (E N)
def K0 : Ex → St D0 → Option R := exitK C Tryz.f45.results.toList [(false, [.any]), (false, [.any]), (true, [.any, .any])] (decOut sig)
noncomputable def c (p : Nat) : Code := codeAt (Tryz.f45.body.getD .skip) (pathN p)
def o0 (a0 a1_0 a1_1 : Int) : Option R :=
 bif (a1_1 == 0) then
  none
 else
 (zq67.g N (w64 ((w64 (a1_0 * a0)) * 60)) a1_1).bind fun r1 =>
 some ((w64 (Int.tdiv (w64 (Int.tdiv (w64 ((w64 (a1_0 * a0)) * 60)) a1_1)) 60)), (Int.tmod (w64 (Int.tdiv (w64 ((w64 (a1_0 * a0)) * 60)) a1_1)) 60), r1.1, r1.2)
def g (a0 a1_0 a1_1 : Int) : Option R := o0 N a0 a1_0 a1_1
theorem g.run (a0 a1_0 a1_1 : Int) : runC C (O N) N (c 1) 1 (st0 [.one (.i a0), .agg [.i a1_0, .i a1_1]] [] : St D0) K0 = g N a0 a1_0 a1_1 := by kernel_rfl
def ent : Ent Tryz.prog T0 := mkEntC C tabOk0 mixed0 45 [(false, [.any]), (true, [.any, .any])] sig (E N) Tryz.func45 (by kernel_rfl) [(false, [.any]), (false, [.any]), (true, [.any, .any])] N (fun t => g N t.1 t.2.1 t.2.2) (fun _ => by kernel_rfl) (fun t => g.run N t.1 t.2.1 t.2.2)
end zq76
namespace zq79
variable (N : Nat)
abbrev R : Type := BA
abbrev sig : Sig := ⟨[(false, 1)], [], [.i], [(false, 1)], [], [.str]⟩
noncomputable def C : Cfg D0 := ⟨Tryz.prog, T0, 21, 0, 10, 0, [], 296, false, []⟩
def E : List (Ent Tryz.prog T0) := [zq184.ent N]
def O : Orc D0 R := orcOf (E N)
def K0 : Ex → St D0 → Option R := exitK C Tryz.f46.results.toList [(false, [.any])] (decOut sig)
noncomputable def c (p : Nat) : Code := codeAt (Tryz.f46.body.getD .skip) (pathN p)
def o0 (a0 : Int) : Option R :=
 bif (decide (a0 < 10)) then
  (zq184.g N a0).bind fun r1 =>
  bif (Nat.ble ((⟨#[48]⟩ : BA).size + r1.size) 9223372036854775807) then
   some (((⟨#[48]⟩ : BA) ++ r1))
  else
  none
 else
 (zq184.g N a0).bind fun r2 =>
 some (r2)
def g (a0 : Int) : Option R := o0 N a0
theorem g.run (a0 : Int) : runC C (O N) N (c 1) 1 (st0 [.one (.i a0)] [] : St D0) K0 = g N a0 := by kernel_rfl
def ent : Ent Tryz.prog T0 := mkEntC C tabOk0 mixed0 46 [(false, [.any])] sig (E N) Tryz.func46 (by kernel_rfl) [(false, [.any])] N (fun t => g N t) (fun _ => by kernel_rfl) (fun t => g.run N t)
end zq79
namespace zq37
variable (N : Nat)
abbrev R : Type := BA × Bool
abbrev sig : Sig := ⟨[(false, 1), (true, 2)], [], [.i, .i, .i], [(false, 1), (false, 1)], [], [.str, .bool]⟩
noncomputable def C : Cfg D0 := ⟨Tryz.prog, T0, 35184372125691, 0, 58, 0, [(126, [10], [])], 70927694041088, false, []⟩
def E : List (Ent Tryz.prog T0) := [zq62.ent N, zq76.ent N, zq79.ent N, zq67.ent N, zq184.ent N]
def O : Orc D0 R := orcOf (E N)
def K0 : Ex → St D0 → Option R := exitK C Tryz.f15.results.toList [(false, [.any]), (false, [.any])] (decOut sig)
noncomputable def c (p : Nat) : Code := codeAt (Tryz.f15.body.getD .skip) (pathN p)
def s1 (v0 : BA) : St D0 := mkSt [(10, .one (.str v0))] []
def K127 (N : Nat) : Ex → St D0 → Option R := K0
def o1 (N : Nat) (v0 : BA) : Option R :=
 some (v0, true)
def d1 (v0 : BA) : Option R := o1 N v0
theorem d1.run (v0 : BA) : runC C (O N) N (c 127) 127 (s1 v0) (K127 N) = d1 N v0 := by kernel_rfl
def o0 (a0 a1_0 a1_1 : Int) (c1 : BA → Option R) : Option R :=
 (zq62.g N a0 a1_0 a1_1).bind fun r1 =>
 bif (!r1) then
  some ((⟨#[]⟩ : BA), false)
 else
 (zq76.g N a0 a1_0 a1_1).bind fun r2 =>
 (zq79.g N r2.1).bind fun r3 =>
 bif (Nat.ble (r3.size + (⟨#[58]⟩ : BA).size) 9223372036854775807) then
  (zq79.g N r2.2.1).bind fun r4 =>
  bif (Nat.ble ((r3 ++ (⟨#[58]⟩ : BA)).size + r4.size) 9223372036854775807) then
   bif (Nat.ble (((r3 ++ (⟨#[58]⟩ : BA)) ++ r4).size + (⟨#[58]⟩ : BA).size) 9223372036854775807) then
    bif (r2.2.2.2 == 0) then
     none
    else
    (zq79.g N (w64 (Int.tdiv (w64 (r2.2.2.1 * 60)) r2.2.2.2))).bind fun r5 =>
    bif (Nat.ble ((((r3 ++ (⟨#[58]⟩ : BA)) ++ r4) ++ (⟨#[58]⟩ : BA)).size + r5.size) 9223372036854775807) then
     (zq67.g N (w64 (r2.2.2.1 * 60)) r2.2.2.2).bind fun r6 =>
     bif (decide (r6.1 > 0)) then
      (zq184.g N r6.1).bind fun r7 =>
      bif (Nat.ble ((⟨#[43]⟩ : BA).size + r7.size) 9223372036854775807) then
       bif (Nat.ble (((⟨#[43]⟩ : BA) ++ r7).size + (⟨#[47]⟩ : BA).size) 9223372036854775807) then
        (zq184.g N r6.2).bind fun r8 =>
        bif (Nat.ble ((((⟨#[43]⟩ : BA) ++ r7) ++ (⟨#[47]⟩ : BA)).size + r8.size) 9223372036854775807) then
         bif (Nat.ble (((((r3 ++ (⟨#[58]⟩ : BA)) ++ r4) ++ (⟨#[58]⟩ : BA)) ++ r5).size + ((((⟨#[43]⟩ : BA) ++ r7) ++ (⟨#[47]⟩ : BA)) ++ r8).size) 9223372036854775807) then
          c1 (((((r3 ++ (⟨#[58]⟩ : BA)) ++ r4) ++ (⟨#[58]⟩ : BA)) ++ r5) ++ ((((⟨#[43]⟩ : BA) ++ r7) ++ (⟨#[47]⟩ : BA)) ++ r8))
         else
         none
        else
        none
       else
       none
      else
      none
     else
     c1 ((((r3 ++ (⟨#[58]⟩ : BA)) ++ r4) ++ (⟨#[58]⟩ : BA)) ++ r5)
    else
    none
   else
   none
  else
  none
 else
 none
theorem o0.run (H127 : Code) (a0 a1_0 a1_1 : Int) : runC C (O N) N (.seq (c 2) (.seq (c 6) (.seq (c 14) (.seq (c 30) (.seq (c 62) (.seq (c 126) H127)))))) 1 (st0 [.one (.i a0), .agg [.i a1_0, .i a1_1]] [] : St D0) K0 = o0 N a0 a1_0 a1_1 ((fun w0 => runC C (O N) N H127 127 (s1 w0) K0)) := by kernel_rfl
def B63 : St D0 → Option R := fun s' => runC C (O N) N (c 127) 127 s' (K127 N)
def g (a0 a1_0 a1_1 : Int) : Option R := o0 N a0 a1_0 a1_1 ((fun w0 => d1 N w0))
theorem c1_0 : (c 1) = (.seq (c 2) (.seq (c 6) (.seq (c 14) (.seq (c 30) (.seq (c 62) (.seq (c 126) (c 127))))))) := by kernel_rfl
theorem g.run (a0 a1_0 a1_1 : Int) : runC C (O N) N (c 1) 1 (st0 [.one (.i a0), .agg [.i a1_0, .i a1_1]] [] : St D0) K0 = g N a0 a1_0 a1_1 := by
  rw [c1_0]; unfold g; exact (o0.run N (c 127) a0 a1_0 a1_1).trans (congr rfl (fx1 (d1.run N)))
def ent : Ent Tryz.prog T0 := mkEntC C tabOk0 mixed0 15 [(false, [.any]), (true, [.any, .any])] sig (E N) Tryz.func15 (by kernel_rfl) [(false, [.any]), (false, [.any])] N (fun t => g N t.1 t.2.1 t.2.2) (fun _ => by kernel_rfl) (fun t => g.run N t.1 t.2.1 t.2.2)
end zq37
namespace zq156
variable (N : Nat)
abbrev R : Type := BA
abbrev sig : Sig := ⟨[(false, 1)], [], [.i], [(false, 1)], [], [.str]⟩
noncomputable def C : Cfg D0 := ⟨Tryz.prog, T0, 21, 0, 10, 0, [], 296, false, []⟩
def E : List (Ent Tryz.prog T0) := [zq175.ent N]
def O : Orc D0 R := orcOf (E N)
def K0 : Ex → St D0 → Option R := exitK C Tryz.f87.results.toList [(false, [.any])] (decOut sig)
noncomputable def c (p : Nat) : Code := codeAt (Tryz.f87.body.getD .skip) (pathN p)
def o0 (a0 : Int) : Option R :=
 bif (decide (a0 < 10)) then
  (zq175.g N a0).bind fun r1 =>
  bif (Nat.ble ((⟨#[48]⟩ : BA).size + r1.size) 9223372036854775807) then
   some (((⟨#[48]⟩ : BA) ++ r1))
  else
  none
 else
 (zq175.g N a0).bind fun r2 =>
 some (r2)
def g (a0 : Int) : Option R := o0 N a0
theorem g.run (a0 : Int) : runC C (O N) N (c 1) 1 (st0 [.one (.i a0)] [] : St D0) K0 = g N a0 := by kernel_rfl
def ent : Ent Tryz.prog T0 := mkEntC C tabOk0 mixed0 87 [(false, [.any])] sig (E N) Tryz.func87 (by kernel_rfl) [(false, [.any])] N (fun t => g N t) (fun _ => by kernel_rfl) (fun t => g.run N t)
end zq156
namespace zq154
variable (N : Nat)
abbrev R : Type := BA
abbrev sig : Sig := ⟨[(false, 1), (true, 2)], [], [.i, .i, .i], [(false, 1)], [], [.str]⟩
noncomputable def C : Cfg D0 := ⟨Tryz.prog, T0, 68719476987, 0, 49, 0, [(30, [6], [])], 139654661120, false, []⟩
def E : List (Ent Tryz.prog T0) := [zq156.ent N, zq155.ent N, zq175.ent N]
def O : Orc D0 R := orcOf (E N)
def K0 : Ex → St D0 → Option R := exitK C Tryz.f64.results.toList [(false, [.any])] (decOut sig)
noncomputable def c (p : Nat) : Code := codeAt (Tryz.f64.body.getD .skip) (pathN p)
def s1 (v0 : BA) : St D0 := mkSt [(6, .one (.str v0))] []
def K31 (N : Nat) : Ex → St D0 → Option R := K0
def o1 (N : Nat) (v0 : BA) : Option R :=
 some (v0)
def d1 (v0 : BA) : Option R := o1 N v0
theorem d1.run (v0 : BA) : runC C (O N) N (c 31) 31 (s1 v0) (K31 N) = d1 N v0 := by kernel_rfl
def o0 (a0 a1_0 a1_1 : Int) (c1 : BA → Option R) : Option R :=
 bif (a1_1 == 0) then
  none
 else
 (zq156.g N (w64 (Int.tdiv (w64 (Int.tdiv (w64 ((w64 (a1_0 * a0)) * 3600)) a1_1)) 3600))).bind fun r1 =>
 bif (Nat.ble (r1.size + (⟨#[58]⟩ : BA).size) 9223372036854775807) then
  (zq156.g N (Int.tmod (w64 (Int.tdiv (w64 (Int.tdiv (w64 ((w64 (a1_0 * a0)) * 3600)) a1_1)) 60)) 60)).bind fun r2 =>
  bif (Nat.ble ((r1 ++ (⟨#[58]⟩ : BA)).size + r2.size) 9223372036854775807) then
   bif (Nat.ble (((r1 ++ (⟨#[58]⟩ : BA)) ++ r2).size + (⟨#[58]⟩ : BA).size) 9223372036854775807) then
    (zq156.g N (Int.tmod (w64 (Int.tdiv (w64 ((w64 (a1_0 * a0)) * 3600)) a1_1)) 60)).bind fun r3 =>
    bif (Nat.ble ((((r1 ++ (⟨#[58]⟩ : BA)) ++ r2) ++ (⟨#[58]⟩ : BA)).size + r3.size) 9223372036854775807) then
     (zq155.g N a1_0 a1_1 (w64 (a0 * 3600))).bind fun r4 =>
     bif (decide (r4.1 > 0)) then
      (zq175.g N r4.1).bind fun r5 =>
      bif (Nat.ble ((⟨#[43]⟩ : BA).size + r5.size) 9223372036854775807) then
       bif (Nat.ble (((⟨#[43]⟩ : BA) ++ r5).size + (⟨#[47]⟩ : BA).size) 9223372036854775807) then
        (zq175.g N r4.2).bind fun r6 =>
        bif (Nat.ble ((((⟨#[43]⟩ : BA) ++ r5) ++ (⟨#[47]⟩ : BA)).size + r6.size) 9223372036854775807) then
         bif (Nat.ble (((((r1 ++ (⟨#[58]⟩ : BA)) ++ r2) ++ (⟨#[58]⟩ : BA)) ++ r3).size + ((((⟨#[43]⟩ : BA) ++ r5) ++ (⟨#[47]⟩ : BA)) ++ r6).size) 9223372036854775807) then
          c1 (((((r1 ++ (⟨#[58]⟩ : BA)) ++ r2) ++ (⟨#[58]⟩ : BA)) ++ r3) ++ ((((⟨#[43]⟩ : BA) ++ r5) ++ (⟨#[47]⟩ : BA)) ++ r6))
         else
         none
        else
        none
       else
       none
      else
      none
     else
     c1 ((((r1 ++ (⟨#[58]⟩ : BA)) ++ r2) ++ (⟨#[58]⟩ : BA)) ++ r3)
    else
    none
   else
   none
  else
  none
 else
 none
theorem o0.run (H31 : Code) (a0 a1_0 a1_1 : Int) : runC C (O N) N (.seq (c 2) (.seq (c 6) (.seq (c 14) (.seq (c 30) H31)))) 1 (st0 [.one (.i a0), .agg [.i a1_0, .i a1_1]] [] : St D0) K0 = o0 N a0 a1_0 a1_1 ((fun w0 => runC C (O N) N H31 31 (s1 w0) K0)) := by kernel_rfl
def B15 : St D0 → Option R := fun s' => runC C (O N) N (c 31) 31 s' (K31 N)
def g (a0 a1_0 a1_1 : Int) : Option R := o0 N a0 a1_0 a1_1 ((fun w0 => d1 N w0))
theorem c1_0 : (c 1) = (.seq (c 2) (.seq (c 6) (.seq (c 14) (.seq (c 30) (c 31))))) := by kernel_rfl
theorem g.run (a0 a1_0 a1_1 : Int) : runC C (O N) N (c 1) 1 (st0 [.one (.i a0), .agg [.i a1_0, .i a1_1]] [] : St D0) K0 = g N a0 a1_0 a1_1 := by
  rw [c1_0]; unfold g; exact (o0.run N (c 31) a0 a1_0 a1_1).trans (congr rfl (fx1 (d1.run N)))
def ent : Ent Tryz.prog T0 := mkEntC C tabOk0 mixed0 64 [(false, [.any]), (true, [.any, .any])] sig (E N) Tryz.func64 (by kernel_rfl) [(false, [.any])] N (fun t => g N t.1 t.2.1 t.2.2) (fun _ => by kernel_rfl) (fun t => g.run N t.1 t.2.1 t.2.2)
end zq154
namespace zq126
variable (N : Nat)
abbrev R : Type := BA × Bool
abbrev sig : Sig := ⟨[(false, 1), (true, 2)], [], [.i, .i, .i], [(false, 1), (false, 1)], [], [.str, .bool]⟩
noncomputable def C : Cfg D0 := ⟨Tryz.prog, T0, 571, 0, 13, 0, [], 1088, false, []⟩
def E : List (Ent Tryz.prog T0) := [zq146.ent N, zq154.ent N]
def O : Orc D0 R := orcOf (E N)
def K0 : Ex → St D0 → Option R := exitK C Tryz.f186.results.toList [(false, [.any]), (false, [.any])] (decOut sig)
noncomputable def c (p : Nat) : Code := codeAt (Tryz.f186.body.getD .skip) (pathN p)
def o0 (a0 a1_0 a1_1 : Int) : Option R :=
 (zq146.g N a0 a1_0 a1_1).bind fun r1 =>
 bif (!r1) then
  some ((⟨#[]⟩ : BA), false)
 else
 (zq154.g N a0 a1_0 a1_1).bind fun r2 =>
 some (r2, true)
def g (a0 a1_0 a1_1 : Int) : Option R := o0 N a0 a1_0 a1_1
theorem g.run (a0 a1_0 a1_1 : Int) : runC C (O N) N (c 1) 1 (st0 [.one (.i a0), .agg [.i a1_0, .i a1_1]] [] : St D0) K0 = g N a0 a1_0 a1_1 := by kernel_rfl
def ent : Ent Tryz.prog T0 := mkEntC C tabOk0 mixed0 186 [(false, [.any]), (true, [.any, .any])] sig (E N) Tryz.func186 (by kernel_rfl) [(false, [.any]), (false, [.any])] N (fun t => g N t.1 t.2.1 t.2.2) (fun _ => by kernel_rfl) (fun t => g.run N t.1 t.2.1 t.2.2)
end zq126
namespace zq71
variable (N : Nat)
abbrev R : Type := List S25 × Bool
abbrev QQ : Type := St D0 → Option R
abbrev sig : Sig := ⟨[(true, 2), (false, 1)], [], [.i, .i, .i], [(false, 1), (false, 1)], [], [.sl true 25, .bool]⟩
noncomputable def C : Cfg D0 := ⟨Tryz.prog, T0, 3831, 0, 32, 0, [(58, [1, 2, 6, 9, 10], [2])], 1082195968, false, []⟩
def E : List (Ent Tryz.prog T0) := [zq67.ent N, zq44.ent N]
def O : Orc D0 R := orcOf (E N)
def K0 : Ex → QQ := exitK C Tryz.f208.results.toList [(false, [.own 25]), (false, [.any])] (decOut sig)
noncomputable def c (p : Nat) : Code := codeAt (Tryz.f208.body.getD .skip) (pathN p)
abbrev t1 : Type := Int → (List S25) → Int → Int → Int → Int → Option R
def s1 (v0 : Int) (v1 : List S25) (v2 v3 v4 v5 : Int) : St D0 := mkSt [(1, .one (.i v0)), (2, .one (.ptr 2 0)), (6, .one (.sl true 25 v1)), (9, .one (.i v2)), (10, .one (.i v3))] [(2, some (25, [.i v4, .i v5]))]
def K116 (Kn58 : QQ) : Ex → QQ := ((fun up => (onN (fun s => C.tidy 58 s ((onN Kn58 up) .normal)) (onN Kn58 up))) (blockK 0 (onN (tk C (O N) N c 14 15 K0) K0)))
def o1 (v0 : Int) (v1 : List S25) (v2 v3 v4 v5 : Int) (c1 : t1) : Option R :=
 bif (decide (v3 < v2)) then
  (zq67.g N (w64 (v4 + (w64 (v3 * v5)))) (w64 (v5 * v0))).bind fun r1 =>
  bif (Nat.blt (v1.length + ([(⟨r1.1, r1.2⟩ : S25)] : List S25).length) 8796093022208) then
   c1 v0 (v1 ++ ([(⟨r1.1, r1.2⟩ : S25)] : List S25)) v2 (w64 (v3 + 1)) v4 v5
  else
  none
 else
 (zq44.g N v1).bind fun r2 =>
 some (v1, r2)
def d1 (v0 : Int) (v1 : List S25) (v2 v3 v4 v5 : Int) (c1 : t1) : Option R := o1 N v0 v1 v2 v3 v4 v5 c1
theorem d1.run (Kn58 : QQ) (v0 : Int) (v1 : List S25) (v2 v3 v4 v5 : Int) : runC C (O N) N (c 116) 116 (s1 v0 v1 v2 v3 v4 v5) (K116 N Kn58) = d1 N v0 v1 v2 v3 v4 v5 (Kn58 <| s1 · · · · · ·) := by kernel_rfl
def K58 : Ex → QQ := (blockK 0 (onN (tk C (O N) N c 14 15 K0) K0))
def l1 (N : Nat) : Nat → Int → (List S25) → Int → Int → Int → Int → Option R
  | 0, _, _, _, _, _, _ => none
  | n + 1, v0, v1, v2, v3, v4, v5 => d1 N v0 v1 v2 v3 v4 v5 (l1 N n · · · · · ·)
theorem loop58 (N : Nat) : ∀ n, (∀ (v0 : Int) (v1 : List S25) (v2 v3 v4 v5 : Int), iter (loopF C (O N) N (c 116) 58) n (s1 v0 v1 v2 v3 v4 v5) (K58 N) = l1 N n v0 v1 v2 v3 v4 v5)
  | 0 => (by intros; rfl)
  | n + 1 => (fun v0 v1 v2 v3 v4 v5 => (d1.run N (fun s => iter (loopF C (O N) N (c 116) 58) n s (K58 N)) v0 v1 v2 v3 v4 v5).trans (show _ = d1 N v0 v1 v2 v3 v4 v5 (l1 N n · · · · · ·) from (congr rfl (fx6 ((loop58 N n))))))
def o0 (N : Nat) (a0_0 a0_1 a1 : Int) (c1 : t1) : Option R :=
 c1 a1 ([] : List S25) a1 0 a0_0 a0_1
theorem o0.run (H116 : Code) (a0_0 a0_1 a1 : Int) : runC C (O N) N (.seq (c 2) (.seq (c 6) (.seq (.seq (c 28) (.block 0 (.loop H116))) (c 15)))) 1 (st0 [.agg [.i a0_0, .i a0_1], .one (.i a1)] [] : St D0) K0 = o0 N a0_0 a0_1 a1 ((fun w0 w1 w2 w3 w4 w5 => iter (loopF C (O N) N H116 58) N (s1 w0 w1 w2 w3 w4 w5) (blockK 0 (onN (tk C (O N) N c 14 15 K0) K0)))) := by kernel_rfl
def g (a0_0 a0_1 a1 : Int) : Option R := o0 N a0_0 a0_1 a1 (l1 N N · · · · · ·)
theorem c1_0 : (c 1) = (.seq (c 2) (.seq (c 6) (.seq (.seq (c 28) (.block 0 (.loop (c 116)))) (c 15)))) := by kernel_rfl
theorem g.run (a0_0 a0_1 a1 : Int) : runC C (O N) N (c 1) 1 (st0 [.agg [.i a0_0, .i a0_1], .one (.i a1)] [] : St D0) K0 = g N a0_0 a0_1 a1 := by
  rw [c1_0]; unfold g; exact (o0.run N (c 116) a0_0 a0_1 a1).trans (congr rfl (fx6 ((loop58 N N))))
def ent : Ent Tryz.prog T0 := mkEntC C tabOk0 mixed0 208 [(true, [.any, .any]), (false, [.any])] sig (E N) Tryz.func208 (by kernel_rfl) [(false, [.own 25]), (false, [.any])] N (fun t => g N t.1 t.2.1 t.2.2) (fun _ => by kernel_rfl) (fun t => g.run N t.1 t.2.1 t.2.2)
end zq71
namespace zq57
variable (N : Nat)
abbrev R : Type := List S25 × Bool
abbrev sig : Sig := ⟨[(false, 1), (false, 1)], [], [.sl false 25, .bool], [(false, 1), (false, 1)], [], [.sl false 25, .bool]⟩
noncomputable def C : Cfg D0 := ⟨Tryz.prog, T0, 4147, 0, 14, 0, [(12, [0, 12], [])], 576, false, []⟩
def E : List (Ent Tryz.prog T0) := [zq44.ent N]
def O : Orc D0 R := orcOf (E N)
def K0 : Ex → St D0 → Option R := exitK C Tryz.f207.results.toList [(false, [.ro 25]), (false, [.any])] (decOut sig)
noncomputable def c (p : Nat) : Code := codeAt (Tryz.f207.body.getD .skip) (pathN p)
abbrev t1 : Type := (List S25) → Bool → Option R
def s1 (v0 : List S25) (v1 : Bool) : St D0 := mkSt [(0, .one (.sl false 25 v0)), (12, .one (.bool v1))] []
def K13 : Ex → St D0 → Option R := (onN (tk C (O N) N c 6 7 K0) K0)
def o1 (N : Nat) (v0 : List S25) (v1 : Bool) : Option R :=
 bif v1 then
  some (([] : List S25), false)
 else
 some (v0, true)
def d1 (v0 : List S25) (v1 : Bool) : Option R := o1 N v0 v1
theorem d1.run (v0 : List S25) (v1 : Bool) : runC C (O N) N (c 13) 13 (s1 v0 v1) (K13 N) = d1 N v0 v1 := by kernel_rfl
def o0 (a0 : List S25) (a1 : Bool) (c1 : t1) : Option R :=
 bif (!a1) then
  c1 a0 true
 else
 (zq44.g N a0).bind fun r1 =>
 c1 a0 (!r1)
theorem o0.run (H13 : Code) (a0 : List S25) (a1 : Bool) : runC C (O N) N (.seq (c 2) (.seq (.seq (c 12) H13) (c 7))) 1 (st0 [.one (.sl false 25 a0), .one (.bool a1)] [] : St D0) K0 = o0 N a0 a1 ((fun w0 w1 => runC C (O N) N H13 13 (s1 w0 w1) (onN (tk C (O N) N c 6 7 K0) K0))) := by kernel_rfl
def g (a0 : List S25) (a1 : Bool) : Option R := o0 N a0 a1 ((fun w0 w1 => d1 N w0 w1))
theorem c1_0 : (c 1) = (.seq (c 2) (.seq (.seq (c 12) (c 13)) (c 7))) := by kernel_rfl
theorem g.run (a0 : List S25) (a1 : Bool) : runC C (O N) N (c 1) 1 (st0 [.one (.sl false 25 a0), .one (.bool a1)] [] : St D0) K0 = g N a0 a1 := by
  rw [c1_0]; unfold g; exact (o0.run N (c 13) a0 a1).trans (congr rfl (fx2 (d1.run N)))
def ent : Ent Tryz.prog T0 := mkEntC C tabOk0 mixed0 207 [(false, [.ro 25]), (false, [.any])] sig (E N) Tryz.func207 (by kernel_rfl) [(false, [.ro 25]), (false, [.any])] N (fun t => g N t.1 t.2) (fun _ => by kernel_rfl) (fun t => g.run N t.1 t.2)
end zq57
namespace zq40
variable (N : Nat)
abbrev R : Type := Int × Int
abbrev sig : Sig := ⟨[(true, 2), (true, 2)], [], [.i, .i, .i, .i], [(true, 2)], [], [.i, .i]⟩
noncomputable def C : Cfg D0 := ⟨Tryz.prog, T0, 31, 0, 22, 0, [], 0, false, []⟩
def E : List (Ent Tryz.prog T0) := [zq67.ent N]
def O : Orc D0 R := orcOf (E N)
def K0 : Ex → St D0 → Option R := exitK C Tryz.f157.results.toList [(true, [.any, .any])] (decOut sig)
noncomputable def c (p : Nat) : Code := codeAt (Tryz.f157.body.getD .skip) (pathN p)
def o0 (a0_0 a0_1 a1_0 a1_1 : Int) : Option R :=
 (zq67.g N (w64 ((w64 (a0_0 * a1_1)) - (w64 (a1_0 * a0_1)))) (w64 (a0_1 * a1_1))).bind fun r1 =>
 some (r1.1, r1.2)
def g (a0_0 a0_1 a1_0 a1_1 : Int) : Option R := o0 N a0_0 a0_1 a1_0 a1_1
theorem g.run (a0_0 a0_1 a1_0 a1_1 : Int) : runC C (O N) N (c 1) 1 (st0 [.agg [.i a0_0, .i a0_1], .agg [.i a1_0, .i a1_1]] [] : St D0) K0 = g N a0_0 a0_1 a1_0 a1_1 := by kernel_rfl
def ent : Ent Tryz.prog T0 := mkEntC C tabOk0 mixed0 157 [(true, [.any, .any]), (true, [.any, .any])] sig (E N) Tryz.func157 (by kernel_rfl) [(true, [.any, .any])] N (fun t => g N t.1 t.2.1 t.2.2.1 t.2.2.2) (fun _ => by kernel_rfl) (fun t => g.run N t.1 t.2.1 t.2.2.1 t.2.2.2)
end zq40
namespace zq145
variable (N : Nat)
abbrev R : Type := Int × Int × Bool
abbrev sig : Sig := ⟨[(true, 2), (true, 2), (false, 1)], [], [.i, .i, .i, .i, .i], [(true, 2), (false, 1)], [], [.i, .i, .bool]⟩
noncomputable def C : Cfg D0 := ⟨Tryz.prog, T0, 223, 0, 29, 0, [], 8192, false, []⟩
def E : List (Ent Tryz.prog T0) := [zq151.ent N]
def O : Orc D0 R := orcOf (E N)
def K0 : Ex → St D0 → Option R := exitK C Tryz.f175.results.toList [(true, [.any, .any]), (false, [.any])] (decOut sig)
noncomputable def c (p : Nat) : Code := codeAt (Tryz.f175.body.getD .skip) (pathN p)
def o0 (a0_0 a0_1 a1_0 a1_1 a2 : Int) : Option R :=
 (zq151.g N (w64 ((w64 (a0_0 * a1_1)) + (w64 ((w64 (a2 * a1_0)) * a0_1)))) (w64 (a0_1 * a1_1))).bind fun r1 =>
 some (r1.1, r1.2.1, r1.2.2)
def g (a0_0 a0_1 a1_0 a1_1 a2 : Int) : Option R := o0 N a0_0 a0_1 a1_0 a1_1 a2
theorem g.run (a0_0 a0_1 a1_0 a1_1 a2 : Int) : runC C (O N) N (c 1) 1 (st0 [.agg [.i a0_0, .i a0_1], .agg [.i a1_0, .i a1_1], .one (.i a2)] [] : St D0) K0 = g N a0_0 a0_1 a1_0 a1_1 a2 := by kernel_rfl
def ent : Ent Tryz.prog T0 := mkEntC C tabOk0 mixed0 175 [(true, [.any, .any]), (true, [.any, .any]), (false, [.any])] sig (E N) Tryz.func175 (by kernel_rfl) [(true, [.any, .any]), (false, [.any])] N (fun t => g N t.1 t.2.1 t.2.2.1 t.2.2.2.1 t.2.2.2.2) (fun _ => by kernel_rfl) (fun t => g.run N t.1 t.2.1 t.2.2.1 t.2.2.2.1 t.2.2.2.2)
end zq145
namespace zq179
variable (N : Nat)
abbrev R : Type := List S25 × Bool
abbrev QQ : Type := St D0 → Option R
abbrev sig : Sig := ⟨[(false, 1), (false, 1), (false, 1)], [], [.i, .i, .i], [(false, 1), (false, 1)], [], [.sl true 25, .bool]⟩
noncomputable def C : Cfg D0 := ⟨Tryz.prog, T0, 4295004103, 0, 38, 0, [(58, [0, 1, 2, 8, 9], [])], 2201563136, false, []⟩
def E : List (Ent Tryz.prog T0) := [zq151.ent N]
def O : Orc D0 R := orcOf (E N)
def K0 : Ex → QQ := exitK C Tryz.f180.results.toList [(false, [.own 25]), (false, [.any])] (decOut sig)
noncomputable def c (p : Nat) : Code := codeAt (Tryz.f180.body.getD .skip) (pathN p)
abbrev t1 : Type := Int → Int → Int → Int → Option R
abbrev t2 : Type := Int → Int → Int → (List S25) → Int → Option R
def s1 (v0 v1 v2 v3 : Int) : St D0 := mkSt [(0, .one (.i v0)), (1, .one (.i v1)), (2, .one (.i v2)), (8, .one (.nl)), (9, .one (.i v3))] []
def s2 (v0 v1 v2 : Int) (v3 : List S25) (v4 : Int) : St D0 := mkSt [(0, .one (.i v0)), (1, .one (.i v1)), (2, .one (.i v2)), (8, .one (.sl true 25 v3)), (9, .one (.i v4))] []
def K116 (Kn58 : QQ) : Ex → QQ := ((fun up => (onN (fun s => C.tidy 58 s ((onN Kn58 up) .normal)) (onN Kn58 up))) (blockK 0 (onN (tk C (O N) N c 14 15 K0) K0)))
def o1 (v0 v1 v2 v3 : Int) (c2 : t2) : Option R :=
 bif (decide (v3 < (w64 (v0 - 1)))) then
  (zq151.g N (w64 (v1 + (w64 (v3 * v2)))) (w64 (v2 * (w64 (v0 - 1))))).bind fun r1 =>
  bif (!r1.2.2) then
   some (([] : List S25), false)
  else
  bif (Nat.blt (([] : List S25).length + ([(⟨r1.1, r1.2.1⟩ : S25)] : List S25).length) 8796093022208) then
   c2 v0 v1 v2 (([] : List S25) ++ ([(⟨r1.1, r1.2.1⟩ : S25)] : List S25)) (w64 (v3 + 1))
  else
  none
 else
 some (([] : List S25), true)
def d1 (v0 v1 v2 v3 : Int) (c2 : t2) : Option R := o1 N v0 v1 v2 v3 c2
theorem d1.run (Kn58 : QQ) (v0 v1 v2 v3 : Int) : runC C (O N) N (c 116) 116 (s1 v0 v1 v2 v3) (K116 N Kn58) = d1 N v0 v1 v2 v3 (Kn58 <| s2 · · · · ·) := by kernel_rfl
def o2 (v0 v1 v2 : Int) (v3 : List S25) (v4 : Int) (c2 : t2) : Option R :=
 bif (decide (v4 < (w64 (v0 - 1)))) then
  (zq151.g N (w64 (v1 + (w64 (v4 * v2)))) (w64 (v2 * (w64 (v0 - 1))))).bind fun r1 =>
  bif (!r1.2.2) then
   some (([] : List S25), false)
  else
  bif (Nat.blt (v3.length + ([(⟨r1.1, r1.2.1⟩ : S25)] : List S25).length) 8796093022208) then
   c2 v0 v1 v2 (v3 ++ ([(⟨r1.1, r1.2.1⟩ : S25)] : List S25)) (w64 (v4 + 1))
  else
  none
 else
 some (v3, true)
def d2 (v0 v1 v2 : Int) (v3 : List S25) (v4 : Int) (c2 : t2) : Option R := o2 N v0 v1 v2 v3 v4 c2
theorem d2.run (Kn58 : QQ) (v0 v1 v2 : Int) (v3 : List S25) (v4 : Int) : runC C (O N) N (c 116) 116 (s2 v0 v1 v2 v3 v4) (K116 N Kn58) = d2 N v0 v1 v2 v3 v4 (Kn58 <| s2 · · · · ·) := by kernel_rfl
def K58 : Ex → QQ := (blockK 0 (onN (tk C (O N) N c 14 15 K0) K0))
mutual
def l1 (N : Nat) : Nat → Int → Int → Int → Int → Option R
  | 0, _, _, _, _ => none
  | n + 1, v0, v1, v2, v3 => d1 N v0 v1 v2 v3 (l2 N n · · · · ·)
def l2 (N : Nat) : Nat → Int → Int → Int → (List S25) → Int → Option R
  | 0, _, _, _, _, _ => none
  | n + 1, v0, v1, v2, v3, v4 => d2 N v0 v1 v2 v3 v4 (l2 N n · · · · ·)
end
theorem loop58 (N : Nat) : ∀ n, (∀ (v0 v1 v2 v3 : Int), iter (loopF C (O N) N (c 116) 58) n (s1 v0 v1 v2 v3) (K58 N) = l1 N n v0 v1 v2 v3) ∧ (∀ (v0 v1 v2 : Int) (v3 : List S25) (v4 : Int), iter (loopF C (O N) N (c 116) 58) n (s2 v0 v1 v2 v3 v4) (K58 N) = l2 N n v0 v1 v2 v3 v4)
  | 0 => ⟨(by intros; rfl), (by intros; rfl)⟩
  | n + 1 => ⟨(fun v0 v1 v2 v3 => (d1.run N (fun s => iter (loopF C (O N) N (c 116) 58) n s (K58 N)) v0 v1 v2 v3).trans (show _ = d1 N v0 v1 v2 v3 (l2 N n · · · · ·) from (congr rfl (fx5 ((loop58 N n).2))))), (fun v0 v1 v2 v3 v4 => (d2.run N (fun s => iter (loopF C (O N) N (c 116) 58) n s (K58 N)) v0 v1 v2 v3 v4).trans (show _ = d2 N v0 v1 v2 v3 v4 (l2 N n · · · · ·) from (congr rfl (fx5 ((loop58 N n).2)))))⟩
def o0 (N : Nat) (a0 a1 a2 : Int) (c1 : t1) : Option R :=
 c1 a0 a1 a2 0
theorem o0.run (H116 : Code) (a0 a1 a2 : Int) : runC C (O N) N (.seq (c 2) (.seq (c 6) (.seq (.seq (c 28) (.block 0 (.loop H116))) (c 15)))) 1 (st0 [.one (.i a0), .one (.i a1), .one (.i a2)] [] : St D0) K0 = o0 N a0 a1 a2 ((fun w0 w1 w2 w3 => iter (loopF C (O N) N H116 58) N (s1 w0 w1 w2 w3) (blockK 0 (onN (tk C (O N) N c 14 15 K0) K0)))) := by kernel_rfl
def g (a0 a1 a2 : Int) : Option R := o0 N a0 a1 a2 (l1 N N · · · ·)
theorem c1_0 : (c 1) = (.seq (c 2) (.seq (c 6) (.seq (.seq (c 28) (.block 0 (.loop (c 116)))) (c 15)))) := by kernel_rfl
theorem g.run (a0 a1 a2 : Int) : runC C (O N) N (c 1) 1 (st0 [.one (.i a0), .one (.i a1), .one (.i a2)] [] : St D0) K0 = g N a0 a1 a2 := by
  rw [c1_0]; unfold g; exact (o0.run N (c 116) a0 a1 a2).trans (congr rfl (fx4 ((loop58 N N).1)))
def ent : Ent Tryz.prog T0 := mkEntC C tabOk0 mixed0 180 [(false, [.any]), (false, [.any]), (false, [.any])] sig (E N) Tryz.func180 (by kernel_rfl) [(false, [.own 25]), (false, [.any])] N (fun t => g N t.1 t.2.1 t.2.2) (fun _ => by kernel_rfl) (fun t => g.run N t.1 t.2.1 t.2.2)
end zq179
namespace zq38
variable (N : Nat)
abbrev R : Type := List S25 × Bool
abbrev sig : Sig := ⟨[(false, 1), (true, 2)], [], [.i, .i, .i], [(false, 1), (false, 1)], [], [.sl false 25, .bool]⟩
noncomputable def C : Cfg D0 := ⟨Tryz.prog, T0, 571, 0, 19, 0, [], 2112, false, []⟩
def E : List (Ent Tryz.prog T0) := [zq62.ent N, zq71.ent N, zq57.ent N]
def O : Orc D0 R := orcOf (E N)
def K0 : Ex → St D0 → Option R := exitK C Tryz.f164.results.toList [(false, [.ro 25]), (false, [.any])] (decOut sig)
noncomputable def c (p : Nat) : Code := codeAt (Tryz.f164.body.getD .skip) (pathN p)
def o0 (a0 a1_0 a1_1 : Int) : Option R :=
 (zq62.g N a0 a1_0 a1_1).bind fun r1 =>
 bif (!r1) then
  some (([] : List S25), false)
 else
 (zq71.g N a1_0 a1_1 (w64 (a0 - 1))).bind fun r2 =>
 (zq57.g N r2.1 r2.2).bind fun r3 =>
 some (r3.1, r3.2)
def g (a0 a1_0 a1_1 : Int) : Option R := o0 N a0 a1_0 a1_1
theorem g.run (a0 a1_0 a1_1 : Int) : runC C (O N) N (c 1) 1 (st0 [.one (.i a0), .agg [.i a1_0, .i a1_1]] [] : St D0) K0 = g N a0 a1_0 a1_1 := by kernel_rfl
def ent : Ent Tryz.prog T0 := mkEntC C tabOk0 mixed0 164 [(false, [.any]), (true, [.any, .any])] sig (E N) Tryz.func164 (by kernel_rfl) [(false, [.ro 25]), (false, [.any])] N (fun t => g N t.1 t.2.1 t.2.2) (fun _ => by kernel_rfl) (fun t => g.run N t.1 t.2.1 t.2.2)
end zq38
namespace zq127
variable (N : Nat)
abbrev R : Type := List S25 × Bool
abbrev sig : Sig := ⟨[(false, 1), (true, 2)], [], [.i, .i, .i], [(false, 1), (false, 1)], [], [.sl true 25, .bool]⟩
noncomputable def C : Cfg D0 := ⟨Tryz.prog, T0, 571, 0, 18, 0, [], 1088, false, []⟩
def E : List (Ent Tryz.prog T0) := [zq146.ent N, zq179.ent N]
def O : Orc D0 R := orcOf (E N)
def K0 : Ex → St D0 → Option R := exitK C Tryz.f133.results.toList [(false, [.own 25]), (false, [.any])] (decOut sig)
noncomputable def c (p : Nat) : Code := codeAt (Tryz.f133.body.getD .skip) (pathN p)
def o0 (a0 a1_0 a1_1 : Int) : Option R :=
 (zq146.g N a0 a1_0 a1_1).bind fun r1 =>
 bif (!r1) then
  some (([] : List S25), false)
 else
 (zq179.g N a0 a1_0 a1_1).bind fun r2 =>
 some (r2.1, r2.2)
def g (a0 a1_0 a1_1 : Int) : Option R := o0 N a0 a1_0 a1_1
theorem g.run (a0 a1_0 a1_1 : Int) : runC C (O N) N (c 1) 1 (st0 [.one (.i a0), .agg [.i a1_0, .i a1_1]] [] : St D0) K0 = g N a0 a1_0 a1_1 := by kernel_rfl
def ent : Ent Tryz.prog T0 := mkEntC C tabOk0 mixed0 133 [(false, [.any]), (true, [.any, .any])] sig (E N) Tryz.func133 (by kernel_rfl) [(false, [.own 25]), (false, [.any])] N (fun t => g N t.1 t.2.1 t.2.2) (fun _ => by kernel_rfl) (fun t => g.run N t.1 t.2.1 t.2.2)
end zq127
namespace zq31
variable (N : Nat)
abbrev R : Type := Int × Int × Int × Int × Bool
abbrev sig : Sig := ⟨[(false, 1), (true, 2)], [], [.i, .i, .i], [(true, 4), (false, 1)], [], [.i, .i, .i, .i, .bool]⟩
noncomputable def C : Cfg D0 := ⟨Tryz.prog, T0, 571, 0, 16, 0, [], 8256, false, []⟩
def E : List (Ent Tryz.prog T0) := [zq62.ent N, zq43.ent N]
def O : Orc D0 R := orcOf (E N)
def K0 : Ex → St D0 → Option R := exitK C Tryz.f159.results.toList [(true, [.any, .any, .any, .any]), (false, [.any])] (decOut sig)
noncomputable def c (p : Nat) : Code := codeAt (Tryz.f159.body.getD .skip) (pathN p)
def o0 (a0 a1_0 a1_1 : Int) : Option R :=
 (zq62.g N a0 a1_0 a1_1).bind fun r1 =>
 bif (!r1) then
  some (0, 0, 0, 0, false)
 else
 (zq43.g N a1_0 a1_1 a0).bind fun r2 =>
 some (a1_0, a1_1, r2.1, r2.2, true)
def g (a0 a1_0 a1_1 : Int) : Option R := o0 N a0 a1_0 a1_1
theorem g.run (a0 a1_0 a1_1 : Int) : runC C (O N) N (c 1) 1 (st0 [.one (.i a0), .agg [.i a1_0, .i a1_1]] [] : St D0) K0 = g N a0 a1_0 a1_1 := by kernel_rfl
def ent : Ent Tryz.prog T0 := mkEntC C tabOk0 mixed0 159 [(false, [.any]), (true, [.any, .any])] sig (E N) Tryz.func159 (by kernel_rfl) [(true, [.any, .any, .any, .any]), (false, [.any])] N (fun t => g N t.1 t.2.1 t.2.2) (fun _ => by kernel_rfl) (fun t => g.run N t.1 t.2.1 t.2.2)
end zq31
namespace zq18
variable (N : Nat)
abbrev R : Type := Bool
abbrev sig : Sig := ⟨[(true, 4)], [], [.i, .i, .i, .i], [(false, 1)], [], [.bool]⟩
noncomputable def C : Cfg D0 := ⟨Tryz.prog, T0, 7, 0, 9, 0, [], 0, false, []⟩
def E : List (Ent Tryz.prog T0) := [zq44.ent N]
def O : Orc D0 R := orcOf (E N)
def K0 : Ex → St D0 → Option R := exitK C Tryz.f231.results.toList [(false, [.any])] (decOut sig)
noncomputable def c (p : Nat) : Code := codeAt (Tryz.f231.body.getD .skip) (pathN p)
def o0 (a0_0 a0_1 a0_2 a0_3 : Int) : Option R :=
 (zq44.g N ([(⟨a0_0, a0_1⟩ : S25), (⟨a0_2, a0_3⟩ : S25)] : List S25)).bind fun r1 =>
 some (r1)
def g (a0_0 a0_1 a0_2 a0_3 : Int) : Option R := o0 N a0_0 a0_1 a0_2 a0_3
theorem g.run (a0_0 a0_1 a0_2 a0_3 : Int) : runC C (O N) N (c 1) 1 (st0 [.agg [.i a0_0, .i a0_1, .i a0_2, .i a0_3]] [] : St D0) K0 = g N a0_0 a0_1 a0_2 a0_3 := by kernel_rfl
def ent : Ent Tryz.prog T0 := mkEntC C tabOk0 mixed0 231 [(true, [.any, .any, .any, .any])] sig (E N) Tryz.func231 (by kernel_rfl) [(false, [.any])] N (fun t => g N t.1 t.2.1 t.2.2.1 t.2.2.2) (fun _ => by kernel_rfl) (fun t => g.run N t.1 t.2.1 t.2.2.1 t.2.2.2)
end zq18
namespace zq61
variable (N : Nat)
abbrev R : Type := Bool
abbrev sig : Sig := ⟨[(false, 1), (true, 4)], [], [.i, .i, .i, .i, .i], [(false, 1)], [], [.bool]⟩
noncomputable def C : Cfg D0 := ⟨Tryz.prog, T0, 27, 0, 11, 0, [], 32, false, []⟩
def E : List (Ent Tryz.prog T0) := [zq58.ent N, zq18.ent N]
def O : Orc D0 R := orcOf (E N)
def K0 : Ex → St D0 → Option R := exitK C Tryz.f204.results.toList [(false, [.any])] (decOut sig)
noncomputable def c (p : Nat) : Code := codeAt (Tryz.f204.body.getD .skip) (pathN p)
def o0 (a0 a1_0 a1_1 a1_2 a1_3 : Int) : Option R :=
 (zq58.g N a0).bind fun r1 =>
 bif r1 then
  (zq18.g N a1_0 a1_1 a1_2 a1_3).bind fun r2 =>
  some (r2)
 else
 some (false)
def g (a0 a1_0 a1_1 a1_2 a1_3 : Int) : Option R := o0 N a0 a1_0 a1_1 a1_2 a1_3
theorem g.run (a0 a1_0 a1_1 a1_2 a1_3 : Int) : runC C (O N) N (c 1) 1 (st0 [.one (.i a0), .agg [.i a1_0, .i a1_1, .i a1_2, .i a1_3]] [] : St D0) K0 = g N a0 a1_0 a1_1 a1_2 a1_3 := by kernel_rfl
def ent : Ent Tryz.prog T0 := mkEntC C tabOk0 mixed0 204 [(false, [.any]), (true, [.any, .any, .any, .any])] sig (E N) Tryz.func204 (by kernel_rfl) [(false, [.any])] N (fun t => g N t.1 t.2.1 t.2.2.1 t.2.2.2.1 t.2.2.2.2) (fun _ => by kernel_rfl) (fun t => g.run N t.1 t.2.1 t.2.2.1 t.2.2.2.1 t.2.2.2.2)
end zq61
namespace zq63
variable (N : Nat)
abbrev R : Type := Bool
abbrev sig : Sig := ⟨[(false, 1), (true, 4)], [], [.i, .i, .i, .i, .i], [(false, 1)], [], [.bool]⟩
noncomputable def C : Cfg D0 := ⟨Tryz.prog, T0, 27, 0, 12, 0, [], 128, false, []⟩
def E : List (Ent Tryz.prog T0) := [zq43.ent N]
def O : Orc D0 R := orcOf (E N)
def K0 : Ex → St D0 → Option R := exitK C Tryz.f205.results.toList [(false, [.any])] (decOut sig)
noncomputable def c (p : Nat) : Code := codeAt (Tryz.f205.body.getD .skip) (pathN p)
def o0 (a0 a1_0 a1_1 a1_2 a1_3 : Int) : Option R :=
 (zq43.g N a1_0 a1_1 a0).bind fun r1 =>
 some (((r1.1 == a1_2) && ((r1.2 == a1_3) && true)))
def g (a0 a1_0 a1_1 a1_2 a1_3 : Int) : Option R := o0 N a0 a1_0 a1_1 a1_2 a1_3
theorem g.run (a0 a1_0 a1_1 a1_2 a1_3 : Int) : runC C (O N) N (c 1) 1 (st0 [.one (.i a0), .agg [.i a1_0, .i a1_1, .i a1_2, .i a1_3]] [] : St D0) K0 = g N a0 a1_0 a1_1 a1_2 a1_3 := by kernel_rfl
def ent : Ent Tryz.prog T0 := mkEntC C tabOk0 mixed0 205 [(false, [.any]), (true, [.any, .any, .any, .any])] sig (E N) Tryz.func205 (by kernel_rfl) [(false, [.any])] N (fun t => g N t.1 t.2.1 t.2.2.1 t.2.2.2.1 t.2.2.2.2) (fun _ => by kernel_rfl) (fun t => g.run N t.1 t.2.1 t.2.2.1 t.2.2.2.1 t.2.2.2.2)
end zq63
namespace zq36
variable (N : Nat)
abbrev R : Type := Int × Int × Bool
abbrev sig : Sig := ⟨[(false, 1), (true, 4)], [], [.i, .i, .i, .i, .i], [(true, 2), (false, 1)], [], [.i, .i, .bool]⟩
noncomputable def C : Cfg D0 := ⟨Tryz.prog, T0, 32827, 0, 19, 0, [(12, [3, 4, 15], [3, 4])], 2112, false, []⟩
def E : List (Ent Tryz.prog T0) := [zq61.ent N, zq63.ent N]
def O : Orc D0 R := orcOf (E N)
def K0 : Ex → St D0 → Option R := exitK C Tryz.f160.results.toList [(true, [.any, .any]), (false, [.any])] (decOut sig)
noncomputable def c (p : Nat) : Code := codeAt (Tryz.f160.body.getD .skip) (pathN p)
abbrev t1 : Type := Bool → Int → Int → Int → Int → Int → Int → Option R
def s1 (v0 : Bool) (v1 v2 v3 v4 v5 v6 : Int) : St D0 := mkSt [(3, .one (.ptr 3 0)), (4, .one (.ptr 4 0)), (15, .one (.bool v0))] [(3, some (167, [.i v1, .i v2, .i v3, .i v4])), (4, some (25, [.i v5, .i v6]))]
def K13 : Ex → St D0 → Option R := (onN (tk C (O N) N c 6 7 K0) K0)
def o1 (N : Nat) (v0 : Bool) (v1 v2 v3 v4 v5 v6 : Int) : Option R :=
 bif v0 then
  some (0, 0, false)
 else
 some (v1, v2, true)
def d1 (v0 : Bool) (v1 v2 v3 v4 v5 v6 : Int) : Option R := o1 N v0 v1 v2 v3 v4 v5 v6
theorem d1.run (v0 : Bool) (v1 v2 v3 v4 v5 v6 : Int) : runC C (O N) N (c 13) 13 (s1 v0 v1 v2 v3 v4 v5 v6) (K13 N) = d1 N v0 v1 v2 v3 v4 v5 v6 := by kernel_rfl
def o0 (a0 a1_0 a1_1 a1_2 a1_3 : Int) (c1 : t1) : Option R :=
 (zq61.g N a0 a1_0 a1_1 a1_2 a1_3).bind fun r1 =>
 bif (!r1) then
  c1 true a1_0 a1_1 a1_2 a1_3 0 0
 else
 (zq63.g N a0 a1_0 a1_1 a1_2 a1_3).bind fun r2 =>
 c1 (!r2) a1_0 a1_1 a1_2 a1_3 0 0
theorem o0.run (H13 : Code) (a0 a1_0 a1_1 a1_2 a1_3 : Int) : runC C (O N) N (.seq (c 2) (.seq (.seq (c 12) H13) (c 7))) 1 (st0 [.one (.i a0), .agg [.i a1_0, .i a1_1, .i a1_2, .i a1_3]] [] : St D0) K0 = o0 N a0 a1_0 a1_1 a1_2 a1_3 ((fun w0 w1 w2 w3 w4 w5 w6 => runC C (O N) N H13 13 (s1 w0 w1 w2 w3 w4 w5 w6) (onN (tk C (O N) N c 6 7 K0) K0))) := by kernel_rfl
def g (a0 a1_0 a1_1 a1_2 a1_3 : Int) : Option R := o0 N a0 a1_0 a1_1 a1_2 a1_3 (d1 N · · · · · · ·)
theorem c1_0 : (c 1) = (.seq (c 2) (.seq (.seq (c 12) (c 13)) (c 7))) := by kernel_rfl
theorem g.run (a0 a1_0 a1_1 a1_2 a1_3 : Int) : runC C (O N) N (c 1) 1 (st0 [.one (.i a0), .agg [.i a1_0, .i a1_1, .i a1_2, .i a1_3]] [] : St D0) K0 = g N a0 a1_0 a1_1 a1_2 a1_3 := by
  rw [c1_0]; unfold g; exact (o0.run N (c 13) a0 a1_0 a1_1 a1_2 a1_3).trans (congr rfl (fx7 (d1.run N)))
def ent : Ent Tryz.prog T0 := mkEntC C tabOk0 mixed0 160 [(false, [.any]), (true, [.any, .any, .any, .any])] sig (E N) Tryz.func160 (by kernel_rfl) [(true, [.any, .any]), (false, [.any])] N (fun t => g N t.1 t.2.1 t.2.2.1 t.2.2.2.1 t.2.2.2.2) (fun _ => by kernel_rfl) (fun t => g.run N t.1 t.2.1 t.2.2.1 t.2.2.2.1 t.2.2.2.2)
end zq36
namespace zq32
variable (N : Nat)
abbrev R : Type := Int × Int × Int × Int
abbrev sig : Sig := ⟨[(true, 4)], [], [.i, .i, .i, .i], [(true, 4)], [], [.i, .i, .i, .i]⟩
noncomputable def C : Cfg D0 := ⟨Tryz.prog, T0, 7, 0, 8, 0, [], 0, false, []⟩
def E (N : Nat) : List (Ent Tryz.prog T0) := []
def O : Orc D0 R := orcOf (E N)
def K0 : Ex → St D0 → Option R := exitK C Tryz.f161.results.toList [(true, [.any, .any, .any, .any])] (decOut sig)
noncomputable def c (p : Nat) : Code := codeAt (Tryz.f161.body.getD .skip) (pathN p)
def o0 (N : Nat) (a0_0 a0_1 a0_2 a0_3 : Int) : Option R :=
 some (a0_2, a0_3, a0_0, a0_1)
def g (a0_0 a0_1 a0_2 a0_3 : Int) : Option R := o0 N a0_0 a0_1 a0_2 a0_3
theorem g.run (a0_0 a0_1 a0_2 a0_3 : Int) : runC C (O N) N (c 1) 1 (st0 [.agg [.i a0_0, .i a0_1, .i a0_2, .i a0_3]] [] : St D0) K0 = g N a0_0 a0_1 a0_2 a0_3 := by kernel_rfl
def ent : Ent Tryz.prog T0 := mkEntC C tabOk0 mixed0 161 [(true, [.any, .any, .any, .any])] sig (E N) Tryz.func161 (by kernel_rfl) [(true, [.any, .any, .any, .any])] N (fun t => g N t.1 t.2.1 t.2.2.1 t.2.2.2) (fun _ => by kernel_rfl) (fun t => g.run N t.1 t.2.1 t.2.2.1 t.2.2.2)
end zq32
namespace zq10
variable (N : Nat)
abbrev R : Type := Int × Int × Bool
abbrev sig : Sig := ⟨[(false, 1), (true, 2)], [], [.i, .i, .i], [(true, 2), (false, 1)], [], [.i, .i, .bool]⟩
noncomputable def C : Cfg D0 := ⟨Tryz.prog, T0, 33019, 0, 23, 0, [], 147968, false, []⟩
def E : List (Ent Tryz.prog T0) := [zq31.ent N, zq32.ent N, zq36.ent N]
def O : Orc D0 R := orcOf (E N)
def K0 : Ex → St D0 → Option R := exitK C Tryz.f99.results.toList [(true, [.any, .any]), (false, [.any])] (decOut sig)
noncomputable def c (p : Nat) : Code := codeAt (Tryz.f99.body.getD .skip) (pathN p)
def o0 (a0 a1_0 a1_1 : Int) : Option R :=
 (zq31.g N a0 a1_0 a1_1).bind fun r1 =>
 bif (!r1.2.2.2.2) then
  some (0, 0, false)
 else
 (zq32.g N r1.1 r1.2.1 r1.2.2.1 r1.2.2.2.1).bind fun r2 =>
 (zq36.g N a0 r2.1 r2.2.1 r2.2.2.1 r2.2.2.2).bind fun r3 =>
 some (r3.1, r3.2.1, r3.2.2)
def g (a0 a1_0 a1_1 : Int) : Option R := o0 N a0 a1_0 a1_1
theorem g.run (a0 a1_0 a1_1 : Int) : runC C (O N) N (c 1) 1 (st0 [.one (.i a0), .agg [.i a1_0, .i a1_1]] [] : St D0) K0 = g N a0 a1_0 a1_1 := by kernel_rfl
def ent : Ent Tryz.prog T0 := mkEntC C tabOk0 mixed0 99 [(false, [.any]), (true, [.any, .any])] sig (E N) Tryz.func99 (by kernel_rfl) [(true, [.any, .any]), (false, [.any])] N (fun t => g N t.1 t.2.1 t.2.2) (fun _ => by kernel_rfl) (fun t => g.run N t.1 t.2.1 t.2.2)
end zq10
namespace zq181
variable (N : Nat)
abbrev R : Type := Int × Int × Int × Int
abbrev sig : Sig := ⟨[(false, 1), (true, 2)], [], [.i, .i, .i], [(true, 4)], [], [.i, .i, .i, .i]⟩
noncomputable def C : Cfg D0 := ⟨Tryz.prog, T0, 27, 0, 10, 0, [], 128, false, []⟩
def E : List (Ent Tryz.prog T0) := [zq155.ent N]
def O : Orc D0 R := orcOf (E N)
def K0 : Ex → St D0 → Option R := exitK C Tryz.f178.results.toList [(true, [.any, .any, .any, .any])] (decOut sig)
noncomputable def c (p : Nat) : Code := codeAt (Tryz.f178.body.getD .skip) (pathN p)
def o0 (a0 a1_0 a1_1 : Int) : Option R :=
 (zq155.g N a1_0 a1_1 a0).bind fun r1 =>
 some (a1_0, a1_1, r1.1, r1.2)
def g (a0 a1_0 a1_1 : Int) : Option R := o0 N a0 a1_0 a1_1
theorem g.run (a0 a1_0 a1_1 : Int) : runC C (O N) N (c 1) 1 (st0 [.one (.i a0), .agg [.i a1_0, .i a1_1]] [] : St D0) K0 = g N a0 a1_0 a1_1 := by kernel_rfl
def ent : Ent Tryz.prog T0 := mkEntC C tabOk0 mixed0 178 [(false, [.any]), (true, [.any, .any])] sig (E N) Tryz.func178 (by kernel_rfl) [(true, [.any, .any, .any, .any])] N (fun t => g N t.1 t.2.1 t.2.2) (fun _ => by kernel_rfl) (fun t => g.run N t.1 t.2.1 t.2.2)
end zq181
namespace zq180
variable (N : Nat)
abbrev R : Type := Int × Int × Int × Int
abbrev sig : Sig := ⟨[(true, 4)], [], [.i, .i, .i, .i], [(true, 4)], [], [.i, .i, .i, .i]⟩
noncomputable def C : Cfg D0 := ⟨Tryz.prog, T0, 7, 0, 8, 0, [], 0, false, []⟩
def E (N : Nat) : List (Ent Tryz.prog T0) := []
def O : Orc D0 R := orcOf (E N)
def K0 : Ex → St D0 → Option R := exitK C Tryz.f177.results.toList [(true, [.any, .any, .any, .any])] (decOut sig)
noncomputable def c (p : Nat) : Code := codeAt (Tryz.f177.body.getD .skip) (pathN p)
def o0 (N : Nat) (a0_0 a0_1 a0_2 a0_3 : Int) : Option R :=
 some (a0_2, a0_3, a0_0, a0_1)
def g (a0_0 a0_1 a0_2 a0_3 : Int) : Option R := o0 N a0_0 a0_1 a0_2 a0_3
theorem g.run (a0_0 a0_1 a0_2 a0_3 : Int) : runC C (O N) N (c 1) 1 (st0 [.agg [.i a0_0, .i a0_1, .i a0_2, .i a0_3]] [] : St D0) K0 = g N a0_0 a0_1 a0_2 a0_3 := by kernel_rfl
def ent : Ent Tryz.prog T0 := mkEntC C tabOk0 mixed0 177 [(true, [.any, .any, .any, .any])] sig (E N) Tryz.func177 (by kernel_rfl) [(true, [.any, .any, .any, .any])] N (fun t => g N t.1 t.2.1 t.2.2.1 t.2.2.2) (fun _ => by kernel_rfl) (fun t => g.run N t.1 t.2.1 t.2.2.1 t.2.2.2)
end zq180
namespace zq182
variable (N : Nat)
abbrev R : Type := Bool
abbrev sig : Sig := ⟨[(false, 1), (true, 4)], [], [.i, .i, .i, .i, .i], [(false, 1)], [], [.bool]⟩
noncomputable def C : Cfg D0 := ⟨Tryz.prog, T0, 27, 0, 12, 0, [], 128, false, []⟩
def E : List (Ent Tryz.prog T0) := [zq155.ent N]
def O : Orc D0 R := orcOf (E N)
def K0 : Ex → St D0 → Option R := exitK C Tryz.f176.results.toList [(false, [.any])] (decOut sig)
noncomputable def c (p : Nat) : Code := codeAt (Tryz.f176.body.getD .skip) (pathN p)
def o0 (a0 a1_0 a1_1 a1_2 a1_3 : Int) : Option R :=
 (zq155.g N a1_0 a1_1 a0).bind fun r1 =>
 some (((r1.1 == a1_2) && ((r1.2 == a1_3) && true)))
def g (a0 a1_0 a1_1 a1_2 a1_3 : Int) : Option R := o0 N a0 a1_0 a1_1 a1_2 a1_3
theorem g.run (a0 a1_0 a1_1 a1_2 a1_3 : Int) : runC C (O N) N (c 1) 1 (st0 [.one (.i a0), .agg [.i a1_0, .i a1_1, .i a1_2, .i a1_3]] [] : St D0) K0 = g N a0 a1_0 a1_1 a1_2 a1_3 := by kernel_rfl
def ent : Ent Tryz.prog T0 := mkEntC C tabOk0 mixed0 176 [(false, [.any]), (true, [.any, .any, .any, .any])] sig (E N) Tryz.func176 (by kernel_rfl) [(false, [.any])] N (fun t => g N t.1 t.2.1 t.2.2.1 t.2.2.2.1 t.2.2.2.2) (fun _ => by kernel_rfl) (fun t => g.run N t.1 t.2.1 t.2.2.1 t.2.2.2.1 t.2.2.2.2)
end zq182
namespace zq112
variable (N : Nat)
abbrev R : Type := Int × Int × Bool
abbrev sig : Sig := ⟨[(false, 1), (true, 2)], [], [.i, .i, .i], [(true, 2), (false, 1)], [], [.i, .i, .bool]⟩
noncomputable def C : Cfg D0 := ⟨Tryz.prog, T0, 262203, 0, 23, 0, [(12, [0, 3, 4, 18], [3, 4])], 2103360, false, []⟩
def E : List (Ent Tryz.prog T0) := [zq146.ent N, zq181.ent N, zq180.ent N, zq182.ent N, zq155.ent N]
def O : Orc D0 R := orcOf (E N)
def K0 : Ex → St D0 → Option R := exitK C Tryz.f126.results.toList [(true, [.any, .any]), (false, [.any])] (decOut sig)
noncomputable def c (p : Nat) : Code := codeAt (Tryz.f126.body.getD .skip) (pathN p)
abbrev t1 : Type := Int → Bool → Int → Int → Int → Int → Option R
def s1 (v0 : Int) (v1 : Bool) (v2 v3 v4 v5 : Int) : St D0 := mkSt [(0, .one (.i v0)), (3, .one (.ptr 3 0)), (4, .one (.ptr 4 0)), (18, .one (.bool v1))] [(3, some (25, [.i v2, .i v3])), (4, some (25, [.i v4, .i v5]))]
def K13 : Ex → St D0 → Option R := (onN (tk C (O N) N c 6 7 K0) K0)
def o1 (v0 : Int) (v1 : Bool) (v2 v3 v4 v5 : Int) : Option R :=
 bif v1 then
  some (0, 0, false)
 else
 (zq155.g N v2 v3 v0).bind fun r1 =>
 some (r1.1, r1.2, true)
def d1 (v0 : Int) (v1 : Bool) (v2 v3 v4 v5 : Int) : Option R := o1 N v0 v1 v2 v3 v4 v5
theorem d1.run (v0 : Int) (v1 : Bool) (v2 v3 v4 v5 : Int) : runC C (O N) N (c 13) 13 (s1 v0 v1 v2 v3 v4 v5) (K13 N) = d1 N v0 v1 v2 v3 v4 v5 := by kernel_rfl
def o0 (a0 a1_0 a1_1 : Int) (c1 : t1) : Option R :=
 (zq146.g N a0 a1_0 a1_1).bind fun r1 =>
 bif (!r1) then
  c1 a0 true a1_0 a1_1 0 0
 else
 (zq181.g N a0 a1_0 a1_1).bind fun r2 =>
 (zq180.g N r2.1 r2.2.1 r2.2.2.1 r2.2.2.2).bind fun r3 =>
 (zq182.g N a0 r3.1 r3.2.1 r3.2.2.1 r3.2.2.2).bind fun r4 =>
 c1 a0 (!r4) a1_0 a1_1 0 0
theorem o0.run (H13 : Code) (a0 a1_0 a1_1 : Int) : runC C (O N) N (.seq (c 2) (.seq (.seq (c 12) H13) (c 7))) 1 (st0 [.one (.i a0), .agg [.i a1_0, .i a1_1]] [] : St D0) K0 = o0 N a0 a1_0 a1_1 ((fun w0 w1 w2 w3 w4 w5 => runC C (O N) N H13 13 (s1 w0 w1 w2 w3 w4 w5) (onN (tk C (O N) N c 6 7 K0) K0))) := by kernel_rfl
def g (a0 a1_0 a1_1 : Int) : Option R := o0 N a0 a1_0 a1_1 (d1 N · · · · · ·)
theorem c1_0 : (c 1) = (.seq (c 2) (.seq (.seq (c 12) (c 13)) (c 7))) := by kernel_rfl
theorem g.run (a0 a1_0 a1_1 : Int) : runC C (O N) N (c 1) 1 (st0 [.one (.i a0), .agg [.i a1_0, .i a1_1]] [] : St D0) K0 = g N a0 a1_0 a1_1 := by
  rw [c1_0]; unfold g; exact (o0.run N (c 13) a0 a1_0 a1_1).trans (congr rfl (fx6 (d1.run N)))
def ent : Ent Tryz.prog T0 := mkEntC C tabOk0 mixed0 126 [(false, [.any]), (true, [.any, .any])] sig (E N) Tryz.func126 (by kernel_rfl) [(true, [.any, .any]), (false, [.any])] N (fun t => g N t.1 t.2.1 t.2.2) (fun _ => by kernel_rfl) (fun t => g.run N t.1 t.2.1 t.2.2)
end zq112
namespace zq59
variable (N : Nat)
abbrev R : Type := Bool
abbrev sig : Sig := ⟨[(false, 1), (false, 1)], [], [.i, .i], [(false, 1)], [], [.bool]⟩
noncomputable def C : Cfg D0 := ⟨Tryz.prog, T0, 19, 0, 13, 0, [], 800, false, []⟩
def E : List (Ent Tryz.prog T0) := [zq81.ent N]
def O : Orc D0 R := orcOf (E N)
def K0 : Ex → St D0 → Option R := exitK C Tryz.f215.results.toList [(false, [.any])] (decOut sig)
noncomputable def c (p : Nat) : Code := codeAt (Tryz.f215.body.getD .skip) (pathN p)
def o0 (a0 a1 : Int) : Option R :=
 (zq81.g N a1 1 100000).bind fun r1 =>
 bif r1 then
  (zq81.g N a0 1 (w64 (a1 - 1))).bind fun r2 =>
  some (r2)
 else
 some (false)
def g (a0 a1 : Int) : Option R := o0 N a0 a1
theorem g.run (a0 a1 : Int) : runC C (O N) N (c 1) 1 (st0 [.one (.i a0), .one (.i a1)] [] : St D0) K0 = g N a0 a1 := by kernel_rfl
def ent : Ent Tryz.prog T0 := mkEntC C tabOk0 mixed0 215 [(false, [.any]), (false, [.any])] sig (E N) Tryz.func215 (by kernel_rfl) [(false, [.any])] N (fun t => g N t.1 t.2) (fun _ => by kernel_rfl) (fun t => g.run N t.1 t.2)
end zq59
namespace zq5
variable (N : Nat)
abbrev R : Type := List ((List Int)) × Bool
abbrev QQ : Type := St D0 → Option R
abbrev sig : Sig := ⟨[(false, 1), (false, 1), (false, 1)], [], [.i, .i, .i], [(false, 1), (false, 1)], [], [.sl true 43, .bool]⟩
noncomputable def C : Cfg D0 := ⟨Tryz.prog, T0, 275968491463, 0, 59, 0, [(12, [0, 1, 2, 24], []), (126, [8], []), (252, [2, 8, 9, 10, 11, 12, 13, 14], [])], 50346225926602752, false, []⟩
def E : List (Ent Tryz.prog T0) := [zq59.ent N, zq81.ent N]
def O : Orc D0 R := orcOf (E N)
def K0 : Ex → QQ := exitK C Tryz.f172.results.toList [(false, [.own 43]), (false, [.any])] (decOut sig)
noncomputable def c (p : Nat) : Code := codeAt (Tryz.f172.body.getD .skip) (pathN p)
abbrev t1 : Type := Int → Int → Int → Bool → Option R
abbrev t2 : Type := Int → (List ((List Int))) → Int → Int → Int → Int → Int → Int → Option R
abbrev t3 : Type := (List ((List Int))) → Option R
def s1 (v0 v1 v2 : Int) (v3 : Bool) : St D0 := mkSt [(0, .one (.i v0)), (1, .one (.i v1)), (2, .one (.i v2)), (24, .one (.bool v3))] []
def s2 (v0 : Int) (v1 : List ((List Int))) (v2 v3 v4 v5 v6 v7 : Int) : St D0 := mkSt [(2, .one (.i v0)), (8, .one (.sl true 43 v1)), (9, .one (.i v2)), (10, .one (.i v3)), (11, .one (.i v4)), (12, .one (.i v5)), (13, .one (.i v6)), (14, .one (.i v7))] []
def s3 (v0 : List ((List Int))) : St D0 := mkSt [(8, .one (.sl true 43 v0))] []
def K127 (N : Nat) : Ex → QQ := K0
def o3 (N : Nat) (v0 : List ((List Int))) : Option R :=
 some (v0, true)
def d3 (v0 : List ((List Int))) : Option R := o3 N v0
theorem d3.run (v0 : List ((List Int))) : runC C (O N) N (c 127) 127 (s3 v0) (K127 N) = d3 N v0 := by kernel_rfl
def B63 : QQ := fun s' => runC C (O N) N (c 127) 127 s' (K127 N)
def K504 (Kn252 : QQ) : Ex → QQ := ((fun up => (onN (fun s => C.tidy 252 s ((onN Kn252 up) .normal)) (onN Kn252 up))) (blockK 0 (onN (fun s => C.tidy 126 s (B63 N)) K0)))
def o2 (N : Nat) (v0 : Int) (v1 : List ((List Int))) (v2 v3 v4 v5 v6 v7 : Int) (c3 : t3) (c2 : t2) : Option R :=
 bif (decide (v3 ≤ v0)) then
  bif (Nat.blt (v1.length + ([([v2, v3] : List Int)] : List (List Int)).length) 5864062014805) then
   bif (v7 == 0) then
    c3 (v1 ++ ([([v2, v3] : List Int)] : List (List Int)))
   else
   bif (v7 == 0) then
    none
   else
   bif (v7 == 0) then
    none
   else
   c2 v0 (v1 ++ ([([v2, v3] : List Int)] : List (List Int))) (w64 ((w64 ((w64 (Int.tdiv v6 v7)) * v2)) + v4)) (w64 ((w64 ((w64 (Int.tdiv v6 v7)) * v3)) + v5)) v2 v3 v7 (Int.tmod v6 v7)
  else
  none
 else
 c3 v1
theorem o2.run (Kb63 : QQ) (Kn252 : QQ) (v0 : Int) (v1 : List ((List Int))) (v2 v3 v4 v5 v6 v7 : Int) : runC C (O N) N (c 504) 504 (s2 v0 v1 v2 v3 v4 v5 v6 v7) (onN (fun s => C.tidy 252 s ((onN Kn252 (blockK 0 (onN (fun s => C.tidy 126 s Kb63) K0))) .normal)) (onN Kn252 (blockK 0 (onN (fun s => C.tidy 126 s Kb63) K0)))) = o2 N v0 v1 v2 v3 v4 v5 v6 v7 ((fun w0 => Kb63 (s3 w0))) (Kn252 <| s2 · · · · · · · ·) := by kernel_rfl
def d2 (v0 : Int) (v1 : List ((List Int))) (v2 v3 v4 v5 v6 v7 : Int) (c2 : t2) : Option R := o2 N v0 v1 v2 v3 v4 v5 v6 v7 ((fun w0 => d3 N w0)) c2
theorem d2.run (Kn252 : QQ) (v0 : Int) (v1 : List ((List Int))) (v2 v3 v4 v5 v6 v7 : Int) : runC C (O N) N (c 504) 504 (s2 v0 v1 v2 v3 v4 v5 v6 v7) (K504 N Kn252) = d2 N v0 v1 v2 v3 v4 v5 v6 v7 (Kn252 <| s2 · · · · · · · ·) := by
  unfold d2; exact (o2.run N (B63 N) Kn252 v0 v1 v2 v3 v4 v5 v6 v7).trans (congr (congr rfl (fx1 (d3.run N))) rfl)
def K252 : Ex → QQ := (blockK 0 (onN (fun s => C.tidy 126 s (B63 N)) K0))
def l2 (N : Nat) : Nat → Int → (List ((List Int))) → Int → Int → Int → Int → Int → Int → Option R
  | 0, _, _, _, _, _, _, _, _ => none
  | n + 1, v0, v1, v2, v3, v4, v5, v6, v7 => d2 N v0 v1 v2 v3 v4 v5 v6 v7 (l2 N n · · · · · · · ·)
theorem loop252 (N : Nat) : ∀ n, (∀ (v0 : Int) (v1 : List ((List Int))) (v2 v3 v4 v5 v6 v7 : Int), iter (loopF C (O N) N (c 504) 252) n (s2 v0 v1 v2 v3 v4 v5 v6 v7) (K252 N) = l2 N n v0 v1 v2 v3 v4 v5 v6 v7)
  | 0 => (by intros; rfl)
  | n + 1 => (fun v0 v1 v2 v3 v4 v5 v6 v7 => (d2.run N (fun s => iter (loopF C (O N) N (c 504) 252) n s (K252 N)) v0 v1 v2 v3 v4 v5 v6 v7).trans (show _ = d2 N v0 v1 v2 v3 v4 v5 v6 v7 (l2 N n · · · · · · · ·) from (congr rfl (fx8 ((loop252 N n))))))
def K13 : Ex → QQ := (onN (tk C (O N) N c 6 7 K0) K0)
def o1 (N : Nat) (v0 v1 v2 : Int) (v3 : Bool) (c2 : t2) : Option R :=
 bif v3 then
  some (([] : List (List Int)), false)
 else
 c2 v2 ([] : List (List Int)) 0 1 1 0 v1 v0
theorem o1.run (H504 : Code) (v0 v1 v2 : Int) (v3 : Bool) : runC C (O N) N (c 13) 13 (s1 v0 v1 v2 v3) (onN (fun s => C.tidy 6 s (fun s' => runC C (O N) N (.seq (c 14) (.seq (c 30) (.seq (c 62) (.seq (.block 0 (.loop H504)) (c 127))))) 7 s' K0)) K0) = o1 N v0 v1 v2 v3 ((fun w0 w1 w2 w3 w4 w5 w6 w7 => iter (loopF C (O N) N H504 252) N (s2 w0 w1 w2 w3 w4 w5 w6 w7) (blockK 0 (onN (tk C (O N) N c 126 127 K0) K0)))) := by kernel_rfl
def d1 (v0 v1 v2 : Int) (v3 : Bool) : Option R := o1 N v0 v1 v2 v3 (l2 N N · · · · · · · ·)
theorem d1.run (v0 v1 v2 : Int) (v3 : Bool) : runC C (O N) N (c 13) 13 (s1 v0 v1 v2 v3) (K13 N) = d1 N v0 v1 v2 v3 := by
  unfold d1; exact (o1.run N (c 504) v0 v1 v2 v3).trans (congr rfl (fx8 ((loop252 N N))))
def o0 (a0 a1 a2 : Int) (c1 : t1) : Option R :=
 (zq59.g N a0 a1).bind fun r1 =>
 bif (!r1) then
  c1 a0 a1 a2 true
 else
 (zq81.g N a2 1 100000).bind fun r2 =>
 c1 a0 a1 a2 (!r2)
theorem o0.run (H13 : Code) (a0 a1 a2 : Int) : runC C (O N) N (.seq (c 2) (.seq (.seq (c 12) H13) (c 7))) 1 (st0 [.one (.i a0), .one (.i a1), .one (.i a2)] [] : St D0) K0 = o0 N a0 a1 a2 ((fun w0 w1 w2 w3 => runC C (O N) N H13 13 (s1 w0 w1 w2 w3) (onN (tk C (O N) N c 6 7 K0) K0))) := by kernel_rfl
def g (a0 a1 a2 : Int) : Option R := o0 N a0 a1 a2 (d1 N · · · ·)
theorem c1_0 : (c 1) = (.seq (c 2) (.seq (.seq (c 12) (c 13)) (c 7))) := by kernel_rfl
theorem g.run (a0 a1 a2 : Int) : runC C (O N) N (c 1) 1 (st0 [.one (.i a0), .one (.i a1), .one (.i a2)] [] : St D0) K0 = g N a0 a1 a2 := by
  rw [c1_0]; unfold g; exact (o0.run N (c 13) a0 a1 a2).trans (congr rfl (fx4 (d1.run N)))
def ent : Ent Tryz.prog T0 := mkEntC C tabOk0 mixed0 172 [(false, [.any]), (false, [.any]), (false, [.any])] sig (E N) Tryz.func172 (by kernel_rfl) [(false, [.own 43]), (false, [.any])] N (fun t => g N t.1 t.2.1 t.2.2) (fun _ => by kernel_rfl) (fun t => g.run N t.1 t.2.1 t.2.2)
end zq5
namespace zq141
variable (N : Nat)
abbrev R : Type := Bool
abbrev sig : Sig := ⟨[(false, 1), (false, 1)], [], [.i, .i], [(false, 1)], [], [.bool]⟩
noncomputable def C : Cfg D0 := ⟨Tryz.prog, T0, 19, 0, 13, 0, [], 800, false, []⟩
def E : List (Ent Tryz.prog T0) := [zq173.ent N]
def O : Orc D0 R := orcOf (E N)
def K0 : Ex → St D0 → Option R := exitK C Tryz.f189.results.toList [(false, [.any])] (decOut sig)
noncomputable def c (p : Nat) : Code := codeAt (Tryz.f189.body.getD .skip) (pathN p)
def o0 (a0 a1 : Int) : Option R :=
 (zq173.g N a1 2 100000).bind fun r1 =>
 bif r1 then
  (zq173.g N a0 1 (w64 (a1 - 1))).bind fun r2 =>
  some (r2)
 else
 some (false)
def g (a0 a1 : Int) : Option R := o0 N a0 a1
theorem g.run (a0 a1 : Int) : runC C (O N) N (c 1) 1 (st0 [.one (.i a0), .one (.i a1)] [] : St D0) K0 = g N a0 a1 := by kernel_rfl
def ent : Ent Tryz.prog T0 := mkEntC C tabOk0 mixed0 189 [(false, [.any]), (false, [.any])] sig (E N) Tryz.func189 (by kernel_rfl) [(false, [.any])] N (fun t => g N t.1 t.2) (fun _ => by kernel_rfl) (fun t => g.run N t.1 t.2)
end zq141
namespace zq107
variable (N : Nat)
abbrev R : Type := List ((List Int)) × Bool
abbrev QQ : Type := St D0 → Option R
abbrev sig : Sig := ⟨[(false, 1), (false, 1), (false, 1)], [], [.i, .i, .i], [(false, 1), (false, 1)], [], [.sl true 43, .bool]⟩
noncomputable def C : Cfg D0 := ⟨Tryz.prog, T0, 4503599912648647, 0, 60, 0, [(12, [0, 1, 2, 24], []), (126, [12], []), (252, [0, 1, 2, 8, 9, 10, 11, 12], [])], 3402659522609152, false, []⟩
def E : List (Ent Tryz.prog T0) := [zq141.ent N, zq173.ent N]
def O : Orc D0 R := orcOf (E N)
def K0 : Ex → QQ := exitK C Tryz.f142.results.toList [(false, [.own 43]), (false, [.any])] (decOut sig)
noncomputable def c (p : Nat) : Code := codeAt (Tryz.f142.body.getD .skip) (pathN p)
abbrev t1 : Type := Int → Int → Int → Bool → Option R
abbrev t2 : Type := Int → Int → Int → Int → Int → Int → Int → (List ((List Int))) → Option R
abbrev t3 : Type := (List ((List Int))) → Option R
def s1 (v0 v1 v2 : Int) (v3 : Bool) : St D0 := mkSt [(0, .one (.i v0)), (1, .one (.i v1)), (2, .one (.i v2)), (24, .one (.bool v3))] []
def s2 (v0 v1 v2 v3 v4 v5 v6 : Int) (v7 : List ((List Int))) : St D0 := mkSt [(0, .one (.i v0)), (1, .one (.i v1)), (2, .one (.i v2)), (8, .one (.i v3)), (9, .one (.i v4)), (10, .one (.i v5)), (11, .one (.i v6)), (12, .one (.sl true 43 v7))] []
def s3 (v0 : List ((List Int))) : St D0 := mkSt [(12, .one (.sl true 43 v0))] []
def K127 (N : Nat) : Ex → QQ := K0
def o3 (N : Nat) (v0 : List ((List Int))) : Option R :=
 some (v0, true)
def d3 (v0 : List ((List Int))) : Option R := o3 N v0
theorem d3.run (v0 : List ((List Int))) : runC C (O N) N (c 127) 127 (s3 v0) (K127 N) = d3 N v0 := by kernel_rfl
def B63 : QQ := fun s' => runC C (O N) N (c 127) 127 s' (K127 N)
def K504 (Kn252 : QQ) : Ex → QQ := ((fun up => (onN (fun s => C.tidy 252 s ((onN Kn252 up) .normal)) (onN Kn252 up))) (blockK 0 (onN (fun s => C.tidy 126 s (B63 N)) K0)))
def o2 (N : Nat) (v0 v1 v2 v3 v4 v5 v6 : Int) (v7 : List ((List Int))) (c3 : t3) (c2 : t2) : Option R :=
 bif (decide (v0 > 0)) then
  bif (v0 == 0) then
   none
  else
  bif (v0 == 0) then
   none
  else
  bif (decide ((w64 ((w64 ((w64 (Int.tdiv v1 v0)) * v6)) + v4)) > v2)) then
   c3 v7
  else
  bif (Nat.blt (v7.length + ([([(w64 ((w64 ((w64 (Int.tdiv v1 v0)) * v5)) + v3)), (w64 ((w64 ((w64 (Int.tdiv v1 v0)) * v6)) + v4))] : List Int)] : List (List Int)).length) 5864062014805) then
   c2 (Int.tmod v1 v0) v0 v2 v5 v6 (w64 ((w64 ((w64 (Int.tdiv v1 v0)) * v5)) + v3)) (w64 ((w64 ((w64 (Int.tdiv v1 v0)) * v6)) + v4)) (v7 ++ ([([(w64 ((w64 ((w64 (Int.tdiv v1 v0)) * v5)) + v3)), (w64 ((w64 ((w64 (Int.tdiv v1 v0)) * v6)) + v4))] : List Int)] : List (List Int)))
  else
  none
 else
 c3 v7
theorem o2.run (Kb63 : QQ) (Kn252 : QQ) (v0 v1 v2 v3 v4 v5 v6 : Int) (v7 : List ((List Int))) : runC C (O N) N (c 504) 504 (s2 v0 v1 v2 v3 v4 v5 v6 v7) (onN (fun s => C.tidy 252 s ((onN Kn252 (blockK 0 (onN (fun s => C.tidy 126 s Kb63) K0))) .normal)) (onN Kn252 (blockK 0 (onN (fun s => C.tidy 126 s Kb63) K0)))) = o2 N v0 v1 v2 v3 v4 v5 v6 v7 ((fun w0 => Kb63 (s3 w0))) (Kn252 <| s2 · · · · · · · ·) := by kernel_rfl
def d2 (v0 v1 v2 v3 v4 v5 v6 : Int) (v7 : List ((List Int))) (c2 : t2) : Option R := o2 N v0 v1 v2 v3 v4 v5 v6 v7 ((fun w0 => d3 N w0)) c2
theorem d2.run (Kn252 : QQ) (v0 v1 v2 v3 v4 v5 v6 : Int) (v7 : List ((List Int))) : runC C (O N) N (c 504) 504 (s2 v0 v1 v2 v3 v4 v5 v6 v7) (K504 N Kn252) = d2 N v0 v1 v2 v3 v4 v5 v6 v7 (Kn252 <| s2 · · · · · · · ·) := by
  unfold d2; exact (o2.run N (B63 N) Kn252 v0 v1 v2 v3 v4 v5 v6 v7).trans (congr (congr rfl (fx1 (d3.run N))) rfl)
def K252 : Ex → QQ := (blockK 0 (onN (fun s => C.tidy 126 s (B63 N)) K0))
def l2 (N : Nat) : Nat → Int → Int → Int → Int → Int → Int → Int → (List ((List Int))) → Option R
  | 0, _, _, _, _, _, _, _, _ => none
  | n + 1, v0, v1, v2, v3, v4, v5, v6, v7 => d2 N v0 v1 v2 v3 v4 v5 v6 v7 (l2 N n · · · · · · · ·)
theorem loop252 (N : Nat) : ∀ n, (∀ (v0 v1 v2 v3 v4 v5 v6 : Int) (v7 : List ((List Int))), iter (loopF C (O N) N (c 504) 252) n (s2 v0 v1 v2 v3 v4 v5 v6 v7) (K252 N) = l2 N n v0 v1 v2 v3 v4 v5 v6 v7)
  | 0 => (by intros; rfl)
  | n + 1 => (fun v0 v1 v2 v3 v4 v5 v6 v7 => (d2.run N (fun s => iter (loopF C (O N) N (c 504) 252) n s (K252 N)) v0 v1 v2 v3 v4 v5 v6 v7).trans (show _ = d2 N v0 v1 v2 v3 v4 v5 v6 v7 (l2 N n · · · · · · · ·) from (congr rfl (fx8 ((loop252 N n))))))
def K13 : Ex → QQ := (onN (tk C (O N) N c 6 7 K0) K0)
def o1 (N : Nat) (v0 v1 v2 : Int) (v3 : Bool) (c2 : t2) : Option R :=
 bif v3 then
  some (([] : List (List Int)), false)
 else
 c2 v0 v1 v2 1 0 0 1 ([([0, 1] : List Int)] : List (List Int))
theorem o1.run (H504 : Code) (v0 v1 v2 : Int) (v3 : Bool) : runC C (O N) N (c 13) 13 (s1 v0 v1 v2 v3) (onN (fun s => C.tidy 6 s (fun s' => runC C (O N) N (.seq (c 14) (.seq (c 30) (.seq (c 62) (.seq (.block 0 (.loop H504)) (c 127))))) 7 s' K0)) K0) = o1 N v0 v1 v2 v3 ((fun w0 w1 w2 w3 w4 w5 w6 w7 => iter (loopF C (O N) N H504 252) N (s2 w0 w1 w2 w3 w4 w5 w6 w7) (blockK 0 (onN (tk C (O N) N c 126 127 K0) K0)))) := by kernel_rfl
def d1 (v0 v1 v2 : Int) (v3 : Bool) : Option R := o1 N v0 v1 v2 v3 (l2 N N · · · · · · · ·)
theorem d1.run (v0 v1 v2 : Int) (v3 : Bool) : runC C (O N) N (c 13) 13 (s1 v0 v1 v2 v3) (K13 N) = d1 N v0 v1 v2 v3 := by
  unfold d1; exact (o1.run N (c 504) v0 v1 v2 v3).trans (congr rfl (fx8 ((loop252 N N))))
def o0 (a0 a1 a2 : Int) (c1 : t1) : Option R :=
 (zq141.g N a0 a1).bind fun r1 =>
 bif (!r1) then
  c1 a0 a1 a2 true
 else
 (zq173.g N a2 1 100000).bind fun r2 =>
 c1 a0 a1 a2 (!r2)
theorem o0.run (H13 : Code) (a0 a1 a2 : Int) : runC C (O N) N (.seq (c 2) (.seq (.seq (c 12) H13) (c 7))) 1 (st0 [.one (.i a0), .one (.i a1), .one (.i a2)] [] : St D0) K0 = o0 N a0 a1 a2 ((fun w0 w1 w2 w3 => runC C (O N) N H13 13 (s1 w0 w1 w2 w3) (onN (tk C (O N) N c 6 7 K0) K0))) := by kernel_rfl
def g (a0 a1 a2 : Int) : Option R := o0 N a0 a1 a2 (d1 N · · · ·)
theorem c1_0 : (c 1) = (.seq (c 2) (.seq (.seq (c 12) (c 13)) (c 7))) := by kernel_rfl
theorem g.run (a0 a1 a2 : Int) : runC C (O N) N (c 1) 1 (st0 [.one (.i a0), .one (.i a1), .one (.i a2)] [] : St D0) K0 = g N a0 a1 a2 := by
  rw [c1_0]; unfold g; exact (o0.run N (c 13) a0 a1 a2).trans (congr rfl (fx4 (d1.run N)))
def ent : Ent Tryz.prog T0 := mkEntC C tabOk0 mixed0 142 [(false, [.any]), (false, [.any]), (false, [.any])] sig (E N) Tryz.func142 (by kernel_rfl) [(false, [.own 43]), (false, [.any])] N (fun t => g N t.1 t.2.1 t.2.2) (fun _ => by kernel_rfl) (fun t => g.run N t.1 t.2.1 t.2.2)
end zq107
namespace zq35
variable (N : Nat)
abbrev R : Type := BA × Bool
abbrev sig : Sig := ⟨[(false, 1), (false, 1), (true, 2)], [], [.i, .i, .i, .i], [(false, 1), (false, 1)], [], [.str, .bool]⟩
noncomputable def C : Cfg D0 := ⟨Tryz.prog, T0, 1255, 0, 16, 0, [], 2304, false, []⟩
def E : List (Ent Tryz.prog T0) := [zq58.ent N, zq37.ent N]
def O : Orc D0 R := orcOf (E N)
def K0 : Ex → St D0 → Option R := exitK C Tryz.f112.results.toList [(false, [.any]), (false, [.any])] (decOut sig)
noncomputable def c (p : Nat) : Code := codeAt (Tryz.f112.body.getD .skip) (pathN p)
def o0 (a0 a1 a2_0 a2_1 : Int) : Option R :=
 (zq58.g N a0).bind fun r1 =>
 bif (!r1) then
  some ((⟨#[]⟩ : BA), false)
 else
 (zq37.g N a1 a2_0 a2_1).bind fun r2 =>
 some (r2.1, r2.2)
def g (a0 a1 a2_0 a2_1 : Int) : Option R := o0 N a0 a1 a2_0 a2_1
theorem g.run (a0 a1 a2_0 a2_1 : Int) : runC C (O N) N (c 1) 1 (st0 [.one (.i a0), .one (.i a1), .agg [.i a2_0, .i a2_1]] [] : St D0) K0 = g N a0 a1 a2_0 a2_1 := by kernel_rfl
def ent : Ent Tryz.prog T0 := mkEntC C tabOk0 mixed0 112 [(false, [.any]), (false, [.any]), (true, [.any, .any])] sig (E N) Tryz.func112 (by kernel_rfl) [(false, [.any]), (false, [.any])] N (fun t => g N t.1 t.2.1 t.2.2.1 t.2.2.2) (fun _ => by kernel_rfl) (fun t => g.run N t.1 t.2.1 t.2.2.1 t.2.2.2)
end zq35
namespace zq125
variable (N : Nat)
abbrev R : Type := BA × Bool
abbrev sig : Sig := ⟨[(false, 1), (false, 1), (true, 2)], [], [.i, .i, .i, .i], [(false, 1), (false, 1)], [], [.str, .bool]⟩
noncomputable def C : Cfg D0 := ⟨Tryz.prog, T0, 2279, 0, 17, 0, [], 4352, false, []⟩
def E : List (Ent Tryz.prog T0) := [zq146.ent N, zq126.ent N]
def O : Orc D0 R := orcOf (E N)
def K0 : Ex → St D0 → Option R := exitK C Tryz.f140.results.toList [(false, [.any]), (false, [.any])] (decOut sig)
noncomputable def c (p : Nat) : Code := codeAt (Tryz.f140.body.getD .skip) (pathN p)
def o0 (a0 a1 a2_0 a2_1 : Int) : Option R :=
 (zq146.g N a0 a2_0 a2_1).bind fun r1 =>
 bif (!r1) then
  some ((⟨#[]⟩ : BA), false)
 else
 (zq126.g N a1 a2_0 a2_1).bind fun r2 =>
 some (r2.1, r2.2)
def g (a0 a1 a2_0 a2_1 : Int) : Option R := o0 N a0 a1 a2_0 a2_1
theorem g.run (a0 a1 a2_0 a2_1 : Int) : runC C (O N) N (c 1) 1 (st0 [.one (.i a0), .one (.i a1), .agg [.i a2_0, .i a2_1]] [] : St D0) K0 = g N a0 a1 a2_0 a2_1 := by kernel_rfl
def ent : Ent Tryz.prog T0 := mkEntC C tabOk0 mixed0 140 [(false, [.any]), (false, [.any]), (true, [.any, .any])] sig (E N) Tryz.func140 (by kernel_rfl) [(false, [.any]), (false, [.any])] N (fun t => g N t.1 t.2.1 t.2.2.1 t.2.2.2) (fun _ => by kernel_rfl) (fun t => g.run N t.1 t.2.1 t.2.2.1 t.2.2.2)
end zq125
namespace zq60
variable (N : Nat)
abbrev R : Type := Bool
abbrev sig : Sig := ⟨[(false, 1), (false, 1)], [], [.i, .i], [(false, 1)], [], [.bool]⟩
noncomputable def C : Cfg D0 := ⟨Tryz.prog, T0, 19, 0, 23, 0, [], 399648, false, []⟩
def E : List (Ent Tryz.prog T0) := [zq81.ent N]
def O : Orc D0 R := orcOf (E N)
def K0 : Ex → St D0 → Option R := exitK C Tryz.f236.results.toList [(false, [.any])] (decOut sig)
noncomputable def c (p : Nat) : Code := codeAt (Tryz.f236.body.getD .skip) (pathN p)
def o0 (a0 a1 : Int) : Option R :=
 bif (a0 == 0) then
  some (true)
 else
 bif (decide (a1 > 0)) then
  (zq81.g N a0 (w64 (a1 + 1)) 10000).bind fun r1 =>
  bif r1 then
   bif (a1 == 0) then
    none
   else
   some (((Int.tmod a0 a1) == 0))
  else
  some (false)
 else
 some (false)
def g (a0 a1 : Int) : Option R := o0 N a0 a1
theorem g.run (a0 a1 : Int) : runC C (O N) N (c 1) 1 (st0 [.one (.i a0), .one (.i a1)] [] : St D0) K0 = g N a0 a1 := by kernel_rfl
def ent : Ent Tryz.prog T0 := mkEntC C tabOk0 mixed0 236 [(false, [.any]), (false, [.any])] sig (E N) Tryz.func236 (by kernel_rfl) [(false, [.any])] N (fun t => g N t.1 t.2) (fun _ => by kernel_rfl) (fun t => g.run N t.1 t.2)
end zq60
end Go.Proofs.YtdidghlibfopgaaGreatDoor.M
end
