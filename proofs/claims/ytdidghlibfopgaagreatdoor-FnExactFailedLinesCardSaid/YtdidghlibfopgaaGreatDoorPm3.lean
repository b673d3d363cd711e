/- An abstract machine for the model's code, and its soundness (part 3). No conditions but those stated. -/
import Derived.Test.YtdidghlibfopgaaGreatDoorPm2
import Derived.SizedLaws
import Derived.DataReads
import Derived.DataElems
import Derived.ChangeOld
import Derived.ChangeSlices
import Derived.ChangeArms
namespace Go.PM
set_option linter.unusedVariables false
set_option linter.unusedSimpArgs false
variable {D : TypeId → Type}
theorem good_new {P : Program} {T : Tab D} (HT : TabOk T) {f : FuncId} (e : TypeId) (hf : ∃ fn, P.funcs[f]? = some fn ∧ (fn.name == "runtime.NumGoroutine") = false ∧ fn.body.isNone = false)
  (args : List (PV D)) (ys : List (D e))
  (H : ∀ (w : World) (C : Nat → Nat → Option Value) (blk : Nat → Nat) (vargs : Array Value), vargs.size = args.length → (∀ t, PRep T C blk (args.getD t (.one .undef)) (slotV ⟨vargs, []⟩ t)) → (∀ b o u, C b o = some u → w.cell? ⟨b, o, none⟩ = some u) →
   ∃ news, RowOf T C e ys news ∧ Calls P f vargs w fun e' w' => ∃ v', e' = .returned v' ∧ w'.ownsRow w.heap.size e (T.size e) v' ys.length news ∧ Go.RowKit.Below w.heap.size w w') :
  Good P T f args [] (.one (.sl true e ys)) [] := by
 refine ⟨hf, ?_⟩
 intro w C blk md vargs J _
 have hsz : vargs.size = args.length := J.sz
 have hrep : ∀ t, PRep T C blk (args.getD t (.one .undef)) (slotV ⟨vargs, []⟩ t) := by
  intro t
  have := J.rep t
  rw [get_stOf] at this
  exact this
 have J0 := J.bare (P := P) (T := T) rfl rfl
 obtain ⟨news, hrow, hcall⟩ := H w C blk vargs hsz hrep J.ag
 refine hcall.mono ?_
 rintro e' w' ⟨v', rfl, ⟨hl, hown⟩, hB⟩
 have hno : ∀ ix, ownsAt (cfg0 P T 1 0) blk (stOf (D := D) [.one .undef] []) ⟨#[undef], []⟩ w ix = [] := by
  intro ix
  cases ix with
  | slot t =>
   refine owns_of_hasOwn ?_
   rw [get_stOf]
   cases t <;> rfl
  | box id => simp [ownsAt, prs, stOf]
 rcases hown with ⟨rfl, hn⟩ | ⟨g, cap, cur, rfl, hg, hgw, hncap, hcm, hcs, htake⟩
 ·have hx : ys = [] := List.eq_nil_of_length_eq_zero hn
  subst hx
  have J1 : Inv (cfg0 P T 1 0) ⟨w, C, md, blk⟩ C blk (stOf [.one .undef] []) ⟨#[undef], []⟩ w' := by
   refine J0.world (Ext.refl _) ⟨hB.os, hB.tape, hB.output, hB.size, fun k hk _ => hB.block k hk⟩ (fun id h => by simp [stOf] at h) (fun ix b hb => by rw [hno] at hb; cases hb) (fun b o v h => .inl h) ?_
   intro b o v h
   have hc := J.ag b o v h
   exact (World.cell?_of_block (a := ⟨b, o, none⟩) (hB.block b (World.block_lt_of_cell? w _ hc))).trans hc
  have I := J1.put 0 (by show (0 : Nat) < 1; omega) (.one (.sl true e [])) (.slice none 0 0) (ERep.sl true e [] none 0 0 0 (fun _ _ => .int .i64 0) (Nat.le_refl _) (fun h => absurd rfl h) (fun i x j l h => by simp at h) (fun i x j l h => by simp at h)) (fun id h => by cases h)
   (fun p hp => by simp only [PV.pairs, List.mem_singleton] at hp; subst hp; exact .inl ⟨rfl, rfl⟩) (show ([] : List Nat).Nodup from List.nodup_nil) (fun ix b _ h => by have h' : b ∈ ([] : List Nat) := h; cases h') (fun id h => by simp [stOf] at h) (fun b h => by have h' : b ∈ ([] : List Nat) := h; cases h')
  rw [stOf_put] at I
  exact ⟨_, C, blk, rfl, I⟩
 ·have hno2 : ∀ ix, g ∉ ownsAt (cfg0 P T 1 0) blk (stOf (D := D) [.one .undef] []) ⟨#[undef], []⟩ w ix := by
   intro ix hm
   rw [hno ix] at hm
   cases hm
  obtain ⟨C', I⟩ := J0.ownRow (w' := w') HT 0 (by show (0 : Nat) < 1; omega) e ys news hrow g cap cur hgw hncap hcm hcs htake (fun k hk _ => hB.block k hk) hB.os hB.tape hB.output hB.size
   ⟨hno2, (fun id h => by simp [stOf] at h), .inl hg⟩
   (fun o v h => by
    have hc := J.ag g o v h
    have := World.block_lt_of_cell? w _ hc
    simp at this
    omega)
  rw [stOf_put] at I
  exact ⟨_, C', blk, rfl, I⟩
theorem row_str {T : Tab D} {C : Nat → Nat → Option Value} {e : TypeId} {ys : List (D e)} (enc : D e → ByteArray) (hs : T.size e = 1) (ho : ∀ x, T.out e x = [.str (enc x)]) : RowOf T C e ys (ys.map fun x => Value.string (enc x)) := by
 refine ⟨by rw [hs, Nat.mul_one, List.length_map], fun i x j l hx hl => ?_⟩
 rw [ho] at hl
 cases j with
 | succ j => cases hl
 | zero =>
  cases hl
  refine ⟨.string (enc x), ?_, .str (enc x)⟩
  rw [hs, Nat.mul_one, Nat.add_zero, List.getElem?_map, hx]; rfl
end Go.PM
namespace Go.PM
set_option linter.unusedVariables false
set_option linter.unusedSimpArgs false
open Go.RowKit
variable {D : TypeId → Type}
theorem good_glob {P : Program} {T : Tab D} {f : FuncId} (hf : ∃ fn, P.funcs[f]? = some fn ∧ (fn.name == "runtime.NumGoroutine") = false ∧ fn.body.isNone = false)
  (args : List (PV D)) {ret : PV D} (hid : ret.ids = []) (hown : ret.hasOwn = false)
  (H : ∀ (w : World) (C : Nat → Nat → Option Value) (blk : Nat → Nat) (vargs : Array Value), vargs.size = args.length → (∀ t, PRep T C blk (args.getD t (.one .undef)) (slotV ⟨vargs, []⟩ t)) → (∀ b o u, C b o = some u → w.cell? ⟨b, o, none⟩ = some u) → (∀ x ∈ T.gl, ∃ o, w.heap[x.1]? = some o ∧ x.2 o) →
   Calls P f vargs w fun e' w' => ∃ v, e' = .returned v ∧ PRep T C blk ret v ∧ Below w.heap.size w w') :
  Good P T f args [] ret [] := by
 refine ⟨hf, ?_⟩
 intro w C blk md vargs J _
 have hsz : vargs.size = args.length := J.sz
 have hrep : ∀ t, PRep T C blk (args.getD t (.one .undef)) (slotV ⟨vargs, []⟩ t) := by
  intro t
  have := J.rep t
  rw [get_stOf] at this
  exact this
 have J0 := J.bare (P := P) (T := T) rfl rfl
 have hno : ∀ ix, ownsAt (cfg0 P T 1 0) blk (stOf (D := D) [.one .undef] []) ⟨#[undef], []⟩ w ix = [] := by
  intro ix
  cases ix with
  | slot t =>
   refine owns_of_hasOwn ?_
   rw [get_stOf]
   cases t <;> rfl
  | box id => simp [ownsAt, prs, stOf]
 refine (H w C blk vargs hsz hrep J.ag (J.cx.now J.gr)).mono ?_
 rintro e' w' ⟨v, rfl, hv, hB⟩
 have J1 : Inv (cfg0 P T 1 0) ⟨w, C, md, blk⟩ C blk (stOf [.one .undef] []) ⟨#[undef], []⟩ w' := by
  refine J0.world (Ext.refl _) ⟨hB.os, hB.tape, hB.output, hB.size, fun k hk _ => hB.block k hk⟩ (fun id h => by simp [stOf] at h) (fun ix b hb => by rw [hno] at hb; cases hb) (fun b o v h => .inl h) ?_
  intro b o v h
  have hc := J.ag b o v h
  exact (World.cell?_of_block (a := ⟨b, o, none⟩) (hB.block b (World.block_lt_of_cell? w _ hc))).trans hc
 have I := J1.put0 0 (by show (0 : Nat) < 1; omega) ret v hv (fun id h => by rw [hid] at h; cases h) hown
 rw [stOf_put] at I
 exact ⟨_, C, blk, rfl, I⟩
end Go.PM
namespace Go.PM
open Go.RowKit
variable {D : TypeId → Type}
theorem crep1 {T : Tab D} {C : Nat → Nat → Option Value} {blk : Nat → Nat} {l : LV D} {v : Value} (h : LRep T C blk l v) : CRep T C blk (false, [l]) v := by
 unfold CRep
 rw [if_neg (by simp)]
 exact ⟨l, rfl, h⟩
theorem var_blk {P : Program} {w : World} {n : String} {g : Nat} {cs : Array Value} {t : TypeId} {fr : Nat × Nat} (hg : P.globalNamed n = some g) (h : w.heap[g]? = some (.cells cs t fr)) : w.var? P n = some cs := by
 unfold World.var?
 rw [hg, Option.bind_some, h]
theorem blk_var {P : Program} {w : World} {n : String} {g : Nat} {cs : Array Value} (hg : P.globalNamed n = some g) (h : w.var? P n = some cs) : ∃ t fr, w.heap[g]? = some (.cells cs t fr) := by
 unfold World.var? at h
 rw [hg, Option.bind_some] at h
 split at h
 ·rename_i c t fr e
  simp only [Option.some.injEq] at h
  subst h
  exact ⟨_, _, e⟩
 ·cases h
end Go.PM
namespace Go.PM
open Go.ChangeShapes Go.WideShapes
set_option linter.unusedVariables false
set_option linter.unusedSimpArgs false
variable {D : TypeId → Type}

def OpnP {α : Type} (P : Program) (T : Tab D) (t : TypeId) (n : Nat) (mk : α → List (LV D)) (Q : α → Prop) : Prop :=
 n = P.cellsOf t ∧ ∀ (H : Type) (enc : TypeId × Value → H) (W : World) (fuel : Nat) (cs : List Value) (x : DataW H × List MemPlace),
  DataW.trod enc P W 0 (fun _ => true) true fuel t cs = some x → (x.1.weights P t).all (· ≤ reachBytes) = true → ∃ y, F2 (ERep T (allC W)) (mk y) cs ∧ cs.length = n ∧ Q y
variable {T : Tab D}
theorem opnP_string {P : Program} {t : TypeId} (hu : P.underlying t = some .string) (hc : P.cellsOf t = 1) : OpnP P T t 1 (fun s : ByteArray => [.str s]) (fun s => s.size ≤ 140737488351232) := by
 refine ⟨hc.symm, ?_⟩
 intro H enc W fuel cs x h hw
 obtain ⟨s, rfl, rfl, _⟩ := DataW.trod_string hu h
 refine ⟨s, .cons (.str _) .nil, rfl, ?_⟩
 simp [DataW.weights, reachBytes] at hw
 exact of_decide_eq_true hw

theorem opnP_use {α : Type} {P : Program} {t : TypeId} {n : Nat} {mk : α → List (LV D)} {Q : α → Prop} (h : OpnP P T t n mk Q) {H : Type} {enc : TypeId × Value → H} {W : World} {v : Value} {X : DataW H} {ps : List MemPlace} {ts : List TypeId} {ds : List (DataW H)} {j : Nat}
  (hsz : (DataW.weightsEach P ts ds).all (· ≤ reachBytes) = true) (ht : ts[j]? = some t) (hd : ds[j]? = some X) (hx : DataW.Trod enc P W 0 (fun _ => true) true t v X ps) : ∃ y, F2 (ERep T (allC W)) (mk y) v.cells.toList ∧ Q y := by
 obtain ⟨fuel, hf⟩ := hx
 obtain ⟨y, k, _, q⟩ := h.2 H enc W fuel _ (X, ps) hf (by
  rw [List.all_eq_true]
  intro n hn
  exact List.all_eq_true.1 hsz n (DataW.weights_mem_each ht hd n hn))
 exact ⟨y, k, q⟩
theorem trod_places' {P : Program} {H : Type} {enc : TypeId × Value → H} {W : World} {t : TypeId} {v : Value} {X : DataW H} {ps : List MemPlace} (h : DataW.Trod enc P W 0 (fun _ => true) true t v X ps) : ∀ x ∈ ps, x.block < W.heap.size := by
 obtain ⟨m, hm⟩ := h
 exact DataW.trod_lt m _ _ _ hm
theorem rep_one {C : Nat → Nat → Option Value} {blk : Nat → Nat} {l : LV D} {v : Value} (hv : v.cells.toList = [v]) (h : F2 (ERep T C) [l] v.cells.toList) : PRep T C blk (.one l) v := by
 rw [hv] at h
 cases h with
 | cons h _ => exact LRep_of_ERep h
end Go.PM
