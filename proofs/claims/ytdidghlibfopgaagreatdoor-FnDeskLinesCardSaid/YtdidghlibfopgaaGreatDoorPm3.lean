/- An abstract machine for the model's code, and its soundness (part 3). No conditions but those stated. -/
import Derived.Test.YtdidghlibfopgaaGreatDoorPm2
import Derived.SizedLaws
import Derived.DataReads
import Derived.DataElems
import Derived.ChangeOld
import Derived.ChangeSlices
import Derived.ChangeArms
namespace Go.PM
set_option linter.unusedVariables false
set_option linter.unusedSimpArgs false
variable {D : TypeId → Type}
theorem good_new {P : Program} {T : Tab D} (HT : TabOk T) {f : FuncId} (e : TypeId) (hf : ∃ fn, P.funcs[f]? = some fn ∧ (fn.name == "runtime.NumGoroutine") = false ∧ fn.body.isNone = false)
  (args : List (PV D)) (ys : List (D e))
  (H : ∀ (w : World) (C : Nat → Nat → Option Value) (blk : Nat → Nat) (vargs : Array Value), vargs.size = args.length → (∀ t, PRep T C blk (args.getD t (.one .undef)) (slotV ⟨vargs, []⟩ t)) → (∀ b o u, C b o = some u → w.cell? ⟨b, o, none⟩ = some u) →
   ∃ news, RowOf T C e ys news ∧ Calls P f vargs w fun e' w' => ∃ v', e' = .returned v' ∧ w'.ownsRow w.heap.size e (T.size e) v' ys.length news ∧ Go.RowKit.Below w.heap.size w w') :
  Good P T f args [] (.one (.sl true e ys)) [] := by
 refine ⟨hf, ?_⟩
 intro w C blk md vargs J _
 have hsz : vargs.size = args.length := J.sz
 have hrep : ∀ t, PRep T C blk (args.getD t (.one .undef)) (slotV ⟨vargs, []⟩ t) := by
  intro t
  have := J.rep t
  rw [get_stOf] at this
  exact this
 have J0 := J.bare (P := P) (T := T) rfl rfl
 obtain ⟨news, hrow, hcall⟩ := H w C blk vargs hsz hrep J.ag
 refine hcall.mono ?_
 rintro e' w' ⟨v', rfl, ⟨hl, hown⟩, hB⟩
 have hno : ∀ ix, ownsAt (cfg0 P T 1 0) blk (stOf (D := D) [.one .undef] []) ⟨#[undef], []⟩ w ix = [] := by
  intro ix
  cases ix with
  | slot t =>
   refine owns_of_hasOwn ?_
   rw [get_stOf]
   cases t <;> rfl
  | box id => simp [ownsAt, prs, stOf]
 rcases hown with ⟨rfl, hn⟩ | ⟨g, cap, cur, rfl, hg, hgw, hncap, hcm, hcs, htake⟩
 ·have hx : ys = [] := List.eq_nil_of_length_eq_zero hn
  subst hx
  have J1 : Inv (cfg0 P T 1 0) ⟨w, C, md, blk⟩ C blk (stOf [.one .undef] []) ⟨#[undef], []⟩ w' := by
   refine J0.world (Ext.refl _) ⟨hB.os, hB.tape, hB.output, hB.size, fun k hk _ => hB.block k hk⟩ (fun id h => by simp [stOf] at h) (fun ix b hb => by rw [hno] at hb; cases hb) (fun b o v h => .inl h) ?_
   intro b o v h
   have hc := J.ag b o v h
   exact (World.cell?_of_block (a := ⟨b, o, none⟩) (hB.block b (World.block_lt_of_cell? w _ hc))).trans hc
  have I := J1.put 0 (by show (0 : Nat) < 1; omega) (.one (.sl true e [])) (.slice none 0 0) (ERep.sl true e [] none 0 0 0 (fun _ _ => .int .i64 0) (Nat.le_refl _) (fun h => absurd rfl h) (fun i x j l h => by simp at h) (fun i x j l h => by simp at h)) (fun id h => by cases h)
   (fun p hp => by simp only [PV.pairs, List.mem_singleton] at hp; subst hp; exact .inl ⟨rfl, rfl⟩) (show ([] : List Nat).Nodup from List.nodup_nil) (fun ix b _ h => by have h' : b ∈ ([] : List Nat) := h; cases h') (fun id h => by simp [stOf] at h) (fun b h => by have h' : b ∈ ([] : List Nat) := h; cases h')
  rw [stOf_put] at I
  exact ⟨_, C, blk, rfl, I⟩
 ·have hno2 : ∀ ix, g ∉ ownsAt (cfg0 P T 1 0) blk (stOf (D := D) [.one .undef] []) ⟨#[undef], []⟩ w ix := by
   intro ix hm
   rw [hno ix] at hm
   cases hm
  obtain ⟨C', I⟩ := J0.ownRow (w' := w') HT 0 (by show (0 : Nat) < 1; omega) e ys news hrow g cap cur hgw hncap hcm hcs htake (fun k hk _ => hB.block k hk) hB.os hB.tape hB.output hB.size
   ⟨hno2, (fun id h => by simp [stOf] at h), .inl hg⟩
   (fun o v h => by
    have hc := J.ag g o v h
    have := World.block_lt_of_cell? w _ hc
    simp at this
    omega)
  rw [stOf_put] at I
  exact ⟨_, C', blk, rfl, I⟩
theorem row_str {T : Tab D} {C : Nat → Nat → Option Value} {e : TypeId} {ys : List (D e)} (enc : D e → ByteArray) (hs : T.size e = 1) (ho : ∀ x, T.out e x = [.str (enc x)]) : RowOf T C e ys (ys.map fun x => Value.string (enc x)) := by
 refine ⟨by rw [hs, Nat.mul_one, List.length_map], fun i x j l hx hl => ?_⟩
 rw [ho] at hl
 cases j with
 | succ j => cases hl
 | zero =>
  cases hl
  refine ⟨.string (enc x), ?_, .str (enc x)⟩
  rw [hs, Nat.mul_one, Nat.add_zero, List.getElem?_map, hx]; rfl
end Go.PM
namespace Go.PM
set_option linter.unusedVariables false
set_option linter.unusedSimpArgs false
open Go.RowKit
variable {D : TypeId → Type}
theorem good_glob {P : Program} {T : Tab D} {f : FuncId} (hf : ∃ fn, P.funcs[f]? = some fn ∧ (fn.name == "runtime.NumGoroutine") = false ∧ fn.body.isNone = false)
  (args : List (PV D)) {ret : PV D} (hid : ret.ids = []) (hown : ret.hasOwn = false)
  (H : ∀ (w : World) (C : Nat → Nat → Option Value) (blk : Nat → Nat) (vargs : Array Value), vargs.size = args.length → (∀ t, PRep T C blk (args.getD t (.one .undef)) (slotV ⟨vargs, []⟩ t)) → (∀ b o u, C b o = some u → w.cell? ⟨b, o, none⟩ = some u) → (∀ x ∈ T.gl, ∃ o, w.heap[x.1]? = some o ∧ x.2 o) →
   Calls P f vargs w fun e' w' => ∃ v, e' = .returned v ∧ PRep T C blk ret v ∧ Below w.heap.size w w') :
  Good P T f args [] ret [] := by
 refine ⟨hf, ?_⟩
 intro w C blk md vargs J _
 have hsz : vargs.size = args.length := J.sz
 have hrep : ∀ t, PRep T C blk (args.getD t (.one .undef)) (slotV ⟨vargs, []⟩ t) := by
  intro t
  have := J.rep t
  rw [get_stOf] at this
  exact this
 have J0 := J.bare (P := P) (T := T) rfl rfl
 have hno : ∀ ix, ownsAt (cfg0 P T 1 0) blk (stOf (D := D) [.one .undef] []) ⟨#[undef], []⟩ w ix = [] := by
  intro ix
  cases ix with
  | slot t =>
   refine owns_of_hasOwn ?_
   rw [get_stOf]
   cases t <;> rfl
  | box id => simp [ownsAt, prs, stOf]
 refine (H w C blk vargs hsz hrep J.ag (J.cx.now J.gr)).mono ?_
 rintro e' w' ⟨v, rfl, hv, hB⟩
 have J1 : Inv (cfg0 P T 1 0) ⟨w, C, md, blk⟩ C blk (stOf [.one .undef] []) ⟨#[undef], []⟩ w' := by
  refine J0.world (Ext.refl _) ⟨hB.os, hB.tape, hB.output, hB.size, fun k hk _ => hB.block k hk⟩ (fun id h => by simp [stOf] at h) (fun ix b hb => by rw [hno] at hb; cases hb) (fun b o v h => .inl h) ?_
  intro b o v h
  have hc := J.ag b o v h
  exact (World.cell?_of_block (a := ⟨b, o, none⟩) (hB.block b (World.block_lt_of_cell? w _ hc))).trans hc
 have I := J1.put0 0 (by show (0 : Nat) < 1; omega) ret v hv (fun id h => by rw [hid] at h; cases h) hown
 rw [stOf_put] at I
 exact ⟨_, C, blk, rfl, I⟩
end Go.PM
namespace Go.PM
open Go.RowKit
variable {D : TypeId → Type}
theorem crep1 {T : Tab D} {C : Nat → Nat → Option Value} {blk : Nat → Nat} {l : LV D} {v : Value} (h : LRep T C blk l v) : CRep T C blk (false, [l]) v := by
 unfold CRep
 rw [if_neg (by simp)]
 exact ⟨l, rfl, h⟩
theorem var_blk {P : Program} {w : World} {n : String} {g : Nat} {cs : Array Value} {t : TypeId} {fr : Nat × Nat} (hg : P.globalNamed n = some g) (h : w.heap[g]? = some (.cells cs t fr)) : w.var? P n = some cs := by
 unfold World.var?
 rw [hg, Option.bind_some, h]
theorem blk_var {P : Program} {w : World} {n : String} {g : Nat} {cs : Array Value} (hg : P.globalNamed n = some g) (h : w.var? P n = some cs) : ∃ t fr, w.heap[g]? = some (.cells cs t fr) := by
 unfold World.var? at h
 rw [hg, Option.bind_some] at h
 split at h
 ·rename_i c t fr e
  simp only [sI] at h
  subst h
  exact ⟨_, _, e⟩
 ·cases h
end Go.PM
namespace Go.PM
open Go.ChangeShapes Go.WideShapes
set_option linter.unusedVariables false
set_option linter.unusedSimpArgs false
variable {D : TypeId → Type}

def OpnP {α : Type} (P : Program) (T : Tab D) (t : TypeId) (n : Nat) (mk : α → List (LV D)) (Q : α → Prop) : Prop :=
 n = P.cellsOf t ∧ ∀ (H : Type) (enc : TypeId × Value → H) (W : World) (fuel : Nat) (cs : List Value) (x : DataW H × List MemPlace),
  DataW.trod enc P W 0 (fun _ => true) true fuel t cs = some x → (x.1.weights P t).all (· ≤ reachBytes) = true → ∃ y, F2 (ERep T (allC W)) (mk y) cs ∧ cs.length = n ∧ Q y
variable {T : Tab D}
theorem opnP_int {P : Program} {t : TypeId} {k : IntKind} (hu : P.underlying t = some (.int k)) (hc : P.cellsOf t = 1) : OpnP P T t 1 (fun n : Int => [.int k n]) (fun n => (Lit.int k n).wf = true) := by
 refine ⟨hc.symm, ?_⟩
 intro H enc W fuel cs x h _
 obtain ⟨n, rfl, _, hw⟩ := DataW.trod_int hu h
 exact ⟨n, .cons (.int _ _) .nil, rfl, hw⟩
theorem weightsAll_mem {H : Type} {P : Program} {e : TypeId} : ∀ {ds : List (DataW H)} {d : DataW H}, d ∈ ds → ∀ n ∈ d.weights P e, n ∈ DataW.weightsAll P e ds
 | d0 :: ds, d, hd, n, hn => by
  simp only [DataW.weightsAll, List.mem_append]
  rcases List.mem_cons.1 hd with rfl | h
  ·exact .inl hn
  ·exact .inr (weightsAll_mem h n hn)
theorem cells_get {w : World} {a : Addr} : ∀ (n : Nat) {cs : List Value}, w.cells? 0 a n = some cs → cs.length = n ∧ ∀ i u, cs[i]? = some u → w.cell? (a.add i) = some u := by
 intro n cs h
 unfold World.cells? at h
 rw [if_pos (Nat.zero_le _)] at h
 have hl := mapM_some_length h
 simp only [List.length_range] at hl
 refine ⟨hl, fun i u hu => ?_⟩
 have hi : i < n := by
  rcases Nat.lt_or_ge i n with h' | h'
  ·exact h'
  ·rw [List.getElem?_eq_none (by omega)] at hu; cases hu
 have := mapM_some_get h i i (List.getElem?_range hi)
 rw [this, hu]
theorem spot_of_cell {w : World} {a : Addr} {u : Value} (h : w.cell? (a.add 0) = some u) : a = ⟨a.block, a.off, none⟩ := by
 rw [show a.add 0 = a from if_pos rfl] at h
 obtain ⟨b, o, s⟩ := a
 cases s with
 | none => rfl
 | some s =>
  exfalso
  unfold World.cell? at h
  split at h
  ·simp at h
  ·cases h

theorem opnP_slice {P : Program} {t e : TypeId} {Q : D e → Prop} (HT : TabOk T) (hu : P.underlying t = some (.slice e)) (hc : P.cellsOf t = 1) (hs : 0 < T.size e) (hd : OpnP P T e (T.size e) (T.out e) Q) :
  OpnP P T t 1 (fun xs : List (D e) => [.sl false e xs]) (fun xs => xs.length ≤ maxLen ∧ xs.length * P.bytesOf e ≤ 140737488351232 ∧ ∀ x ∈ xs, Q x) := by
 refine ⟨hc.symm, ?_⟩
 intro H enc W fuel cs x h hw
 rcases DataW.trod_slice hu h with ⟨rfl, rfl⟩ | ⟨a, len, cap, elems, rest, n, _, rfl, rfl, _, hl, hm, hlen, hel, _, _⟩
 ·exact ⟨[], .cons (ERep.sl false e [] none 0 0 0 (fun _ _ => .int .i64 0) (Nat.le_refl _) (fun h => absurd rfl h) (fun i x j l h => by simp at h) (fun i x j l h => by simp at h)) .nil, rfl, by simp, by simp, by simp⟩
 ·simp only [DataW.weights, hu, List.all_cons, bA, decide_eq_true_eq, List.length_map] at hw
  obtain ⟨hw1, hw2⟩ := hw
  have hall : ∀ i, i < len → ∃ (c : List Value) (y : D e), (F2 (ERep T (allC W)) (T.out e y) c ∧ ∀ j u, c[j]? = some u → W.cell? (a.add (i * T.size e + j)) = some u) ∧ Q y := by
   intro i hi
   have h1 := hel i hi
   obtain ⟨z, hz⟩ : ∃ z, elems[i]? = some z := ⟨_, List.getElem?_eq_getElem (by omega)⟩
   rw [hz] at h1
   obtain ⟨c, hcs, ht⟩ := Option.bind_eq_some_iff.1 h1
   obtain ⟨hcl, hcg⟩ := cells_get _ hcs
   have hzw : (z.1.weights P e).all (· ≤ reachBytes) = true := by
    rw [List.all_eq_true]
    intro m hm'
    have := List.all_eq_true.1 hw2 m (List.mem_append.2 (.inl (weightsAll_mem (List.mem_map_of_mem (List.mem_of_getElem? hz)) m hm')))
    simpa using this
   obtain ⟨y, hk, _, hq⟩ := hd.2 H enc W n c z ht hzw
   refine ⟨c, y, ⟨hk, fun j u hj => ?_⟩, hq⟩
   have := hcg j u hj
   rw [hd.1]
   rw [Addr.add_add] at this
   exact this
  obtain ⟨ys, hyl, hys⟩ : ∃ ys : List (D e), ys.length = len ∧ ∀ i, (hi : i < ys.length) → ∃ c : List Value, (F2 (ERep T (allC W)) (T.out e ys[i]) c ∧ ∀ j u, c[j]? = some u → W.cell? (a.add (i * T.size e + j)) = some u) ∧ Q ys[i] := by
   clear hel hw1 hw2 hlen hl h hm
   revert hall
   generalize len = L
   intro hall
   induction L with
   | zero => exact ⟨[], rfl, fun i hi => absurd hi (by simp)⟩
   | succ k ih =>
    obtain ⟨ys, hyl, hys⟩ := ih (fun i hi => hall i (by omega))
    obtain ⟨c, y, hy⟩ := hall k (by omega)
    refine ⟨ys ++ [y], by simp [hyl], fun i hi => ?_⟩
    by_cases hik : i < ys.length
    ·rw [List.getElem_append_left hik]
     exact hys i hik
    ·have : i = k := by simp at hi; omega
     subst this
     rw [List.getElem_append_right (by omega)]
     simp only [hyl, Nat.sub_self, List.getElem_cons_zero]
     exact ⟨c, hy⟩
  have hcell : ∀ (i : Nat) (x : D e) (j : Nat) l, ys[i]? = some x → (T.out e x)[j]? = some l → ∃ u, W.cell? (a.add (i * T.size e + j)) = some u ∧ ERep T (allC W) l u := by
   intro i x j l hx hl
   have hi : i < ys.length := (List.getElem?_eq_some_iff.1 hx).1
   obtain ⟨c, ⟨h1, h2⟩, _⟩ := hys i hi
   rw [List.getElem?_eq_getElem hi] at hx
   cases hx
   obtain ⟨u, hu, hr⟩ := h1.get j l hl
   exact ⟨u, h2 j u hu, hr⟩
  have hspot : ys ≠ [] → a = ⟨a.block, a.off, none⟩ := by
   intro hne
   obtain ⟨x, l, hx, hl⟩ : ∃ x l, ys[0]? = some x ∧ (T.out e x)[0]? = some l := by
    cases ys with
    | nil => exact absurd rfl hne
    | cons x ys => exact ⟨x, (T.out e x)[0]'(by rw [HT.out_len]; exact hs), rfl, List.getElem?_eq_getElem _⟩
   obtain ⟨u, hu, _⟩ := hcell 0 x 0 l hx hl
   rw [Nat.zero_mul] at hu
   exact spot_of_cell hu
  have hcell2 : ∀ (i : Nat) (x : D e) (j : Nat) l, ys[i]? = some x → (T.out e x)[j]? = some l → ∃ u, allC W a.block (a.off + i * T.size e + j) = some u ∧ ERep T (allC W) l u := by
   intro i x j l hx hl
   obtain ⟨u, hu, hr⟩ := hcell i x j l hx hl
   rw [hspot (by rintro rfl; simp at hx), add_lit, ← Nat.add_assoc] at hu
   exact ⟨u, hu, hr⟩
  refine ⟨ys, .cons ?_ .nil, rfl, by rw [hyl]; omega, ?_, ?_⟩
  ·have hv : ∀ (i : Nat) (x : D e) (j : Nat) l, ys[i]? = some x → (T.out e x)[j]? = some l → allC W a.block (a.off + i * T.size e + j) = some ((allC W a.block (a.off + i * T.size e + j)).getD (.int .i64 0)) ∧ ERep T (allC W) l ((allC W a.block (a.off + i * T.size e + j)).getD (.int .i64 0)) := by
    intro i x j l hx hl
    obtain ⟨u, hu, hr⟩ := hcell2 i x j l hx hl
    rw [hu]
    exact ⟨rfl, hr⟩
   rw [← hyl]
   refine ERep.sl false e ys (some a) cap a.block a.off (fun i j => (allC W a.block (a.off + i * T.size e + j)).getD (.int .i64 0)) (by omega) (fun hne => by rw [← hspot hne]) (fun i x j l hx hl => (hv i x j l hx hl).1) (fun i x j l hx hl => (hv i x j l hx hl).2)
  ·have : len * P.bytesOf e ≤ reachBytes := Nat.le_trans (Nat.mul_le_mul_right _ (by omega)) hw1
   rw [hyl]
   exact this
  ·intro y hy
   obtain ⟨i, hi, rfl⟩ := List.getElem_of_mem hy
   obtain ⟨_, _, hq⟩ := hys i hi
   exact hq

theorem opnP_use {α : Type} {P : Program} {t : TypeId} {n : Nat} {mk : α → List (LV D)} {Q : α → Prop} (h : OpnP P T t n mk Q) {H : Type} {enc : TypeId × Value → H} {W : World} {v : Value} {X : DataW H} {ps : List MemPlace} {ts : List TypeId} {ds : List (DataW H)} {j : Nat}
  (hsz : (DataW.weightsEach P ts ds).all (· ≤ reachBytes) = true) (ht : ts[j]? = some t) (hd : ds[j]? = some X) (hx : DataW.Trod enc P W 0 (fun _ => true) true t v X ps) : ∃ y, F2 (ERep T (allC W)) (mk y) v.cells.toList ∧ Q y := by
 obtain ⟨fuel, hf⟩ := hx
 obtain ⟨y, k, _, q⟩ := h.2 H enc W fuel _ (X, ps) hf (by
  rw [List.all_eq_true]
  intro n hn
  exact List.all_eq_true.1 hsz n (DataW.weights_mem_each ht hd n hn))
 exact ⟨y, k, q⟩
theorem trod_places' {P : Program} {H : Type} {enc : TypeId × Value → H} {W : World} {t : TypeId} {v : Value} {X : DataW H} {ps : List MemPlace} (h : DataW.Trod enc P W 0 (fun _ => true) true t v X ps) : ∀ x ∈ ps, x.block < W.heap.size := by
 obtain ⟨m, hm⟩ := h
 exact DataW.trod_lt m _ _ _ hm
theorem rep_one {C : Nat → Nat → Option Value} {blk : Nat → Nat} {l : LV D} {v : Value} (hv : v.cells.toList = [v]) (h : F2 (ERep T C) [l] v.cells.toList) : PRep T C blk (.one l) v := by
 rw [hv] at h
 cases h with
 | cons h _ => exact LRep_of_ERep h
end Go.PM
