/- An abstract machine for the model's code, and its soundness (part 3). No conditions but those stated. -/
import Derived.Test.YtpeleommbipeaaaGreatDoorPm2
import Derived.WalkKit
import Derived.Deep.LoopGhost
import Derived.Lib.Walk
import Derived.Lib.SliceRun
import Derived.Laws.Slices
import Derived.KernelRfl
import Derived.Deep.RegionLaw
import Derived.Lib.SlicesDelete
import Derived.Sort.WalkB12
import Derived.Shelf.RegionOpenPlain
import Derived.Sort.Grow
import Derived.SizedLaws
import Derived.DataReads
import Derived.DataElems
import Derived.ChangeOld
import Derived.ChangeSlices
import Derived.ChangeArms
namespace Go.PM
open Go.RowKit Go.Lib Go.Proofs
set_option linter.unusedVariables false
set_option linter.unusedSimpArgs false
theorem blkc {w : World} {g : Nat} {t : TypeId} {cs : Array Value} (h : w.heap[g]? = some (.cells cs t (0, 0))) (i : Nat) : w.cell? ⟨g, i, none⟩ = cs[i]? := cell_of_row w g i cs t (0, 0) h
theorem blkf {w : World} {g : Nat} {t : TypeId} {cs : Array Value} (h : w.heap[g]? = some (.cells cs t (0, 0))) (i : Nat) : w.frozen? ⟨g, i, none⟩ = false := by simp [World.frozen?, h]
theorem blks {w : World} {g : Nat} {t : TypeId} {cs : Array Value} (h : w.heap[g]? = some (.cells cs t (0, 0))) (i : Nat) (u : Value) : (w.setCell ⟨g, i, none⟩ u).heap[g]? = some (.cells (cs.setIfInBounds i u) t (0, 0)) := by

  simp [World.setCell, Array.getElem?_modify, h]
theorem belowc {B g : Nat} {w : World} (hg : B ≤ g) : ∀ (vs : List Value) (o : Nat) (W : World), Below B w W → Below B w (W.setCells g o vs)
  | [], _, _, h => h
  | v :: vs, o, W, h => belowc hg vs (o + 1) _ (h.setCell hg v)
theorem setCells_list {g : Nat} {e : TypeId} : ∀ (vs : List Value) (o : Nat) (w : World) (cur : Array Value), w.heap[g]? = some (.cells cur e (0, 0)) → o + vs.length ≤ cur.size →
    ∃ cur', (w.setCells g o vs).heap[g]? = some (.cells cur' e (0, 0)) ∧ cur'.size = cur.size ∧ cur'.toList = cur.toList.take o ++ vs ++ cur.toList.drop (o + vs.length)
  | [], o, w, cur, h, _ => ⟨cur, h, rfl, by simp⟩
  | v :: vs, o, w, cur, h, hl => by
    simp only [List.length_cons] at hl
    obtain ⟨cur', h1, h2, h3⟩ := setCells_list vs (o + 1) (w.setCell ⟨g, o, none⟩ v) (cur.setIfInBounds o v) (blks h o v) (by rw [Array.size_setIfInBounds]; omega)
    refine ⟨cur', h1, by rw [h2, Array.size_setIfInBounds], ?_⟩
    rw [h3, Array.toList_setIfInBounds]
    have ho : o < cur.toList.length := by simp; omega
    rw [List.drop_set_of_lt (by omega), List.take_succ_eq_append_getElem (by simpa using ho)]
    simp [List.take_set_of_le, List.append_assoc, Nat.add_assoc, Nat.add_comm 1]

theorem cut1 {P : Program} (t e : TypeId) (kh : IntKind) {i : TypeInfo} (ht : P.underlying t = some (.slice e)) (hi : P.info? e = some i) (A : Option Addr) (n c : Nat) (j : Int) (h0 : 0 ≤ j) (hm : j ≤ n) (hc : n ≤ c) :
    ∀ W : World, (Instr.slice t (.slice A n c) none (some (.int kh j)) none).run P W = .ok (.slice A j.toNat c) W := by
  intro W
  have hel : P.elem t = e := by simp [Program.elem, ht]
  have hu : P.underlying t = some (.slice (P.elem t)) := by rw [hel]; exact ht
  have ha : (A.map fun x => x.add 0) = A := by cases A <;> simp [Addr.add]
  rw [run_slice_h W t A n c hu kh j h0 (by omega), hel]
  simp [sizeOf, typeInfo, hi, sliced, Result.andThen, ha]
theorem cut2 {P : Program} (t e : TypeId) (kl : IntKind) {i : TypeInfo} (ht : P.underlying t = some (.slice e)) (hi : P.info? e = some i) (size : Nat) (hsz : i.size = size) (A : Option Addr) (n c : Nat) (j : Int) (h0 : 0 ≤ j) (hm : j ≤ n) :
    ∀ W : World, (Instr.slice t (.slice A n c) (some (.int kl j)) none none).run P W = .ok (.slice (if c = j.toNat then A else A.map (·.add (j.toNat * size))) (n - j.toNat) (c - j.toNat)) W := by
  intro W
  have hel : P.elem t = e := by simp [Program.elem, ht]
  have hu : P.underlying t = some (.slice (P.elem t)) := by rw [hel]; exact ht
  rw [run_slice_l W t A n c hu kl j h0 hm, hel]
  simp [sizeOf, typeInfo, hi, hsz, sliced, Result.andThen]
theorem clear1 {P : Program} (w : World) (t e ty : TypeId) (z : Value) (ht : P.underlying t = some (.slice e)) (hv : ∀ w, (zeroValue e).run P w = .ok z w) (h1 : ∀ v ∈ z.cells.toList, v.oneCell' = true) (b o c : Nat)
    (hc : ∀ j, j < z.cells.size → (w.cell? ⟨b, o + j, none⟩).isSome = true) (hf : ∀ j, j < z.cells.size → w.frozen? ⟨b, o + j, none⟩ = false) :
    (Builtin.clear_ #[t] ty #[.slice (some ⟨b, o, none⟩) 1 c]).run P w = .ok (.tuple #[]) (w.setCells b o z.cells.toList) := by
  have hzc : (Builtin.zeroCells z.cells 1).toList = z.cells.toList := by
    apply List.ext_getElem
    · simp [Builtin.zeroCells]
    · intro i h1 h2
      simp at h2
      simp [Builtin.zeroCells, Nat.mod_eq_of_lt h2, getElem!_pos z.cells i h2]
  have hst := run_storeCells_cells (P := P) b o z.cells.toList 0 w (by simpa using hc) (by simpa using hf) h1
  simp only [Nat.add_zero] at hst
  simp [Builtin.clear_, run_underlying ht, hv, hzc, hst, Result.andThen]
theorem own_form {w : World} {b e s n : Nat} {v : Value} {L : List Value} (h : w.ownsRow b e s v (n + 1) L) : ∃ g cp, v = .slice (some ⟨g, 0, none⟩) (n + 1) cp := by
  rcases h.2 with ⟨_, h⟩ | ⟨g, cp, _, h, _⟩
  · omega
  · exact ⟨g, cp, h⟩
end Go.PM
namespace Go.PM
set_option linter.unusedVariables false
set_option linter.unusedSimpArgs false
variable {D : TypeId → Type}

/-- what a function that works in a row's place hands back: nothing, or the row's beginning -/
inductive RetRow : PV D → Nat → Nat → Value → Prop
  | none (g cp) : RetRow (.tup []) g cp (.tuple #[])
  | sl (m g cp) (h : m ≤ cp) : RetRow (.one (.bs 0 m)) g cp (.slice (some ⟨g, 0, none⟩) m cp)
variable {D : TypeId → Type}

/-- a number, a truth value or a text, and its value -/
inductive Flat (D : TypeId → Type) : LV D → Value → Prop
  | int (k : IntKind) (n : Int) : Flat D (.int k n) (.int k n)
  | bool (b : Bool) : Flat D (.bool b) (.bool b)
  | str (s : ByteArray) : Flat D (.str s) (.string s)
theorem Flat.rep {T : Tab D} {C : Nat → Nat → Option Value} {blk : Nat → Nat} {l : LV D} {v : Value} (h : Flat D l v) : PRep T C blk (.one l) v := by
  cases h with
  | int k n => exact ERep.int k n
  | bool b => exact ERep.bool b
  | str s => exact ERep.str s
theorem Flat.ids {l : LV D} {v : Value} (h : Flat D l v) : (PV.one l).ids = [] := by cases h <;> rfl
theorem Flat.own {l : LV D} {v : Value} (h : Flat D l v) : (PV.one l).hasOwn = false := by cases h <;> rfl

/-- a function that hands back a number, a truth value or a text, and leaves what was there as it was -/
theorem good_flat {P : Program} {T : Tab D} {f : FuncId} (hf : ∃ fn, P.funcs[f]? = some fn ∧ (fn.name == "runtime.NumGoroutine") = false ∧ fn.body.isNone = false)
    (args : List (PV D)) {l : LV D} {v : Value} (hv : Flat D l v)
    (H : ∀ (w : World) (C : Nat → Nat → Option Value) (blk : Nat → Nat) (vargs : Array Value), vargs.size = args.length → (∀ t, PRep T C blk (args.getD t (.one .undef)) (slotV ⟨vargs, []⟩ t)) → (∀ b o u, C b o = some u → w.cell? ⟨b, o, none⟩ = some u) →
      Calls P f vargs w fun e' w' => e' = .returned v ∧ Go.RowKit.Below w.heap.size w w') :
    Good P T f args [] (.one l) [] := by
  refine ⟨hf, ?_⟩
  intro w C blk md vargs J _
  have hsz : vargs.size = args.length := J.sz
  have hrep : ∀ t, PRep T C blk (args.getD t (.one .undef)) (slotV ⟨vargs, []⟩ t) := by
    intro t
    have := J.rep t
    rw [get_stOf] at this
    exact this
  have J0 := J.bare (P := P) (T := T) rfl rfl
  have hno : ∀ ix, ownsAt (cfg0 P T 1 0) blk (stOf (D := D) [.one .undef] []) ⟨#[undef], []⟩ w ix = [] := by
    intro ix
    cases ix with
    | slot t =>
      refine owns_of_hasOwn ?_
      rw [get_stOf]
      cases t <;> rfl
    | box id => simp [ownsAt, prs, stOf]
  refine (H w C blk vargs hsz hrep J.ag).mono ?_
  rintro e' w' ⟨rfl, hB⟩
  have J1 : Inv (cfg0 P T 1 0) ⟨w, C, md, blk⟩ C blk (stOf [.one .undef] []) ⟨#[undef], []⟩ w' := by
    refine J0.world (Ext.refl _) ⟨hB.os, hB.tape, hB.output, hB.size, fun k hk _ => hB.block k hk⟩ (fun id h => by simp [stOf] at h) (fun ix b hb => by rw [hno] at hb; cases hb) (fun b o v h => .inl h) ?_
    intro b o v h
    have hc := J.ag b o v h
    exact (World.cell?_of_block (a := ⟨b, o, none⟩) (hB.block b (World.block_lt_of_cell? w _ hc))).trans hc
  have I := J1.put0 0 (by show (0 : Nat) < 1; omega) (.one l) v hv.rep (fun id h => by rw [hv.ids] at h; cases h) hv.own
  rw [stOf_put] at I
  exact ⟨_, C, blk, rfl, I⟩
theorem rep_str {T : Tab D} {C : Nat → Nat → Option Value} {blk : Nat → Nat} {s : ByteArray} {v : Value} (h : PRep T C blk (.one (.str s) : PV D) v) : v = .string s := inv_str h
theorem rep_int {T : Tab D} {C : Nat → Nat → Option Value} {blk : Nat → Nat} {k : IntKind} {n : Int} {v : Value} (h : PRep T C blk (.one (.int k n) : PV D) v) : v = .int k n := inv_int h
/-- the values of one argument, of two -/
theorem args1 {vargs : Array Value} (h : vargs.size = 1) : vargs = #[slotV ⟨vargs, []⟩ 0] := by
  obtain ⟨l⟩ := vargs
  match l, h with
  | [v], _ => rfl
theorem args2 {vargs : Array Value} (h : vargs.size = 2) : vargs = #[slotV ⟨vargs, []⟩ 0, slotV ⟨vargs, []⟩ 1] := by
  obtain ⟨l⟩ := vargs
  match l, h with
  | [v, u], _ => rfl
end Go.PM
namespace Go.PM
open Go.Sort
set_option linter.unusedVariables false
set_option linter.unusedSimpArgs false
variable {D : TypeId → Type}

/-- elements of one cell: what their cell holds -/
structure OneC (T : Tab D) (e : TypeId) (enc : D e → Value) : Prop where
  size : T.size e = 1
  rep : ∀ C x l, (T.out e x)[0]? = some l → ERep T C l (enc x)
  inv : ∀ C x l v, (T.out e x)[0]? = some l → ERep T C l v → v = enc x
theorem OneC.row {T : Tab D} (HT : TabOk T) {e : TypeId} {enc : D e → Value} (h : OneC T e enc) {ys : List (D e)} {cur : Array Value} (hl : ys.length ≤ cur.size) (hc : ∀ (j : Nat) y, ys[j]? = some y → cur[j]? = some (enc y)) (C : Nat → Nat → Option Value) : RowAt T C e ys cur := by
  refine ⟨by rw [h.size]; omega, fun i x j l hi hx => ?_⟩
  have hj : j = 0 := by
    have := (List.getElem?_eq_some_iff.1 hx).1
    rw [HT.out_len, h.size] at this
    omega
  subst hj
  exact ⟨enc x, by rw [h.size, Nat.mul_one, Nat.add_zero]; exact hc i x hi, h.rep C x l hx⟩
theorem OneC.get {T : Tab D} (HT : TabOk T) {e : TypeId} {enc : D e → Value} (h : OneC T e enc) {xs : List (D e)} {cur : Array Value} {C : Nat → Nat → Option Value} (hr : RowAt T C e xs cur) {j : Nat} {x : D e} (hj : xs[j]? = some x) : cur[j]? = some (enc x) := by
  have hl : 0 < (T.out e x).length := by rw [HT.out_len, h.size]; omega
  have e0 := List.getElem?_eq_getElem hl
  obtain ⟨v, h1, h2⟩ := hr.2 j x 0 _ hj e0
  rw [h.size, Nat.mul_one, Nat.add_zero] at h1
  rw [h1, h.inv C x _ v e0 h2]
theorem OneC.holds {T : Tab D} (HT : TabOk T) {e : TypeId} [Inhabited (D e)] {enc : D e → Value} (h : OneC T e enc) {xs : List (D e)} {cur : Array Value} {C : Nat → Nat → Option Value} (hr : RowAt T C e xs cur) {w : World} {g : Nat} (hw : w.heap[g]? = some (.cells cur e (0, 0))) : Holds enc w g 0 xs.toArray := by
  intro j hj
  have hj : j < xs.length := by simpa using hj
  have hx := List.getElem?_eq_getElem hj
  refine ⟨?_, ?_⟩
  · rw [Nat.zero_add, cell_of_row w g j cur e (0, 0) hw, h.get HT hr hx]
    congr 2
    simp [hj]
  · simp [World.frozen?, hw]
end Go.PM
namespace Go.PM
open Go.RowKit
variable {D : TypeId → Type}
/-- a function that leaves what was there as it was, and hands back what owns nothing -/
theorem good_still {P : Program} {T : Tab D} {f : FuncId} (hf : ∃ fn, P.funcs[f]? = some fn ∧ (fn.name == "runtime.NumGoroutine") = false ∧ fn.body.isNone = false)
    (args : List (PV D)) {ret : PV D} (hid : ret.ids = []) (hown : ret.hasOwn = false)
    (H : ∀ (w : World) (C : Nat → Nat → Option Value) (blk : Nat → Nat) (vargs : Array Value), vargs.size = args.length → (∀ t, PRep T C blk (args.getD t (.one .undef)) (slotV ⟨vargs, []⟩ t)) → (∀ b o u, C b o = some u → w.cell? ⟨b, o, none⟩ = some u) →
      Calls P f vargs w fun e' w' => ∃ v, e' = .returned v ∧ PRep T C blk ret v ∧ Below w.heap.size w w') :
    Good P T f args [] ret [] := by
  refine ⟨hf, ?_⟩
  intro w C blk md vargs J _
  have hsz : vargs.size = args.length := J.sz
  have hrep : ∀ t, PRep T C blk (args.getD t (.one .undef)) (slotV ⟨vargs, []⟩ t) := by
    intro t
    have := J.rep t
    rw [get_stOf] at this
    exact this
  have J0 := J.bare (P := P) (T := T) rfl rfl
  have hno : ∀ ix, ownsAt (cfg0 P T 1 0) blk (stOf (D := D) [.one .undef] []) ⟨#[undef], []⟩ w ix = [] := by
    intro ix
    cases ix with
    | slot t =>
      refine owns_of_hasOwn ?_
      rw [get_stOf]
      cases t <;> rfl
    | box id => simp [ownsAt, prs, stOf]
  refine (H w C blk vargs hsz hrep J.ag).mono ?_
  rintro e' w' ⟨v, rfl, hv, hB⟩
  have J1 : Inv (cfg0 P T 1 0) ⟨w, C, md, blk⟩ C blk (stOf [.one .undef] []) ⟨#[undef], []⟩ w' := by
    refine J0.world (Ext.refl _) ⟨hB.os, hB.tape, hB.output, hB.size, fun k hk _ => hB.block k hk⟩ (fun id h => by simp [stOf] at h) (fun ix b hb => by rw [hno] at hb; cases hb) (fun b o v h => .inl h) ?_
    intro b o v h
    have hc := J.ag b o v h
    exact (World.cell?_of_block (a := ⟨b, o, none⟩) (hB.block b (World.block_lt_of_cell? w _ hc))).trans hc
  have I := J1.put0 0 (by show (0 : Nat) < 1; omega) ret v hv (fun id h => by rw [hid] at h; cases h) hown
  rw [stOf_put] at I
  exact ⟨_, C, blk, rfl, I⟩
end Go.PM
namespace Go.PM
set_option linter.unusedVariables false
set_option linter.unusedSimpArgs false
variable {D : TypeId → Type}
/-- a slice of the call's own, made new -/
theorem good_new {P : Program} {T : Tab D} (HT : TabOk T) {f : FuncId} (e : TypeId) (hf : ∃ fn, P.funcs[f]? = some fn ∧ (fn.name == "runtime.NumGoroutine") = false ∧ fn.body.isNone = false)
    (args : List (PV D)) (ys : List (D e))
    (H : ∀ (w : World) (C : Nat → Nat → Option Value) (blk : Nat → Nat) (vargs : Array Value), vargs.size = args.length → (∀ t, PRep T C blk (args.getD t (.one .undef)) (slotV ⟨vargs, []⟩ t)) → (∀ b o u, C b o = some u → w.cell? ⟨b, o, none⟩ = some u) →
      ∃ news, RowOf T C e ys news ∧ Calls P f vargs w fun e' w' => ∃ v', e' = .returned v' ∧ w'.ownsRow w.heap.size e (T.size e) v' ys.length news ∧ Go.RowKit.Below w.heap.size w w') :
    Good P T f args [] (.one (.sl true e ys)) [] := by
  refine ⟨hf, ?_⟩
  intro w C blk md vargs J _
  have hsz : vargs.size = args.length := J.sz
  have hrep : ∀ t, PRep T C blk (args.getD t (.one .undef)) (slotV ⟨vargs, []⟩ t) := by
    intro t
    have := J.rep t
    rw [get_stOf] at this
    exact this
  have J0 := J.bare (P := P) (T := T) rfl rfl
  obtain ⟨news, hrow, hcall⟩ := H w C blk vargs hsz hrep J.ag
  refine hcall.mono ?_
  rintro e' w' ⟨v', rfl, ⟨hl, hown⟩, hB⟩
  have hno : ∀ ix, ownsAt (cfg0 P T 1 0) blk (stOf (D := D) [.one .undef] []) ⟨#[undef], []⟩ w ix = [] := by
    intro ix
    cases ix with
    | slot t =>
      refine owns_of_hasOwn ?_
      rw [get_stOf]
      cases t <;> rfl
    | box id => simp [ownsAt, prs, stOf]
  rcases hown with ⟨rfl, hn⟩ | ⟨g, cap, cur, rfl, hg, hgw, hncap, hcm, hcs, htake⟩
  · have hx : ys = [] := List.eq_nil_of_length_eq_zero hn
    subst hx
    have J1 : Inv (cfg0 P T 1 0) ⟨w, C, md, blk⟩ C blk (stOf [.one .undef] []) ⟨#[undef], []⟩ w' := by
      refine J0.world (Ext.refl _) ⟨hB.os, hB.tape, hB.output, hB.size, fun k hk _ => hB.block k hk⟩ (fun id h => by simp [stOf] at h) (fun ix b hb => by rw [hno] at hb; cases hb) (fun b o v h => .inl h) ?_
      intro b o v h
      have hc := J.ag b o v h
      exact (World.cell?_of_block (a := ⟨b, o, none⟩) (hB.block b (World.block_lt_of_cell? w _ hc))).trans hc
    have I := J1.put 0 (by show (0 : Nat) < 1; omega) (.one (.sl true e [])) (.slice none 0 0) (ERep.sl true e [] none 0 0 0 (fun _ _ => .int .i64 0) (Nat.le_refl _) (fun h => absurd rfl h) (fun i x j l h => by simp at h) (fun i x j l h => by simp at h)) (fun id h => by cases h)
      (fun p hp => by simp only [PV.pairs, List.mem_singleton] at hp; subst hp; exact .inl ⟨rfl, rfl⟩) (show ([] : List Nat).Nodup from List.nodup_nil) (fun ix b _ h => by have h' : b ∈ ([] : List Nat) := h; cases h') (fun id h => by simp [stOf] at h) (fun b h => by have h' : b ∈ ([] : List Nat) := h; cases h')
    rw [stOf_put] at I
    exact ⟨_, C, blk, rfl, I⟩
  · have hno2 : ∀ ix, g ∉ ownsAt (cfg0 P T 1 0) blk (stOf (D := D) [.one .undef] []) ⟨#[undef], []⟩ w ix := by
      intro ix hm
      rw [hno ix] at hm
      cases hm
    obtain ⟨C', I⟩ := J0.ownRow (w' := w') HT 0 (by show (0 : Nat) < 1; omega) e ys news hrow g cap cur hgw hncap hcm hcs htake (fun k hk _ => hB.block k hk) hB.os hB.tape hB.output hB.size
      ⟨hno2, (fun id h => by simp [stOf] at h), .inl hg⟩
      (fun o v h => by
        have hc := J.ag g o v h
        have := World.block_lt_of_cell? w _ hc
        simp at this
        omega)
    rw [stOf_put] at I
    exact ⟨_, C', blk, rfl, I⟩
/-- a row of texts -/
theorem row_str {T : Tab D} {C : Nat → Nat → Option Value} {e : TypeId} {ys : List (D e)} (enc : D e → ByteArray) (hs : T.size e = 1) (ho : ∀ x, T.out e x = [.str (enc x)]) : RowOf T C e ys (ys.map fun x => Value.string (enc x)) := by
  refine ⟨by rw [hs, Nat.mul_one, List.length_map], fun i x j l hx hl => ?_⟩
  rw [ho] at hl
  cases j with
  | succ j => cases hl
  | zero =>
    cases hl
    refine ⟨.string (enc x), ?_, .str (enc x)⟩
    rw [hs, Nat.mul_one, Nat.add_zero, List.getElem?_map, hx]; rfl
end Go.PM
namespace Go.PM
set_option linter.unusedVariables false
set_option linter.unusedSimpArgs false
open Go.RowKit
variable {D : TypeId → Type}
/-- as good_still; the function reads variables that never change -/
theorem good_glob {P : Program} {T : Tab D} {f : FuncId} (hf : ∃ fn, P.funcs[f]? = some fn ∧ (fn.name == "runtime.NumGoroutine") = false ∧ fn.body.isNone = false)
    (args : List (PV D)) {ret : PV D} (hid : ret.ids = []) (hown : ret.hasOwn = false)
    (H : ∀ (w : World) (C : Nat → Nat → Option Value) (blk : Nat → Nat) (vargs : Array Value), vargs.size = args.length → (∀ t, PRep T C blk (args.getD t (.one .undef)) (slotV ⟨vargs, []⟩ t)) → (∀ b o u, C b o = some u → w.cell? ⟨b, o, none⟩ = some u) → (∀ x ∈ T.gl, ∃ o, w.heap[x.1]? = some o ∧ x.2 o) →
      Calls P f vargs w fun e' w' => ∃ v, e' = .returned v ∧ PRep T C blk ret v ∧ Below w.heap.size w w') :
    Good P T f args [] ret [] := by
  refine ⟨hf, ?_⟩
  intro w C blk md vargs J _
  have hsz : vargs.size = args.length := J.sz
  have hrep : ∀ t, PRep T C blk (args.getD t (.one .undef)) (slotV ⟨vargs, []⟩ t) := by
    intro t
    have := J.rep t
    rw [get_stOf] at this
    exact this
  have J0 := J.bare (P := P) (T := T) rfl rfl
  have hno : ∀ ix, ownsAt (cfg0 P T 1 0) blk (stOf (D := D) [.one .undef] []) ⟨#[undef], []⟩ w ix = [] := by
    intro ix
    cases ix with
    | slot t =>
      refine owns_of_hasOwn ?_
      rw [get_stOf]
      cases t <;> rfl
    | box id => simp [ownsAt, prs, stOf]
  refine (H w C blk vargs hsz hrep J.ag (J.cx.now J.gr)).mono ?_
  rintro e' w' ⟨v, rfl, hv, hB⟩
  have J1 : Inv (cfg0 P T 1 0) ⟨w, C, md, blk⟩ C blk (stOf [.one .undef] []) ⟨#[undef], []⟩ w' := by
    refine J0.world (Ext.refl _) ⟨hB.os, hB.tape, hB.output, hB.size, fun k hk _ => hB.block k hk⟩ (fun id h => by simp [stOf] at h) (fun ix b hb => by rw [hno] at hb; cases hb) (fun b o v h => .inl h) ?_
    intro b o v h
    have hc := J.ag b o v h
    exact (World.cell?_of_block (a := ⟨b, o, none⟩) (hB.block b (World.block_lt_of_cell? w _ hc))).trans hc
  have I := J1.put0 0 (by show (0 : Nat) < 1; omega) ret v hv (fun id h => by rw [hid] at h; cases h) hown
  rw [stOf_put] at I
  exact ⟨_, C, blk, rfl, I⟩
end Go.PM
namespace Go.PM
open Go.RowKit
variable {D : TypeId → Type}
theorem crep1 {T : Tab D} {C : Nat → Nat → Option Value} {blk : Nat → Nat} {l : LV D} {v : Value} (h : LRep T C blk l v) : CRep T C blk (false, [l]) v := by
  unfold CRep
  rw [if_neg (by simp)]
  exact ⟨l, rfl, h⟩
theorem var_blk {P : Program} {w : World} {n : String} {g : Nat} {cs : Array Value} {t : TypeId} {fr : Nat × Nat} (hg : P.globalNamed n = some g) (h : w.heap[g]? = some (.cells cs t fr)) : w.var? P n = some cs := by
  unfold World.var?
  rw [hg, Option.bind_some, h]
theorem blk_var {P : Program} {w : World} {n : String} {g : Nat} {cs : Array Value} (hg : P.globalNamed n = some g) (h : w.var? P n = some cs) : ∃ t fr, w.heap[g]? = some (.cells cs t fr) := by
  unfold World.var? at h
  rw [hg, Option.bind_some] at h
  split at h
  · rename_i c t fr e
    simp only [Option.some.injEq] at h
    subst h
    exact ⟨_, _, e⟩
  · cases h
end Go.PM
namespace Go.PM
open Go.ChangeShapes Go.WideShapes
set_option linter.unusedVariables false
set_option linter.unusedSimpArgs false
variable {D : TypeId → Type}

/-- what can be read as data at a type is a plain value of that kind -/
def OpnP {α : Type} (P : Program) (T : Tab D) (t : TypeId) (n : Nat) (mk : α → List (LV D)) (Q : α → Prop) : Prop :=
  n = P.cellsOf t ∧ ∀ (H : Type) (enc : TypeId × Value → H) (W : World) (fuel : Nat) (cs : List Value) (x : DataW H × List MemPlace),
    DataW.trod enc P W 0 (fun _ => true) true fuel t cs = some x → (x.1.weights P t).all (· ≤ reachBytes) = true → ∃ y, F2 (ERep T (allC W)) (mk y) cs ∧ cs.length = n ∧ Q y
variable {T : Tab D}
theorem opnP_int {P : Program} {t : TypeId} {k : IntKind} (hu : P.underlying t = some (.int k)) (hc : P.cellsOf t = 1) : OpnP P T t 1 (fun n : Int => [.int k n]) (fun n => (Lit.int k n).wf = true) := by
  refine ⟨hc.symm, ?_⟩
  intro H enc W fuel cs x h _
  obtain ⟨n, rfl, _, hw⟩ := DataW.trod_int hu h
  exact ⟨n, .cons (.int _ _) .nil, rfl, hw⟩
theorem weightsAll_mem {H : Type} {P : Program} {e : TypeId} : ∀ {ds : List (DataW H)} {d : DataW H}, d ∈ ds → ∀ n ∈ d.weights P e, n ∈ DataW.weightsAll P e ds
  | d0 :: ds, d, hd, n, hn => by
    simp only [DataW.weightsAll, List.mem_append]
    rcases List.mem_cons.1 hd with rfl | h
    · exact .inl hn
    · exact .inr (weightsAll_mem h n hn)
theorem cells_get {w : World} {a : Addr} : ∀ (n : Nat) {cs : List Value}, w.cells? 0 a n = some cs → cs.length = n ∧ ∀ i u, cs[i]? = some u → w.cell? (a.add i) = some u := by
  intro n cs h
  unfold World.cells? at h
  rw [if_pos (Nat.zero_le _)] at h
  have hl := mapM_some_length h
  simp only [List.length_range] at hl
  refine ⟨hl, fun i u hu => ?_⟩
  have hi : i < n := by
    rcases Nat.lt_or_ge i n with h' | h'
    · exact h'
    · rw [List.getElem?_eq_none (by omega)] at hu; cases hu
  have := mapM_some_get h i i (List.getElem?_range hi)
  rw [this, hu]
theorem spot_of_cell {w : World} {a : Addr} {u : Value} (h : w.cell? (a.add 0) = some u) : a = ⟨a.block, a.off, none⟩ := by
  rw [show a.add 0 = a from if_pos rfl] at h
  obtain ⟨b, o, s⟩ := a
  cases s with
  | none => rfl
  | some s =>
    exfalso
    unfold World.cell? at h
    split at h
    · simp at h
    · cases h

theorem opnP_slice {P : Program} {t e : TypeId} {Q : D e → Prop} (HT : TabOk T) (hu : P.underlying t = some (.slice e)) (hc : P.cellsOf t = 1) (hs : 0 < T.size e) (hd : OpnP P T e (T.size e) (T.out e) Q) :
    OpnP P T t 1 (fun xs : List (D e) => [.sl false e xs]) (fun xs => xs.length ≤ maxLen ∧ xs.length * P.bytesOf e ≤ 140737488351232 ∧ ∀ x ∈ xs, Q x) := by
  refine ⟨hc.symm, ?_⟩
  intro H enc W fuel cs x h hw
  rcases DataW.trod_slice hu h with ⟨rfl, rfl⟩ | ⟨a, len, cap, elems, rest, n, _, rfl, rfl, _, hl, hm, hlen, hel, _, _⟩
  · exact ⟨[], .cons (ERep.sl false e [] none 0 0 0 (fun _ _ => .int .i64 0) (Nat.le_refl _) (fun h => absurd rfl h) (fun i x j l h => by simp at h) (fun i x j l h => by simp at h)) .nil, rfl, by simp, by simp, by simp⟩
  · simp only [DataW.weights, hu, List.all_cons, Bool.and_eq_true, decide_eq_true_eq, List.length_map] at hw
    obtain ⟨hw1, hw2⟩ := hw
    have hall : ∀ i, i < len → ∃ (c : List Value) (y : D e), (F2 (ERep T (allC W)) (T.out e y) c ∧ ∀ j u, c[j]? = some u → W.cell? (a.add (i * T.size e + j)) = some u) ∧ Q y := by
      intro i hi
      have h1 := hel i hi
      obtain ⟨z, hz⟩ : ∃ z, elems[i]? = some z := ⟨_, List.getElem?_eq_getElem (by omega)⟩
      rw [hz] at h1
      obtain ⟨c, hcs, ht⟩ := Option.bind_eq_some_iff.1 h1
      obtain ⟨hcl, hcg⟩ := cells_get _ hcs
      have hzw : (z.1.weights P e).all (· ≤ reachBytes) = true := by
        rw [List.all_eq_true]
        intro m hm'
        have := List.all_eq_true.1 hw2 m (List.mem_append.2 (.inl (weightsAll_mem (List.mem_map_of_mem (List.mem_of_getElem? hz)) m hm')))
        simpa using this
      obtain ⟨y, hk, _, hq⟩ := hd.2 H enc W n c z ht hzw
      refine ⟨c, y, ⟨hk, fun j u hj => ?_⟩, hq⟩
      have := hcg j u hj
      rw [hd.1]
      rw [Addr.add_add] at this
      exact this
    obtain ⟨ys, hyl, hys⟩ : ∃ ys : List (D e), ys.length = len ∧ ∀ i, (hi : i < ys.length) → ∃ c : List Value, (F2 (ERep T (allC W)) (T.out e ys[i]) c ∧ ∀ j u, c[j]? = some u → W.cell? (a.add (i * T.size e + j)) = some u) ∧ Q ys[i] := by
      clear hel hw1 hw2 hlen hl h hm
      revert hall
      generalize len = L
      intro hall
      induction L with
      | zero => exact ⟨[], rfl, fun i hi => absurd hi (by simp)⟩
      | succ k ih =>
        obtain ⟨ys, hyl, hys⟩ := ih (fun i hi => hall i (by omega))
        obtain ⟨c, y, hy⟩ := hall k (by omega)
        refine ⟨ys ++ [y], by simp [hyl], fun i hi => ?_⟩
        by_cases hik : i < ys.length
        · rw [List.getElem_append_left hik]
          exact hys i hik
        · have : i = k := by simp at hi; omega
          subst this
          rw [List.getElem_append_right (by omega)]
          simp only [hyl, Nat.sub_self, List.getElem_cons_zero]
          exact ⟨c, hy⟩
    have hcell : ∀ (i : Nat) (x : D e) (j : Nat) l, ys[i]? = some x → (T.out e x)[j]? = some l → ∃ u, W.cell? (a.add (i * T.size e + j)) = some u ∧ ERep T (allC W) l u := by
      intro i x j l hx hl
      have hi : i < ys.length := (List.getElem?_eq_some_iff.1 hx).1
      obtain ⟨c, ⟨h1, h2⟩, _⟩ := hys i hi
      rw [List.getElem?_eq_getElem hi] at hx
      cases hx
      obtain ⟨u, hu, hr⟩ := h1.get j l hl
      exact ⟨u, h2 j u hu, hr⟩
    have hspot : ys ≠ [] → a = ⟨a.block, a.off, none⟩ := by
      intro hne
      obtain ⟨x, l, hx, hl⟩ : ∃ x l, ys[0]? = some x ∧ (T.out e x)[0]? = some l := by
        cases ys with
        | nil => exact absurd rfl hne
        | cons x ys => exact ⟨x, (T.out e x)[0]'(by rw [HT.out_len]; exact hs), rfl, List.getElem?_eq_getElem _⟩
      obtain ⟨u, hu, _⟩ := hcell 0 x 0 l hx hl
      rw [Nat.zero_mul] at hu
      exact spot_of_cell hu
    have hcell2 : ∀ (i : Nat) (x : D e) (j : Nat) l, ys[i]? = some x → (T.out e x)[j]? = some l → ∃ u, allC W a.block (a.off + i * T.size e + j) = some u ∧ ERep T (allC W) l u := by
      intro i x j l hx hl
      obtain ⟨u, hu, hr⟩ := hcell i x j l hx hl
      rw [hspot (by rintro rfl; simp at hx), add_lit, ← Nat.add_assoc] at hu
      exact ⟨u, hu, hr⟩
    refine ⟨ys, .cons ?_ .nil, rfl, by rw [hyl]; omega, ?_, ?_⟩
    · have hv : ∀ (i : Nat) (x : D e) (j : Nat) l, ys[i]? = some x → (T.out e x)[j]? = some l → allC W a.block (a.off + i * T.size e + j) = some ((allC W a.block (a.off + i * T.size e + j)).getD (.int .i64 0)) ∧ ERep T (allC W) l ((allC W a.block (a.off + i * T.size e + j)).getD (.int .i64 0)) := by
        intro i x j l hx hl
        obtain ⟨u, hu, hr⟩ := hcell2 i x j l hx hl
        rw [hu]
        exact ⟨rfl, hr⟩
      rw [← hyl]
      refine ERep.sl false e ys (some a) cap a.block a.off (fun i j => (allC W a.block (a.off + i * T.size e + j)).getD (.int .i64 0)) (by omega) (fun hne => by rw [← hspot hne]) (fun i x j l hx hl => (hv i x j l hx hl).1) (fun i x j l hx hl => (hv i x j l hx hl).2)
    · have : len * P.bytesOf e ≤ reachBytes := Nat.le_trans (Nat.mul_le_mul_right _ (by omega)) hw1
      rw [hyl]
      exact this
    · intro y hy
      obtain ⟨i, hi, rfl⟩ := List.getElem_of_mem hy
      obtain ⟨_, _, hq⟩ := hys i hi
      exact hq

theorem opnP_use {α : Type} {P : Program} {t : TypeId} {n : Nat} {mk : α → List (LV D)} {Q : α → Prop} (h : OpnP P T t n mk Q) {H : Type} {enc : TypeId × Value → H} {W : World} {v : Value} {X : DataW H} {ps : List MemPlace} {ts : List TypeId} {ds : List (DataW H)} {j : Nat}
    (hsz : (DataW.weightsEach P ts ds).all (· ≤ reachBytes) = true) (ht : ts[j]? = some t) (hd : ds[j]? = some X) (hx : DataW.Trod enc P W 0 (fun _ => true) true t v X ps) : ∃ y, F2 (ERep T (allC W)) (mk y) v.cells.toList ∧ Q y := by
  obtain ⟨fuel, hf⟩ := hx
  obtain ⟨y, k, _, q⟩ := h.2 H enc W fuel _ (X, ps) hf (by
    rw [List.all_eq_true]
    intro n hn
    exact List.all_eq_true.1 hsz n (DataW.weights_mem_each ht hd n hn))
  exact ⟨y, k, q⟩
theorem trod_places' {P : Program} {H : Type} {enc : TypeId × Value → H} {W : World} {t : TypeId} {v : Value} {X : DataW H} {ps : List MemPlace} (h : DataW.Trod enc P W 0 (fun _ => true) true t v X ps) : ∀ x ∈ ps, x.block < W.heap.size := by
  obtain ⟨m, hm⟩ := h
  exact DataW.trod_lt m _ _ _ hm
theorem rep_one {C : Nat → Nat → Option Value} {blk : Nat → Nat} {l : LV D} {v : Value} (hv : v.cells.toList = [v]) (h : F2 (ERep T C) [l] v.cells.toList) : PRep T C blk (.one l) v := by
  rw [hv] at h
  cases h with
  | cons h _ => exact LRep_of_ERep h
end Go.PM
