/- An abstract machine for the model's code, and its soundness (part 3). No conditions but those stated. -/
import Derived.Test.YtehbhinaopdkeaaPm2
import Derived.Shelf.GgSortFunc.InsertionK
import Derived.SizedLaws
import Derived.DataReads
import Derived.DataElems
import Derived.ChangeOld
import Derived.ChangeSlices
import Derived.ChangeArms
namespace Go.PM
open Go.Sort Go.Proofs
set_option linter.unusedVariables false
set_option linter.unusedSimpArgs false
variable {D : TypeId → Type}

/-- elements of several cells: what their cells hold -/
structure KC (T : Tab D) (e : TypeId) (enc : D e → List Value) (k : Nat) : Prop where
  pos : 0 < k
  size : T.size e = k
  len : ∀ x, (enc x).length = k
  rep : ∀ C x (j : Nat) l, (T.out e x)[j]? = some l → ERep T C l (enc x)[j]!
  inv : ∀ C x (j : Nat) l v, (T.out e x)[j]? = some l → ERep T C l v → v = (enc x)[j]!
theorem KC.get {T : Tab D} (HT : TabOk T) {e : TypeId} {enc : D e → List Value} {k : Nat} (h : KC T e enc k) {xs : List (D e)} {cur : Array Value} {C : Nat → Nat → Option Value} (hr : RowAt T C e xs cur) {i c : Nat} {x : D e} (hi : xs[i]? = some x) (hc : c < k) : cur[i * k + c]? = some (enc x)[c]! := by
  have hl : c < (T.out e x).length := by rw [HT.out_len, h.size]; exact hc
  have e0 := List.getElem?_eq_getElem hl
  obtain ⟨v, h1, h2⟩ := hr.2 i x c _ hi e0
  rw [h.size] at h1
  rw [h1, h.inv C x c _ v e0 h2]
theorem KC.holds {T : Tab D} (HT : TabOk T) {e : TypeId} [Inhabited (D e)] {enc : D e → List Value} {k : Nat} (h : KC T e enc k) {xs : List (D e)} {cur : Array Value} {C : Nat → Nat → Option Value} (hr : RowAt T C e xs cur) {w : World} {g : Nat} (hw : w.heap[g]? = some (.cells cur e (0, 0))) : HoldsK enc k w g 0 xs.toArray := by
  intro j hj
  have hj : j < xs.length * k := by simpa using hj
  have hi : j / k < xs.length := (Nat.div_lt_iff_lt_mul h.pos).2 hj
  have hc : j % k < k := Nat.mod_lt _ h.pos
  have ej : j / k * k + j % k = j := by rw [Nat.mul_comm]; exact Nat.div_add_mod j k
  have hx := List.getElem?_eq_getElem hi
  have hg := h.get HT hr hx hc
  rw [ej] at hg
  refine ⟨?_, ?_⟩
  · rw [Nat.zero_add, cell_of_row w g j cur e (0, 0) hw, hg, get_flatK _ _ _ _ (by simpa using hj)]
    congr 3
    simp [hi]
  · simp [World.frozen?, hw]
theorem KC.row {T : Tab D} (HT : TabOk T) {e : TypeId} {enc : D e → List Value} {k : Nat} (h : KC T e enc k) {ys : List (D e)} {cur : Array Value} (hl : ys.length * k ≤ cur.size) (hc : ∀ (i c : Nat) y, ys[i]? = some y → c < k → cur[i * k + c]? = some (enc y)[c]!) (C : Nat → Nat → Option Value) : RowAt T C e ys cur := by
  refine ⟨by rw [h.size]; exact hl, fun i x j l hi hx => ?_⟩
  have hj : j < k := by
    have := (List.getElem?_eq_some_iff.1 hx).1
    rw [HT.out_len, h.size] at this
    exact this
  exact ⟨(enc x)[j]!, by rw [h.size]; exact hc i j x hi hj, h.rep C x j l hx⟩
/-- the world that the library's sort leaves -/
theorem world_rowK {T : Tab D} (HT : TabOk T) {e : TypeId} [Inhabited (D e)] {enc : D e → List Value} {k : Nat} (h : KC T e enc k) {ys : List (D e)} {cur : Array Value} {w : World} {g : Nat} (hw : w.heap[g]? = some (.cells cur e (0, 0))) (hl : ys.length * k ≤ cur.size) (n : Nat) (os : Array Obj) :
    ∃ cur' : Array Value, (sortWorldK enc k w g 0 n ys.toArray os).heap[g]? = some (.cells cur' e (0, 0)) ∧ cur'.size = cur.size ∧ (∀ C, RowAt T C e ys cur') ∧
      (∀ j, j < w.heap.size → j ≠ g → (sortWorldK enc k w g 0 n ys.toArray os).heap[j]? = w.heap[j]?) ∧ w.heap.size ≤ (sortWorldK enc k w g 0 n ys.toArray os).heap.size := by
  have hg : g < w.heap.size := (Array.getElem?_eq_some_iff.1 hw).1
  unfold sortWorldK putRowK
  generalize hF : Go.Sort.flatK enc k ys.toArray = F
  have hFs : F.size = ys.length * k := by rw [← hF]; simp
  have hsz : (putRow id (Sort.ahead w n) g 0 F).heap.size = w.heap.size := size_putRow ..
  have hb : ∀ j, (putRow id (Sort.ahead w n) g 0 F).heap[j]? = if g = j then (w.heap[j]?).map (onCells (putCells id 0 F)) else w.heap[j]? := fun j => Array.getElem?_modify ..
  refine ⟨putCells id 0 F cur, ?_, by simp [putCells], ?_, ?_, by rw [size_grow, hsz]; omega⟩
  · rw [heap_grow_old _ _ (by rw [hsz]; exact hg), hb, if_pos rfl, hw]; rfl
  · refine h.row HT (by simp [putCells]; exact hl) fun i c y hi hc => ?_
    have hil : i < ys.length := (List.getElem?_eq_some_iff.1 hi).1
    have hjl : i * k + c < ys.length * k := by
      have := Nat.mul_le_mul_right k (show i + 1 ≤ ys.length from hil)
      rw [Nat.add_mul, Nat.one_mul] at this; omega
    have hjc : i * k + c < cur.size := by omega
    have e1 : (i * k + c) / k = i := (blk_iff k i _ h.pos).1 ⟨by omega, by omega⟩
    have e2 : (i * k + c) % k = c := by rw [Nat.mod_eq_sub_div_mul, e1]; omega
    have hv : F[i * k + c]! = (enc y)[c]! := by
      rw [← hF, get_flatK _ _ _ _ (by simpa using hjl), e1, e2]
      congr 2
      have hy : ys[i] = y := by rw [List.getElem?_eq_getElem hil] at hi; exact Option.some.inj hi
      simp [hil, hy]
    have hjF : i * k + c < F.size := by omega
    rw [getElem!_pos F _ hjF] at hv
    simp [putCells, Array.getElem?_mapIdx, hjc, hjF, hv]
  · intro j hj hne
    rw [heap_grow_old _ _ (by rw [hsz]; exact hj), hb, if_neg (fun e => hne e.symm)]
variable {D : TypeId → Type}

/-- a slice of the call's own, made out of a slice that it was given, whose elements the walk may look at -/
theorem good_rowC {P : Program} {T : Tab D} (HT : TabOk T) {f : FuncId} (e : TypeId) (hf : ∃ fn, P.funcs[f]? = some fn ∧ (fn.name == "runtime.NumGoroutine") = false ∧ fn.body.isNone = false) (hs : 0 < T.size e)
    (ns : List Int) (xs ys : List (D e)) (news : List Value → List Value) (hnew : ∀ C L, RowOf T C e xs L → RowOf T C e ys (news L))
    (hwalk : ∀ (A : Option Addr) (c : Nat) (L : List Value) (w : World), L.length = xs.length * T.size e → xs.length ≤ c → (A = none → xs = []) → (∀ ad, A = some ad → ∀ j u, L[j]? = some u → w.cell? (ad.add j) = some u) → (∀ u ∈ L, u.oneCell' = true) → (∃ C, RowOf T C e xs L) →
      Calls P f (Value.slice A xs.length c :: ns.map (Value.int .i64)).toArray w fun e' w' => ∃ v', e' = .returned v' ∧ w'.ownsRow w.heap.size e (T.size e) v' ys.length (news L) ∧ Go.RowKit.Below w.heap.size w w') :
    Good P T f (.one (.sl false e xs) :: ns.map fun n => .one (.int .i64 n)) [] (.one (.sl true e ys)) [] := by
  refine ⟨hf, ?_⟩
  intro w C blk md vargs J _
  have hsz : vargs.size = ns.length + 1 := by have := J.sz; simpa [cfg0] using this
  have hr := J.rep 0
  rw [get_stOf] at hr
  have hr0 : PRep T C blk (.one (.sl false e xs)) (slotV ⟨vargs, []⟩ 0) := hr
  obtain ⟨A, cp, b, o, L, hv, hcp, hA, hrow, hC, h1⟩ := slRow HT hr0 hs
  have hargs : vargs = (Value.slice A xs.length cp :: ns.map (Value.int .i64)).toArray := by
    apply Array.ext
    · simp [hsz]
    · intro i h1 h2
      cases i with
      | zero =>
        have : slotV ⟨vargs, []⟩ 0 = vargs[0] := by simp [slotV, h1]
        rw [← this, hv]; rfl
      | succ i =>
        have hi : i < ns.length := by omega
        have hri := J.rep (i + 1)
        rw [get_stOf] at hri
        have e1 : (PV.one (LV.sl false e xs) :: ns.map fun n => PV.one (LV.int (D := D) .i64 n)).getD (i + 1) (.one .undef) = .one (.int .i64 ns[i]) := by simp [List.getD_eq_getElem?_getD, hi]
        rw [e1] at hri
        have := inv_int hri
        have e2 : slotV ⟨vargs, []⟩ (i + 1) = vargs[i + 1] := by simp [slotV, h1]
        rw [← e2, this]
        simp
  subst hargs
  have J0 := J.bare (P := P) (T := T) rfl rfl
  refine (hwalk A cp L w hrow.1 hcp ?_ ?_ h1 ⟨C, hrow⟩).mono ?_
  · rintro rfl
    cases xs with
    | nil => rfl
    | cons x xs => exact absurd (hA (by simp)) (by simp)
  · rintro ad rfl j u hu
    have hne : xs ≠ [] := by
      intro hx; subst hx
      have := hrow.1
      simp at this
      subst this
      simp at hu
    have := hA hne
    simp only [Option.some.injEq] at this
    subst this
    rw [add_lit]
    exact J.ag _ _ _ (hC j u hu)
  · rintro e' w' ⟨v', rfl, ⟨hl, hown⟩, hB⟩
    have hno : ∀ ix, ownsAt (cfg0 P T 1 0) blk (stOf (D := D) [.one .undef] []) ⟨#[undef], []⟩ w ix = [] := by
      intro ix
      cases ix with
      | slot t =>
        refine owns_of_hasOwn ?_
        rw [get_stOf]
        cases t <;> rfl
      | box id => simp [ownsAt, prs, stOf]
    rcases hown with ⟨rfl, hn⟩ | ⟨g, cap, cur, rfl, hg, hgw, hncap, hcm, hcs, htake⟩
    · have hx : ys = [] := List.eq_nil_of_length_eq_zero hn
      subst hx
      have J1 : Inv (cfg0 P T 1 0) ⟨w, C, md, blk⟩ C blk (stOf [.one .undef] []) ⟨#[undef], []⟩ w' := by
        refine J0.world (Ext.refl _) ⟨hB.os, hB.tape, hB.output, hB.size, fun k hk _ => hB.block k hk⟩ (fun id h => by simp [stOf] at h) (fun ix b hb => by rw [hno] at hb; cases hb) (fun b o v h => .inl h) ?_
        intro b o v h
        have hc := J.ag b o v h
        exact (World.cell?_of_block (a := ⟨b, o, none⟩) (hB.block b (World.block_lt_of_cell? w _ hc))).trans hc
      have I := J1.put 0 (by show (0 : Nat) < 1; omega) (.one (.sl true e [])) (.slice none 0 0) (ERep.sl true e [] none 0 0 0 (fun _ _ => .int .i64 0) (Nat.le_refl _) (fun h => absurd rfl h) (fun i x j l h => by simp at h) (fun i x j l h => by simp at h)) (fun id h => by cases h)
        (fun p hp => by simp only [PV.pairs, List.mem_singleton] at hp; subst hp; exact .inl ⟨rfl, rfl⟩) (show ([] : List Nat).Nodup from List.nodup_nil) (fun ix b _ h => by have h' : b ∈ ([] : List Nat) := h; cases h') (fun id h => by simp [stOf] at h) (fun b h => by have h' : b ∈ ([] : List Nat) := h; cases h')
      rw [stOf_put] at I
      exact ⟨_, C, blk, rfl, I⟩
    · have hno2 : ∀ ix, g ∉ ownsAt (cfg0 P T 1 0) blk (stOf (D := D) [.one .undef] []) ⟨#[undef], []⟩ w ix := by
        intro ix hm
        rw [hno ix] at hm
        cases hm
      obtain ⟨C', I⟩ := J0.ownRow (w' := w') HT 0 (by show (0 : Nat) < 1; omega) e ys (news L) (hnew C L hrow) g cap cur hgw hncap hcm hcs htake (fun k hk _ => hB.block k hk) hB.os hB.tape hB.output hB.size
        ⟨hno2, (fun id h => by simp [stOf] at h), .inl hg⟩
        (fun o v h => by
          have hc := J.ag g o v h
          have := World.block_lt_of_cell? w _ hc
          simp at this
          omega)
      rw [stOf_put] at I
      exact ⟨_, C', blk, rfl, I⟩


/-- the cells of elements of k cells -/
theorem KC.flat {T : Tab D} (HT : TabOk T) {e : TypeId} {enc : D e → List Value} {k : Nat} (h : KC T e enc k) {xs : List (D e)} {L : List Value} {C : Nat → Nat → Option Value} (hr : RowOf T C e xs L) : ∀ (i c : Nat) (x : D e), xs[i]? = some x → c < k → L[i * k + c]? = some (enc x)[c]! := by
  intro i c x hi hc
  have hl : c < (T.out e x).length := by rw [HT.out_len, h.size]; exact hc
  have e0 := List.getElem?_eq_getElem hl
  obtain ⟨v, h1, h2⟩ := hr.2 i x c _ hi e0
  rw [h.size] at h1
  rw [h1, h.inv C x c _ v e0 h2]
theorem KC.rowOf {T : Tab D} (HT : TabOk T) {e : TypeId} {enc : D e → List Value} {k : Nat} (h : KC T e enc k) {ys : List (D e)} {L : List Value} (hl : L.length = ys.length * k) (hc : ∀ (i c : Nat) (y : D e), ys[i]? = some y → c < k → L[i * k + c]? = some (enc y)[c]!) (C : Nat → Nat → Option Value) : RowOf T C e ys L := by
  refine ⟨by rw [h.size]; exact hl, fun i x j l hi hx => ?_⟩
  have hj : j < k := by
    have := (List.getElem?_eq_some_iff.1 hx).1
    rw [HT.out_len, h.size] at this
    exact this
  exact ⟨(enc x)[j]!, by rw [h.size]; exact hc i j x hi hj, h.rep C x j l hx⟩
end Go.PM
namespace Go.PM
open Go.ChangeShapes Go.WideShapes
set_option linter.unusedVariables false
set_option linter.unusedSimpArgs false
variable {D : TypeId → Type}

/-- what can be read as data at a type is a plain value of that kind -/
def OpnP {α : Type} (P : Program) (T : Tab D) (t : TypeId) (n : Nat) (mk : α → List (LV D)) (Q : α → Prop) : Prop :=
  n = P.cellsOf t ∧ ∀ (H : Type) (enc : TypeId × Value → H) (W : World) (fuel : Nat) (cs : List Value) (x : DataW H × List MemPlace),
    DataW.trod enc P W 0 (fun _ => true) true fuel t cs = some x → (x.1.weights P t).all (· ≤ reachBytes) = true → ∃ y, F2 (ERep T (allC W)) (mk y) cs ∧ cs.length = n ∧ Q y
variable {T : Tab D}
theorem opnP_int {P : Program} {t : TypeId} {k : IntKind} (hu : P.underlying t = some (.int k)) (hc : P.cellsOf t = 1) : OpnP P T t 1 (fun n : Int => [.int k n]) (fun n => (Lit.int k n).wf = true) := by
  refine ⟨hc.symm, ?_⟩
  intro H enc W fuel cs x h _
  obtain ⟨n, rfl, _, hw⟩ := DataW.trod_int hu h
  exact ⟨n, .cons (.int _ _) .nil, rfl, hw⟩
theorem weightsAll_mem {H : Type} {P : Program} {e : TypeId} : ∀ {ds : List (DataW H)} {d : DataW H}, d ∈ ds → ∀ n ∈ d.weights P e, n ∈ DataW.weightsAll P e ds
  | d0 :: ds, d, hd, n, hn => by
    simp only [DataW.weightsAll, List.mem_append]
    rcases List.mem_cons.1 hd with rfl | h
    · exact .inl hn
    · exact .inr (weightsAll_mem h n hn)
theorem cells_get {w : World} {a : Addr} : ∀ (n : Nat) {cs : List Value}, w.cells? 0 a n = some cs → cs.length = n ∧ ∀ i u, cs[i]? = some u → w.cell? (a.add i) = some u := by
  intro n cs h
  unfold World.cells? at h
  rw [if_pos (Nat.zero_le _)] at h
  have hl := mapM_some_length h
  simp only [List.length_range] at hl
  refine ⟨hl, fun i u hu => ?_⟩
  have hi : i < n := by
    rcases Nat.lt_or_ge i n with h' | h'
    · exact h'
    · rw [List.getElem?_eq_none (by omega)] at hu; cases hu
  have := mapM_some_get h i i (List.getElem?_range hi)
  rw [this, hu]
theorem spot_of_cell {w : World} {a : Addr} {u : Value} (h : w.cell? (a.add 0) = some u) : a = ⟨a.block, a.off, none⟩ := by
  rw [show a.add 0 = a from if_pos rfl] at h
  obtain ⟨b, o, s⟩ := a
  cases s with
  | none => rfl
  | some s =>
    exfalso
    unfold World.cell? at h
    split at h
    · simp at h
    · cases h

theorem opnP_slice {P : Program} {t e : TypeId} {Q : D e → Prop} (HT : TabOk T) (hu : P.underlying t = some (.slice e)) (hc : P.cellsOf t = 1) (hs : 0 < T.size e) (hd : OpnP P T e (T.size e) (T.out e) Q) :
    OpnP P T t 1 (fun xs : List (D e) => [.sl false e xs]) (fun xs => xs.length ≤ maxLen ∧ xs.length * P.bytesOf e ≤ 140737488351232 ∧ ∀ x ∈ xs, Q x) := by
  refine ⟨hc.symm, ?_⟩
  intro H enc W fuel cs x h hw
  rcases DataW.trod_slice hu h with ⟨rfl, rfl⟩ | ⟨a, len, cap, elems, rest, n, _, rfl, rfl, _, hl, hm, hlen, hel, _, _⟩
  · exact ⟨[], .cons (ERep.sl false e [] none 0 0 0 (fun _ _ => .int .i64 0) (Nat.le_refl _) (fun h => absurd rfl h) (fun i x j l h => by simp at h) (fun i x j l h => by simp at h)) .nil, rfl, by simp, by simp, by simp⟩
  · simp only [DataW.weights, hu, List.all_cons, Bool.and_eq_true, decide_eq_true_eq, List.length_map] at hw
    obtain ⟨hw1, hw2⟩ := hw
    have hall : ∀ i, i < len → ∃ (c : List Value) (y : D e), (F2 (ERep T (allC W)) (T.out e y) c ∧ ∀ j u, c[j]? = some u → W.cell? (a.add (i * T.size e + j)) = some u) ∧ Q y := by
      intro i hi
      have h1 := hel i hi
      obtain ⟨z, hz⟩ : ∃ z, elems[i]? = some z := ⟨_, List.getElem?_eq_getElem (by omega)⟩
      rw [hz] at h1
      obtain ⟨c, hcs, ht⟩ := Option.bind_eq_some_iff.1 h1
      obtain ⟨hcl, hcg⟩ := cells_get _ hcs
      have hzw : (z.1.weights P e).all (· ≤ reachBytes) = true := by
        rw [List.all_eq_true]
        intro m hm'
        have := List.all_eq_true.1 hw2 m (List.mem_append.2 (.inl (weightsAll_mem (List.mem_map_of_mem (List.mem_of_getElem? hz)) m hm')))
        simpa using this
      obtain ⟨y, hk, _, hq⟩ := hd.2 H enc W n c z ht hzw
      refine ⟨c, y, ⟨hk, fun j u hj => ?_⟩, hq⟩
      have := hcg j u hj
      rw [hd.1]
      rw [Addr.add_add] at this
      exact this
    obtain ⟨ys, hyl, hys⟩ : ∃ ys : List (D e), ys.length = len ∧ ∀ i, (hi : i < ys.length) → ∃ c : List Value, (F2 (ERep T (allC W)) (T.out e ys[i]) c ∧ ∀ j u, c[j]? = some u → W.cell? (a.add (i * T.size e + j)) = some u) ∧ Q ys[i] := by
      clear hel hw1 hw2 hlen hl h hm
      revert hall
      generalize len = L
      intro hall
      induction L with
      | zero => exact ⟨[], rfl, fun i hi => absurd hi (by simp)⟩
      | succ k ih =>
        obtain ⟨ys, hyl, hys⟩ := ih (fun i hi => hall i (by omega))
        obtain ⟨c, y, hy⟩ := hall k (by omega)
        refine ⟨ys ++ [y], by simp [hyl], fun i hi => ?_⟩
        by_cases hik : i < ys.length
        · rw [List.getElem_append_left hik]
          exact hys i hik
        · have : i = k := by simp at hi; omega
          subst this
          rw [List.getElem_append_right (by omega)]
          simp only [hyl, Nat.sub_self, List.getElem_cons_zero]
          exact ⟨c, hy⟩
    have hcell : ∀ (i : Nat) (x : D e) (j : Nat) l, ys[i]? = some x → (T.out e x)[j]? = some l → ∃ u, W.cell? (a.add (i * T.size e + j)) = some u ∧ ERep T (allC W) l u := by
      intro i x j l hx hl
      have hi : i < ys.length := (List.getElem?_eq_some_iff.1 hx).1
      obtain ⟨c, ⟨h1, h2⟩, _⟩ := hys i hi
      rw [List.getElem?_eq_getElem hi] at hx
      cases hx
      obtain ⟨u, hu, hr⟩ := h1.get j l hl
      exact ⟨u, h2 j u hu, hr⟩
    have hspot : ys ≠ [] → a = ⟨a.block, a.off, none⟩ := by
      intro hne
      obtain ⟨x, l, hx, hl⟩ : ∃ x l, ys[0]? = some x ∧ (T.out e x)[0]? = some l := by
        cases ys with
        | nil => exact absurd rfl hne
        | cons x ys => exact ⟨x, (T.out e x)[0]'(by rw [HT.out_len]; exact hs), rfl, List.getElem?_eq_getElem _⟩
      obtain ⟨u, hu, _⟩ := hcell 0 x 0 l hx hl
      rw [Nat.zero_mul] at hu
      exact spot_of_cell hu
    have hcell2 : ∀ (i : Nat) (x : D e) (j : Nat) l, ys[i]? = some x → (T.out e x)[j]? = some l → ∃ u, allC W a.block (a.off + i * T.size e + j) = some u ∧ ERep T (allC W) l u := by
      intro i x j l hx hl
      obtain ⟨u, hu, hr⟩ := hcell i x j l hx hl
      rw [hspot (by rintro rfl; simp at hx), add_lit, ← Nat.add_assoc] at hu
      exact ⟨u, hu, hr⟩
    refine ⟨ys, .cons ?_ .nil, rfl, by rw [hyl]; omega, ?_, ?_⟩
    · have hv : ∀ (i : Nat) (x : D e) (j : Nat) l, ys[i]? = some x → (T.out e x)[j]? = some l → allC W a.block (a.off + i * T.size e + j) = some ((allC W a.block (a.off + i * T.size e + j)).getD (.int .i64 0)) ∧ ERep T (allC W) l ((allC W a.block (a.off + i * T.size e + j)).getD (.int .i64 0)) := by
        intro i x j l hx hl
        obtain ⟨u, hu, hr⟩ := hcell2 i x j l hx hl
        rw [hu]
        exact ⟨rfl, hr⟩
      rw [← hyl]
      refine ERep.sl false e ys (some a) cap a.block a.off (fun i j => (allC W a.block (a.off + i * T.size e + j)).getD (.int .i64 0)) (by omega) (fun hne => by rw [← hspot hne]) (fun i x j l hx hl => (hv i x j l hx hl).1) (fun i x j l hx hl => (hv i x j l hx hl).2)
    · have : len * P.bytesOf e ≤ reachBytes := Nat.le_trans (Nat.mul_le_mul_right _ (by omega)) hw1
      rw [hyl]
      exact this
    · intro y hy
      obtain ⟨i, hi, rfl⟩ := List.getElem_of_mem hy
      obtain ⟨_, _, hq⟩ := hys i hi
      exact hq

theorem opnP_use {α : Type} {P : Program} {t : TypeId} {n : Nat} {mk : α → List (LV D)} {Q : α → Prop} (h : OpnP P T t n mk Q) {H : Type} {enc : TypeId × Value → H} {W : World} {v : Value} {X : DataW H} {ps : List MemPlace} {ts : List TypeId} {ds : List (DataW H)} {j : Nat}
    (hsz : (DataW.weightsEach P ts ds).all (· ≤ reachBytes) = true) (ht : ts[j]? = some t) (hd : ds[j]? = some X) (hx : DataW.Trod enc P W 0 (fun _ => true) true t v X ps) : ∃ y, F2 (ERep T (allC W)) (mk y) v.cells.toList ∧ Q y := by
  obtain ⟨fuel, hf⟩ := hx
  obtain ⟨y, k, _, q⟩ := h.2 H enc W fuel _ (X, ps) hf (by
    rw [List.all_eq_true]
    intro n hn
    exact List.all_eq_true.1 hsz n (DataW.weights_mem_each ht hd n hn))
  exact ⟨y, k, q⟩
theorem trod_places' {P : Program} {H : Type} {enc : TypeId × Value → H} {W : World} {t : TypeId} {v : Value} {X : DataW H} {ps : List MemPlace} (h : DataW.Trod enc P W 0 (fun _ => true) true t v X ps) : ∀ x ∈ ps, x.block < W.heap.size := by
  obtain ⟨m, hm⟩ := h
  exact DataW.trod_lt m _ _ _ hm
theorem rep_one {C : Nat → Nat → Option Value} {blk : Nat → Nat} {l : LV D} {v : Value} (hv : v.cells.toList = [v]) (h : F2 (ERep T C) [l] v.cells.toList) : PRep T C blk (.one l) v := by
  rw [hv] at h
  cases h with
  | cons h _ => exact LRep_of_ERep h
end Go.PM
