/- An abstract machine for the model's code, and its soundness (part 3). No conditions but those stated. -/
import Derived.Test.YtpmipkbfohcjiaaPm2
import Derived.SizedLaws
import Derived.DataReads
import Derived.DataElems
import Derived.ChangeOld
import Derived.ChangeSlices
import Derived.ChangeArms
namespace Go.PM
open Go.ChangeShapes Go.WideShapes
set_option linter.unusedVariables false
set_option linter.unusedSimpArgs false
variable {D : TypeId → Type}

/-- what can be read as data at a type is a plain value of that kind -/
def OpnP {α : Type} (P : Program) (T : Tab D) (t : TypeId) (n : Nat) (mk : α → List (LV D)) (Q : α → Prop) : Prop :=
  n = P.cellsOf t ∧ ∀ (H : Type) (enc : TypeId × Value → H) (W : World) (fuel : Nat) (cs : List Value) (x : DataW H × List MemPlace),
    DataW.trod enc P W 0 (fun _ => true) true fuel t cs = some x → (x.1.weights P t).all (· ≤ reachBytes) = true → ∃ y, F2 (ERep T (allC W)) (mk y) cs ∧ cs.length = n ∧ Q y
def OpnPs {α : Type} (P : Program) (T : Tab D) (fs : List Go.Field) (o n : Nat) (mk : α → List (LV D)) (Q : α → Prop) : Prop :=
  ∀ (H : Type) (enc : TypeId × Value → H) (W : World) (fuel : Nat) (cs : List Value) (xs : List (DataW H × List MemPlace)),
    xs.length = fs.length → (∀ (i : Nat) (f : Go.Field), fs[i]? = some f → DataW.trod enc P W 0 (fun _ => true) true fuel f.type ((cs.drop f.offset).take (P.cellsOf f.type)) = xs[i]?) →
    (DataW.weightsEach P (fs.map (·.type)) (xs.map (·.1))).all (· ≤ reachBytes) = true → cs.length = o + n → ∃ y, F2 (ERep T (allC W)) (mk y) (cs.drop o) ∧ Q y

variable {T : Tab D}
theorem opnP_int {P : Program} {t : TypeId} {k : IntKind} (hu : P.underlying t = some (.int k)) (hc : P.cellsOf t = 1) : OpnP P T t 1 (fun n : Int => [.int k n]) (fun n => (Lit.int k n).wf = true) := by
  refine ⟨hc.symm, ?_⟩
  intro H enc W fuel cs x h _
  obtain ⟨n, rfl, _, hw⟩ := DataW.trod_int hu h
  exact ⟨n, .cons (.int _ _) .nil, rfl, hw⟩
theorem opnP_bool {P : Program} {t : TypeId} (hu : P.underlying t = some .bool) (hc : P.cellsOf t = 1) : OpnP P T t 1 (fun b : Bool => [.bool b]) (fun _ => True) := by
  refine ⟨hc.symm, ?_⟩
  intro H enc W fuel cs x h _
  obtain ⟨b, rfl, _⟩ := DataW.trod_bool hu h
  exact ⟨b, .cons (.bool _) .nil, rfl, trivial⟩
theorem opnP_string {P : Program} {t : TypeId} (hu : P.underlying t = some .string) (hc : P.cellsOf t = 1) : OpnP P T t 1 (fun s : ByteArray => [.str s]) (fun s => s.size ≤ 140737488351232) := by
  refine ⟨hc.symm, ?_⟩
  intro H enc W fuel cs x h hw
  obtain ⟨s, rfl, rfl, _⟩ := DataW.trod_string hu h
  refine ⟨s, .cons (.str _) .nil, rfl, ?_⟩
  simp [DataW.weights, reachBytes] at hw
  exact of_decide_eq_true hw

theorem weightsAll_mem {H : Type} {P : Program} {e : TypeId} : ∀ {ds : List (DataW H)} {d : DataW H}, d ∈ ds → ∀ n ∈ d.weights P e, n ∈ DataW.weightsAll P e ds
  | d0 :: ds, d, hd, n, hn => by
    simp only [DataW.weightsAll, List.mem_append]
    rcases List.mem_cons.1 hd with rfl | h
    · exact .inl hn
    · exact .inr (weightsAll_mem h n hn)
theorem cells_get {w : World} {a : Addr} : ∀ (n : Nat) {cs : List Value}, w.cells? 0 a n = some cs → cs.length = n ∧ ∀ i u, cs[i]? = some u → w.cell? (a.add i) = some u := by
  intro n cs h
  unfold World.cells? at h
  rw [if_pos (Nat.zero_le _)] at h
  have hl := mapM_some_length h
  simp only [List.length_range] at hl
  refine ⟨hl, fun i u hu => ?_⟩
  have hi : i < n := by
    rcases Nat.lt_or_ge i n with h' | h'
    · exact h'
    · rw [List.getElem?_eq_none (by omega)] at hu; cases hu
  have := mapM_some_get h i i (List.getElem?_range hi)
  rw [this, hu]
theorem spot_of_cell {w : World} {a : Addr} {u : Value} (h : w.cell? (a.add 0) = some u) : a = ⟨a.block, a.off, none⟩ := by
  rw [show a.add 0 = a from if_pos rfl] at h
  obtain ⟨b, o, s⟩ := a
  cases s with
  | none => rfl
  | some s =>
    exfalso
    unfold World.cell? at h
    split at h
    · simp at h
    · cases h

theorem opnP_slice {P : Program} {t e : TypeId} {Q : D e → Prop} (HT : TabOk T) (hu : P.underlying t = some (.slice e)) (hc : P.cellsOf t = 1) (hs : 0 < T.size e) (hd : OpnP P T e (T.size e) (T.out e) Q) :
    OpnP P T t 1 (fun xs : List (D e) => [.sl false e xs]) (fun xs => xs.length ≤ maxLen ∧ xs.length * P.bytesOf e ≤ 140737488351232 ∧ ∀ x ∈ xs, Q x) := by
  refine ⟨hc.symm, ?_⟩
  intro H enc W fuel cs x h hw
  rcases DataW.trod_slice hu h with ⟨rfl, rfl⟩ | ⟨a, len, cap, elems, rest, n, _, rfl, rfl, _, hl, hm, hlen, hel, _, _⟩
  · exact ⟨[], .cons (ERep.sl false e [] none 0 0 0 (fun _ _ => .int .i64 0) (Nat.le_refl _) (fun h => absurd rfl h) (fun i x j l h => by simp at h) (fun i x j l h => by simp at h)) .nil, rfl, by simp, by simp, by simp⟩
  · simp only [DataW.weights, hu, List.all_cons, Bool.and_eq_true, decide_eq_true_eq, List.length_map] at hw
    obtain ⟨hw1, hw2⟩ := hw
    have hall : ∀ i, i < len → ∃ (c : List Value) (y : D e), (F2 (ERep T (allC W)) (T.out e y) c ∧ ∀ j u, c[j]? = some u → W.cell? (a.add (i * T.size e + j)) = some u) ∧ Q y := by
      intro i hi
      have h1 := hel i hi
      obtain ⟨z, hz⟩ : ∃ z, elems[i]? = some z := ⟨_, List.getElem?_eq_getElem (by omega)⟩
      rw [hz] at h1
      obtain ⟨c, hcs, ht⟩ := Option.bind_eq_some_iff.1 h1
      obtain ⟨hcl, hcg⟩ := cells_get _ hcs
      have hzw : (z.1.weights P e).all (· ≤ reachBytes) = true := by
        rw [List.all_eq_true]
        intro m hm'
        have := List.all_eq_true.1 hw2 m (List.mem_append.2 (.inl (weightsAll_mem (List.mem_map_of_mem (List.mem_of_getElem? hz)) m hm')))
        simpa using this
      obtain ⟨y, hk, _, hq⟩ := hd.2 H enc W n c z ht hzw
      refine ⟨c, y, ⟨hk, fun j u hj => ?_⟩, hq⟩
      have := hcg j u hj
      rw [hd.1]
      rw [Addr.add_add] at this
      exact this
    obtain ⟨ys, hyl, hys⟩ : ∃ ys : List (D e), ys.length = len ∧ ∀ i, (hi : i < ys.length) → ∃ c : List Value, (F2 (ERep T (allC W)) (T.out e ys[i]) c ∧ ∀ j u, c[j]? = some u → W.cell? (a.add (i * T.size e + j)) = some u) ∧ Q ys[i] := by
      clear hel hw1 hw2 hlen hl h hm
      revert hall
      generalize len = L
      intro hall
      induction L with
      | zero => exact ⟨[], rfl, fun i hi => absurd hi (by simp)⟩
      | succ k ih =>
        obtain ⟨ys, hyl, hys⟩ := ih (fun i hi => hall i (by omega))
        obtain ⟨c, y, hy⟩ := hall k (by omega)
        refine ⟨ys ++ [y], by simp [hyl], fun i hi => ?_⟩
        by_cases hik : i < ys.length
        · rw [List.getElem_append_left hik]
          exact hys i hik
        · have : i = k := by simp at hi; omega
          subst this
          rw [List.getElem_append_right (by omega)]
          simp only [hyl, Nat.sub_self, List.getElem_cons_zero]
          exact ⟨c, hy⟩
    have hcell : ∀ (i : Nat) (x : D e) (j : Nat) l, ys[i]? = some x → (T.out e x)[j]? = some l → ∃ u, W.cell? (a.add (i * T.size e + j)) = some u ∧ ERep T (allC W) l u := by
      intro i x j l hx hl
      have hi : i < ys.length := (List.getElem?_eq_some_iff.1 hx).1
      obtain ⟨c, ⟨h1, h2⟩, _⟩ := hys i hi
      rw [List.getElem?_eq_getElem hi] at hx
      cases hx
      obtain ⟨u, hu, hr⟩ := h1.get j l hl
      exact ⟨u, h2 j u hu, hr⟩
    have hspot : ys ≠ [] → a = ⟨a.block, a.off, none⟩ := by
      intro hne
      obtain ⟨x, l, hx, hl⟩ : ∃ x l, ys[0]? = some x ∧ (T.out e x)[0]? = some l := by
        cases ys with
        | nil => exact absurd rfl hne
        | cons x ys => exact ⟨x, (T.out e x)[0]'(by rw [HT.out_len]; exact hs), rfl, List.getElem?_eq_getElem _⟩
      obtain ⟨u, hu, _⟩ := hcell 0 x 0 l hx hl
      rw [Nat.zero_mul] at hu
      exact spot_of_cell hu
    have hcell2 : ∀ (i : Nat) (x : D e) (j : Nat) l, ys[i]? = some x → (T.out e x)[j]? = some l → ∃ u, allC W a.block (a.off + i * T.size e + j) = some u ∧ ERep T (allC W) l u := by
      intro i x j l hx hl
      obtain ⟨u, hu, hr⟩ := hcell i x j l hx hl
      rw [hspot (by rintro rfl; simp at hx), add_lit, ← Nat.add_assoc] at hu
      exact ⟨u, hu, hr⟩
    refine ⟨ys, .cons ?_ .nil, rfl, by rw [hyl]; omega, ?_, ?_⟩
    · have hv : ∀ (i : Nat) (x : D e) (j : Nat) l, ys[i]? = some x → (T.out e x)[j]? = some l → allC W a.block (a.off + i * T.size e + j) = some ((allC W a.block (a.off + i * T.size e + j)).getD (.int .i64 0)) ∧ ERep T (allC W) l ((allC W a.block (a.off + i * T.size e + j)).getD (.int .i64 0)) := by
        intro i x j l hx hl
        obtain ⟨u, hu, hr⟩ := hcell2 i x j l hx hl
        rw [hu]
        exact ⟨rfl, hr⟩
      rw [← hyl]
      refine ERep.sl false e ys (some a) cap a.block a.off (fun i j => (allC W a.block (a.off + i * T.size e + j)).getD (.int .i64 0)) (by omega) (fun hne => by rw [← hspot hne]) (fun i x j l hx hl => (hv i x j l hx hl).1) (fun i x j l hx hl => (hv i x j l hx hl).2)
    · have : len * P.bytesOf e ≤ reachBytes := Nat.le_trans (Nat.mul_le_mul_right _ (by omega)) hw1
      rw [hyl]
      exact this
    · intro y hy
      obtain ⟨i, hi, rfl⟩ := List.getElem_of_mem hy
      obtain ⟨_, _, hq⟩ := hys i hi
      exact hq

theorem opnPs_one {α : Type} {P : Program} {f : Go.Field} {o n : Nat} {mk : α → List (LV D)} {Q : α → Prop} (ho : f.offset = o) (h : OpnP P T f.type n mk Q) : OpnPs P T [f] o n mk Q := by
  intro H enc W fuel cs xs hl hx hw hc
  obtain ⟨x, rfl⟩ : ∃ x, xs = [x] := by
    match xs, hl with
    | [x], _ => exact ⟨x, rfl⟩
  have h1 := hx 0 f rfl
  simp only [List.getElem?_cons_zero] at h1
  rw [ho, List.take_of_length_le (by rw [List.length_drop, ← h.1]; omega)] at h1
  obtain ⟨y, k, _, q⟩ := h.2 H enc W fuel _ x h1 (by simpa [DataW.weightsEach] using hw)
  exact ⟨y, k, q⟩
theorem opnPs_cons {α β : Type} {P : Program} {f : Go.Field} {fs : List Go.Field} {o n m : Nat} {a : α → List (LV D)} {b : β → List (LV D)} {Q1 : α → Prop} {Q2 : β → Prop} (ho : f.offset = o) (h1 : OpnP P T f.type n a Q1) (h2 : OpnPs P T fs (o + n) m b Q2) :
    OpnPs P T (f :: fs) o (n + m) (fun y : α × β => a y.1 ++ b y.2) (fun y => Q1 y.1 ∧ Q2 y.2) := by
  intro H enc W fuel cs xs hl hx hw hc
  obtain ⟨x, xs, rfl⟩ : ∃ x r, xs = x :: r := by
    cases xs with
    | nil => simp at hl
    | cons x r => exact ⟨x, r, rfl⟩
  have e1 := hx 0 f rfl
  simp only [List.getElem?_cons_zero] at e1
  simp only [List.map_cons, DataW.weightsEach, List.all_append, Bool.and_eq_true] at hw
  rw [ho, ← h1.1] at e1
  obtain ⟨y1, k1, _, q1⟩ := h1.2 H enc W fuel _ x e1 hw.1
  obtain ⟨y2, k2, q2⟩ := h2 H enc W fuel cs xs (by simpa using hl) (fun i g hg => by
    have := hx (i + 1) g (by simpa using hg)
    simpa using this) hw.2 (by omega)
  refine ⟨(y1, y2), ?_, q1, q2⟩
  have := k1.append k2
  rw [← List.drop_drop, List.take_append_drop] at this
  exact this
theorem opnP_struct {α : Type} {P : Program} {t : TypeId} {fs : Array Go.Field} {n : Nat} {mk : α → List (LV D)} {Q : α → Prop} (hu : P.underlying t = some (.struct fs)) (hc : n = P.cellsOf t) (h : OpnPs P T fs.toList 0 n mk Q) : OpnP P T t n mk Q := by
  refine ⟨hc, ?_⟩
  intro H enc W fuel cs x hx hw
  obtain ⟨xs, m, _, rfl, hl, hlen, hf⟩ := DataW.trod_struct hu hx
  obtain ⟨y, k, q⟩ := h H enc W m cs xs (by simpa using hlen) (fun i f hi => hf i f (by simpa using hi)) (by simpa [DataW.weights, hu] using hw) (by omega)
  exact ⟨y, by simpa using k, by omega, q⟩
theorem opnP_iso {α β : Type} {P : Program} {t : TypeId} {n : Nat} {mk : α → List (LV D)} {Q : α → Prop} (f : β → α) (g : α → β) (hg : ∀ y, f (g y) = y) (h : OpnP P T t n mk Q) : OpnP P T t n (fun x => mk (f x)) (fun x => Q (f x)) := by
  refine ⟨h.1, ?_⟩
  intro H enc W fuel cs x hx hw
  obtain ⟨y, hk, hl, hq⟩ := h.2 H enc W fuel cs x hx hw
  exact ⟨g y, by show F2 _ (mk (f (g y))) cs; rw [hg]; exact hk, hl, by show Q (f (g y)); rw [hg]; exact hq⟩
theorem opnP_use {α : Type} {P : Program} {t : TypeId} {n : Nat} {mk : α → List (LV D)} {Q : α → Prop} (h : OpnP P T t n mk Q) {H : Type} {enc : TypeId × Value → H} {W : World} {v : Value} {X : DataW H} {ps : List MemPlace} {ts : List TypeId} {ds : List (DataW H)} {j : Nat}
    (hsz : (DataW.weightsEach P ts ds).all (· ≤ reachBytes) = true) (ht : ts[j]? = some t) (hd : ds[j]? = some X) (hx : DataW.Trod enc P W 0 (fun _ => true) true t v X ps) : ∃ y, F2 (ERep T (allC W)) (mk y) v.cells.toList ∧ Q y := by
  obtain ⟨fuel, hf⟩ := hx
  obtain ⟨y, k, _, q⟩ := h.2 H enc W fuel _ (X, ps) hf (by
    rw [List.all_eq_true]
    intro n hn
    exact List.all_eq_true.1 hsz n (DataW.weights_mem_each ht hd n hn))
  exact ⟨y, k, q⟩
theorem trod_places' {P : Program} {H : Type} {enc : TypeId × Value → H} {W : World} {t : TypeId} {v : Value} {X : DataW H} {ps : List MemPlace} (h : DataW.Trod enc P W 0 (fun _ => true) true t v X ps) : ∀ x ∈ ps, x.block < W.heap.size := by
  obtain ⟨m, hm⟩ := h
  exact DataW.trod_lt m _ _ _ hm
theorem rep_one {C : Nat → Nat → Option Value} {blk : Nat → Nat} {l : LV D} {v : Value} (hv : v.cells.toList = [v]) (h : F2 (ERep T C) [l] v.cells.toList) : PRep T C blk (.one l) v := by
  rw [hv] at h
  cases h with
  | cons h _ => exact LRep_of_ERep h
theorem rep_agg {C : Nat → Nat → Option Value} {blk : Nat → Nat} {ls : List (LV D)} {cs : Array Value} (h : F2 (ERep T C) ls cs.toList) : PRep T C blk (.agg ls) (.agg cs) :=
  PRep_agg (h.map fun _ _ _ h => LRep_of_ERep h)
end Go.PM
