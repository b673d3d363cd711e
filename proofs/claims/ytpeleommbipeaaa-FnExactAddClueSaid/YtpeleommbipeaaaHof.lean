/- What a search by a predicate answers, over lists alone; and what is asked of a function value that is such a predicate. -/
import Derived.Test.YtpeleommbipeaaaK
namespace Go.Proofs.Ytpeleommbipeaaa.P
open Go.RowKit Go.Proofs.YtpeleommbipeaaaW.PrintWords Go.Proofs.YtpeleommbipeaaaW.PrintLast
set_option linter.unusedVariables false
set_option linter.unusedSimpArgs false

/-- The place of the first element, counted from i, of which q holds; -1 for none. -/
def idxO {α : Type} (q : α → Option Bool) : List α → Int → Option Int
  | [], _ => some (-1)
  | x :: xs, i => (q x).bind fun b => if b = true then some i else idxO q xs (i + 1)
/-- Does q hold of an element? -/
def anyO {α : Type} (q : α → Option Bool) : List α → Option Bool
  | [] => some false
  | x :: xs => (q x).bind fun b => if b = true then some true else anyO q xs
theorem idxO_anyO {α : Type} (q : α → Option Bool) : ∀ (l : List α) (i : Int) (r : Bool), 0 ≤ i → anyO q l = some r → ∃ j, idxO q l i = some j ∧ decide (0 ≤ j) = r
  | [], i, r, _, h => by
    cases Option.some.inj h
    exact ⟨-1, rfl, rfl⟩
  | x :: xs, i, r, hi, h => by
    simp only [anyO] at h
    obtain ⟨b, hb, h⟩ := Option.bind_eq_some_iff.mp h
    simp only [idxO, hb, Option.bind_some]
    cases b
    · simp only [Bool.false_eq_true, if_false] at h ⊢
      exact idxO_anyO q xs (i + 1) r (by omega) h
    · simp only [if_true] at h ⊢
      cases Option.some.inj h
      exact ⟨i, rfl, decide_eq_true hi⟩
theorem idxO_lt {α : Type} (q : α → Option Bool) (l : List α) (k : Nat) (z : α) (hk : k < l.length) {r : Int} (h : idxO q (l.drop k) k = some r) : ∃ b, q (l.getD k z) = some b ∧ (b = true → (k : Int) = r) ∧ (b = false → idxO q (l.drop (k + 1)) ((k + 1 : Nat) : Int) = some r) := by
  rw [List.drop_eq_getElem_cons hk] at h
  simp only [idxO] at h
  obtain ⟨b, hb, h⟩ := Option.bind_eq_some_iff.mp h
  refine ⟨b, by rw [List.getD_eq_getElem?_getD, List.getElem?_eq_getElem hk]; exact hb, fun e => ?_, fun e => ?_⟩
  · subst e
    simpa using h
  · subst e
    simp only [Bool.false_eq_true, if_false] at h
    rw [← h]
    norm_cast
theorem anyO_mono {α : Type} {q q' : α → Option Bool} (h : ∀ x, LeO (q x) (q' x)) : ∀ l, LeO (anyO q l) (anyO q' l)
  | [] => LeO.refl _
  | x :: xs => LeO.bind (h x) (fun b => LeO.ite (LeO.refl _) (anyO_mono h xs))
theorem anyO_some {α : Type} {q : α → Option Bool} {p : α → Bool} : ∀ (l : List α), (∀ x ∈ l, q x = some (p x)) → anyO q l = some (l.any p)
  | [], _ => rfl
  | x :: xs, h => by
    have ih := anyO_some xs (fun y hy => h y (List.mem_cons_of_mem _ hy))
    simp only [anyO, h x List.mem_cons_self, Option.bind_some, ih, List.any_cons]
    cases p x <;> rfl
/-- A function value that is a predicate: at every element of which q tells, in every world in which what lay in w lies on. -/
def PredO {α : Type} (P : Program) (g : Nat) (lb : Array Value) (enc : α → Value) (q : α → Option Bool) (w : World) : Prop :=
  ∀ (W : World) (x : α) (r : Bool), Below w.heap.size w W → q x = some r → Calls P g (#[enc x] ++ lb) W fun e w' => e = .returned (.bool r) ∧ Below w.heap.size w w'

/-- An empty literal's row. -/
theorem R_lit0 {α : Type} (d : Kd α) (e : Nat) (W : World) (base : Nat) (ok : Nat → Prop) (hb : base ≤ W.heap.size) (hok : ok W.heap.size) : d.R e (W.alloc (.cells #[] e)) base ok (.slice (some ⟨W.heap.size, 0, none⟩) 0 0) [] := by
  refine ⟨fun k hk => ?_, [], ?_, Reps.none _ _⟩
  · have : W.heap.size = k := by simpa [Value.ownBlock] using hk
    subst this
    exact hok
  · have h2 := World.ownsRow_lit (base := base) (e := e) (size := d.sz) W #[] 0 hb (by simp) (by simp)
    simpa using h2
theorem blk_new (w : World) (o : Obj) : (w.alloc o).heap[w.heap.size]? = some o := by
  show (w.heap.push o)[w.heap.size]? = some o
  exact Array.getElem?_push_size
theorem own_ne {α : Type} {d : Kd α} {e : Nat} {w : World} {base g : Nat} {v : Value} {xs : List α} (h : d.R e w base (fun k => k ≠ g) v xs) : some g ≠ v.ownBlock := fun e => h.1 g e.symm rfl

end Go.Proofs.Ytpeleommbipeaaa.P
