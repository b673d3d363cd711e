/- An abstract machine for the model's code, and its soundness (part 3). No conditions but those stated. -/
import Derived.Test.YtehbhinaopdkeaaGreatPm2
import Derived.WalkKit
import Derived.Deep.LoopGhost
import Derived.Lib.Walk
import Derived.Lib.SliceRun
import Derived.Laws.Slices
import Derived.KernelRfl
import Derived.Deep.RegionLaw
import Derived.Lib.SlicesDelete
import Derived.Sort.WalkB12
import Derived.Shelf.RegionOpenPlain
import Derived.Sort.Grow
import Derived.Shelf.GgSortFunc.InsertionK
import Derived.SizedLaws
import Derived.DataReads
import Derived.DataElems
import Derived.ChangeOld
import Derived.ChangeSlices
import Derived.ChangeArms
namespace Go.PM
set_option linter.unusedVariables false
set_option linter.unusedSimpArgs false
variable {D : TypeId → Type}
section
variable {c c' : Cfg D} {E : Env} {C C' : Nat → Nat → Option Value} {blk blk' : Nat → Nat} {σ σ' : St D} {a a' : Act} {w w' : World}

/-- one slot, with nothing in it -/
theorem Inv.bare {P : Program} {T : Tab D} (J : Inv c E C blk σ a w) (hT : c.T = T) (hm : c.m = 0) : Inv (cfg0 P T 1 0) E C blk (stOf [.one .undef] []) ⟨#[undef], []⟩ w := by
  have hg : ∀ t, (cfg0 P T 1 0).get (stOf (D := D) [.one .undef] []) t = .one .undef := by
    intro t
    rw [get_stOf]
    cases t <;> rfl
  have hv : ∀ t, slotV ⟨#[undef], []⟩ t = undef := by
    intro t
    cases t with
    | zero => rfl
    | succ t => simp [slotV]
  have hno : ∀ ix, ownsAt (cfg0 P T 1 0) blk (stOf (D := D) [.one .undef] []) ⟨#[undef], []⟩ w ix = [] := by
    intro ix
    cases ix with
    | slot t =>
      refine owns_of_hasOwn ?_
      rw [hg]; rfl
    | box id => simp [ownsAt, prs, stOf]
  refine ⟨rfl, rfl, (fun t => by rw [hg, hv]; rfl), (fun t id h => by rw [hg] at h; cases h), (fun t _ => by rw [hg]; rfl), (fun id ty ls h => by simp [stOf] at h), (fun id ty ls h => by simp [stOf] at h), (fun id h => by simp [stOf] at h), (fun id id' h => by simp [stOf] at h), ?_, (fun ix => by rw [hno]; exact List.nodup_nil), (fun ix ix' b h => by rw [hno] at h; cases h), (fun id ix h => by simp [stOf] at h), (fun id h => by simp [stOf] at h), (fun ix b h => by rw [hno] at h; cases h), J.ag, J.gr, (hT ▸ J.cx : CxOk T E C), J.cn, (fun id h => by simp [cfg0] at h), (fun h => by cases h)⟩
  intro ix p hp
  cases ix with
  | slot t =>
    simp only [prs, hg] at hp
    exact OwnOk_of_not (notOwn_of_hasOwn (pv := .one .undef) rfl p hp)
  | box id => simp [prs, stOf] at hp

/-- a slice of the call's own, made out of a slice that it was given, and of numbers -/
theorem good_row {P : Program} {T : Tab D} (HT : TabOk T) {f : FuncId} (e : TypeId) (hf : ∃ fn, P.funcs[f]? = some fn ∧ (fn.name == "runtime.NumGoroutine") = false ∧ fn.body.isNone = false) (hs : 0 < T.size e)
    (ns : List Int) (xs ys : List (D e)) (news : List Value → List Value) (hnew : ∀ C L, RowOf T C e xs L → RowOf T C e ys (news L))
    (hwalk : ∀ (A : Option Addr) (c : Nat) (L : List Value) (w : World), L.length = xs.length * T.size e → xs.length ≤ c → (A = none → xs = []) → (∀ ad, A = some ad → ∀ j u, L[j]? = some u → w.cell? (ad.add j) = some u) → (∀ u ∈ L, u.oneCell' = true) →
      Calls P f (Value.slice A xs.length c :: ns.map (Value.int .i64)).toArray w fun e' w' => ∃ v', e' = .returned v' ∧ w'.ownsRow w.heap.size e (T.size e) v' ys.length (news L) ∧ Go.RowKit.Below w.heap.size w w') :
    Good P T f (.one (.sl false e xs) :: ns.map fun n => .one (.int .i64 n)) [] (.one (.sl true e ys)) [] := by
  refine ⟨hf, ?_⟩
  intro w C blk md vargs J _
  have hsz : vargs.size = ns.length + 1 := by have := J.sz; simpa [cfg0] using this
  have hr := J.rep 0
  rw [get_stOf] at hr
  have hr0 : PRep T C blk (.one (.sl false e xs)) (slotV ⟨vargs, []⟩ 0) := hr
  obtain ⟨A, cp, b, o, L, hv, hcp, hA, hrow, hC, h1⟩ := slRow HT hr0 hs
  have hargs : vargs = (Value.slice A xs.length cp :: ns.map (Value.int .i64)).toArray := by
    apply Array.ext
    · simp [hsz]
    · intro i h1 h2
      cases i with
      | zero =>
        have : slotV ⟨vargs, []⟩ 0 = vargs[0] := by simp [slotV, h1]
        rw [← this, hv]; rfl
      | succ i =>
        have hi : i < ns.length := by omega
        have hri := J.rep (i + 1)
        rw [get_stOf] at hri
        have e1 : (PV.one (LV.sl false e xs) :: ns.map fun n => PV.one (LV.int (D := D) .i64 n)).getD (i + 1) (.one .undef) = .one (.int .i64 ns[i]) := by simp [List.getD_eq_getElem?_getD, hi]
        rw [e1] at hri
        have := inv_int hri
        have e2 : slotV ⟨vargs, []⟩ (i + 1) = vargs[i + 1] := by simp [slotV, h1]
        rw [← e2, this]
        simp
  subst hargs
  have J0 := J.bare (P := P) (T := T) rfl rfl
  refine (hwalk A cp L w hrow.1 hcp ?_ ?_ h1).mono ?_
  · rintro rfl
    cases xs with
    | nil => rfl
    | cons x xs => exact absurd (hA (by simp)) (by simp)
  · rintro ad rfl j u hu
    have hne : xs ≠ [] := by
      intro hx; subst hx
      have := hrow.1
      simp at this
      subst this
      simp at hu
    have := hA hne
    simp only [Option.some.injEq] at this
    subst this
    rw [add_lit]
    exact J.ag _ _ _ (hC j u hu)
  · rintro e' w' ⟨v', rfl, ⟨hl, hown⟩, hB⟩
    have hno : ∀ ix, ownsAt (cfg0 P T 1 0) blk (stOf (D := D) [.one .undef] []) ⟨#[undef], []⟩ w ix = [] := by
      intro ix
      cases ix with
      | slot t =>
        refine owns_of_hasOwn ?_
        rw [get_stOf]
        cases t <;> rfl
      | box id => simp [ownsAt, prs, stOf]
    rcases hown with ⟨rfl, hn⟩ | ⟨g, cap, cur, rfl, hg, hgw, hncap, hcm, hcs, htake⟩
    · have hx : ys = [] := List.eq_nil_of_length_eq_zero hn
      subst hx
      have J1 : Inv (cfg0 P T 1 0) ⟨w, C, md, blk⟩ C blk (stOf [.one .undef] []) ⟨#[undef], []⟩ w' := by
        refine J0.world (Ext.refl _) ⟨hB.os, hB.tape, hB.output, hB.size, fun k hk _ => hB.block k hk⟩ (fun id h => by simp [stOf] at h) (fun ix b hb => by rw [hno] at hb; cases hb) (fun b o v h => .inl h) ?_
        intro b o v h
        have hc := J.ag b o v h
        exact (World.cell?_of_block (a := ⟨b, o, none⟩) (hB.block b (World.block_lt_of_cell? w _ hc))).trans hc
      have I := J1.put 0 (by show (0 : Nat) < 1; omega) (.one (.sl true e [])) (.slice none 0 0) (ERep.sl true e [] none 0 0 0 (fun _ _ => .int .i64 0) (Nat.le_refl _) (fun h => absurd rfl h) (fun i x j l h => by simp at h) (fun i x j l h => by simp at h)) (fun id h => by cases h)
        (fun p hp => by simp only [PV.pairs, List.mem_singleton] at hp; subst hp; exact .inl ⟨rfl, rfl⟩) (show ([] : List Nat).Nodup from List.nodup_nil) (fun ix b _ h => by have h' : b ∈ ([] : List Nat) := h; cases h') (fun id h => by simp [stOf] at h) (fun b h => by have h' : b ∈ ([] : List Nat) := h; cases h')
      rw [stOf_put] at I
      exact ⟨_, C, blk, rfl, I⟩
    · have hno2 : ∀ ix, g ∉ ownsAt (cfg0 P T 1 0) blk (stOf (D := D) [.one .undef] []) ⟨#[undef], []⟩ w ix := by
        intro ix hm
        rw [hno ix] at hm
        cases hm
      obtain ⟨C', I⟩ := J0.ownRow (w' := w') HT 0 (by show (0 : Nat) < 1; omega) e ys (news L) (hnew C L hrow) g cap cur hgw hncap hcm hcs htake (fun k hk _ => hB.block k hk) hB.os hB.tape hB.output hB.size
        ⟨hno2, (fun id h => by simp [stOf] at h), .inl hg⟩
        (fun o v h => by
          have hc := J.ag g o v h
          have := World.block_lt_of_cell? w _ hc
          simp at this
          omega)
      rw [stOf_put] at I
      exact ⟨_, C', blk, rfl, I⟩

/-- one element is taken out of a row -/
theorem RowOf.erase {T : Tab D} {e : TypeId} {xs : List (D e)} {L : List Value} (HT : TabOk T) (h : RowOf T C e xs L) (i : Nat) (hi : i < xs.length) : RowOf T C e (xs.eraseIdx i) (L.take (i * T.size e) ++ L.drop ((i + 1) * T.size e)) := by
  have h0 : i * T.size e + T.size e ≤ L.length := by
    rw [h.1, ← Nat.succ_mul]; exact Nat.mul_le_mul_right _ hi
  have hs : (i + 1) * T.size e = i * T.size e + T.size e := Nat.succ_mul ..
  constructor
  · rw [List.length_append, List.length_take, List.length_drop, List.length_eraseIdx, if_pos hi, Nat.min_eq_left (by omega), h.1, Nat.sub_mul]
    have : 1 * T.size e = T.size e := Nat.one_mul _
    have hh := h.1
    rw [hs]
    omega
  · intro j x k l hx hl
    have hk : k < T.size e := by
      have := (List.getElem?_eq_some_iff.1 hl).1
      rwa [HT.out_len] at this
    rw [List.getElem?_eraseIdx] at hx
    split at hx
    · rename_i hj
      obtain ⟨v, hv, hr⟩ := h.2 j x k l hx hl
      refine ⟨v, ?_, hr⟩
      have hle : (j + 1) * T.size e ≤ i * T.size e := Nat.mul_le_mul_right _ hj
      rw [Nat.succ_mul] at hle
      rw [List.getElem?_append_left (by rw [List.length_take]; omega), List.getElem?_take, if_pos (by omega)]
      exact hv
    · rename_i hj
      obtain ⟨v, hv, hr⟩ := h.2 (j + 1) x k l hx hl
      refine ⟨v, ?_, hr⟩
      have hle : i * T.size e ≤ j * T.size e := Nat.mul_le_mul_right _ (by omega)
      rw [List.getElem?_append_right (by rw [List.length_take]; omega), List.length_take, Nat.min_eq_left (by omega), List.getElem?_drop]
      rw [Nat.succ_mul] at hv
      rw [← hv]
      congr 1
      omega
end
end Go.PM

namespace Go.PM
open Go.RowKit Go.Lib Go.Proofs
set_option linter.unusedVariables false
set_option linter.unusedSimpArgs false
theorem blkc {w : World} {g : Nat} {t : TypeId} {cs : Array Value} (h : w.heap[g]? = some (.cells cs t (0, 0))) (i : Nat) : w.cell? ⟨g, i, none⟩ = cs[i]? := cell_of_row w g i cs t (0, 0) h
theorem blkf {w : World} {g : Nat} {t : TypeId} {cs : Array Value} (h : w.heap[g]? = some (.cells cs t (0, 0))) (i : Nat) : w.frozen? ⟨g, i, none⟩ = false := by simp [World.frozen?, h]
theorem blks {w : World} {g : Nat} {t : TypeId} {cs : Array Value} (h : w.heap[g]? = some (.cells cs t (0, 0))) (i : Nat) (u : Value) : (w.setCell ⟨g, i, none⟩ u).heap[g]? = some (.cells (cs.setIfInBounds i u) t (0, 0)) := by

  simp [World.setCell, Array.getElem?_modify, h]
theorem belowc {B g : Nat} {w : World} (hg : B ≤ g) : ∀ (vs : List Value) (o : Nat) (W : World), Below B w W → Below B w (W.setCells g o vs)
  | [], _, _, h => h
  | v :: vs, o, W, h => belowc hg vs (o + 1) _ (h.setCell hg v)
theorem setCells_list {g : Nat} {e : TypeId} : ∀ (vs : List Value) (o : Nat) (w : World) (cur : Array Value), w.heap[g]? = some (.cells cur e (0, 0)) → o + vs.length ≤ cur.size →
    ∃ cur', (w.setCells g o vs).heap[g]? = some (.cells cur' e (0, 0)) ∧ cur'.size = cur.size ∧ cur'.toList = cur.toList.take o ++ vs ++ cur.toList.drop (o + vs.length)
  | [], o, w, cur, h, _ => ⟨cur, h, rfl, by simp⟩
  | v :: vs, o, w, cur, h, hl => by
    simp only [List.length_cons] at hl
    obtain ⟨cur', h1, h2, h3⟩ := setCells_list vs (o + 1) (w.setCell ⟨g, o, none⟩ v) (cur.setIfInBounds o v) (blks h o v) (by rw [Array.size_setIfInBounds]; omega)
    refine ⟨cur', h1, by rw [h2, Array.size_setIfInBounds], ?_⟩
    rw [h3, Array.toList_setIfInBounds]
    have ho : o < cur.toList.length := by simp; omega
    rw [List.drop_set_of_lt (by omega), List.take_succ_eq_append_getElem (by simpa using ho)]
    simp [List.take_set_of_le, List.append_assoc, Nat.add_assoc, Nat.add_comm 1]

theorem cut1 {P : Program} (t e : TypeId) (kh : IntKind) {i : TypeInfo} (ht : P.underlying t = some (.slice e)) (hi : P.info? e = some i) (A : Option Addr) (n c : Nat) (j : Int) (h0 : 0 ≤ j) (hm : j ≤ n) (hc : n ≤ c) :
    ∀ W : World, (Instr.slice t (.slice A n c) none (some (.int kh j)) none).run P W = .ok (.slice A j.toNat c) W := by
  intro W
  have hel : P.elem t = e := by simp [Program.elem, ht]
  have hu : P.underlying t = some (.slice (P.elem t)) := by rw [hel]; exact ht
  have ha : (A.map fun x => x.add 0) = A := by cases A <;> simp [Addr.add]
  rw [run_slice_h W t A n c hu kh j h0 (by omega), hel]
  simp [sizeOf, typeInfo, hi, sliced, Result.andThen, ha]
theorem cut2 {P : Program} (t e : TypeId) (kl : IntKind) {i : TypeInfo} (ht : P.underlying t = some (.slice e)) (hi : P.info? e = some i) (size : Nat) (hsz : i.size = size) (A : Option Addr) (n c : Nat) (j : Int) (h0 : 0 ≤ j) (hm : j ≤ n) :
    ∀ W : World, (Instr.slice t (.slice A n c) (some (.int kl j)) none none).run P W = .ok (.slice (if c = j.toNat then A else A.map (·.add (j.toNat * size))) (n - j.toNat) (c - j.toNat)) W := by
  intro W
  have hel : P.elem t = e := by simp [Program.elem, ht]
  have hu : P.underlying t = some (.slice (P.elem t)) := by rw [hel]; exact ht
  rw [run_slice_l W t A n c hu kl j h0 hm, hel]
  simp [sizeOf, typeInfo, hi, hsz, sliced, Result.andThen]
theorem clear1 {P : Program} (w : World) (t e ty : TypeId) (z : Value) (ht : P.underlying t = some (.slice e)) (hv : ∀ w, (zeroValue e).run P w = .ok z w) (h1 : ∀ v ∈ z.cells.toList, v.oneCell' = true) (b o c : Nat)
    (hc : ∀ j, j < z.cells.size → (w.cell? ⟨b, o + j, none⟩).isSome = true) (hf : ∀ j, j < z.cells.size → w.frozen? ⟨b, o + j, none⟩ = false) :
    (Builtin.clear_ #[t] ty #[.slice (some ⟨b, o, none⟩) 1 c]).run P w = .ok (.tuple #[]) (w.setCells b o z.cells.toList) := by
  have hzc : (Builtin.zeroCells z.cells 1).toList = z.cells.toList := by
    apply List.ext_getElem
    · simp [Builtin.zeroCells]
    · intro i h1 h2
      simp at h2
      simp [Builtin.zeroCells, Nat.mod_eq_of_lt h2, getElem!_pos z.cells i h2]
  have hst := run_storeCells_cells (P := P) b o z.cells.toList 0 w (by simpa using hc) (by simpa using hf) h1
  simp only [Nat.add_zero] at hst
  simp [Builtin.clear_, run_underlying ht, hv, hzc, hst, Result.andThen]
theorem own_form {w : World} {b e s n : Nat} {v : Value} {L : List Value} (h : w.ownsRow b e s v (n + 1) L) : ∃ g cp, v = .slice (some ⟨g, 0, none⟩) (n + 1) cp := by
  rcases h.2 with ⟨_, h⟩ | ⟨g, cp, _, h, _⟩
  · omega
  · exact ⟨g, cp, h⟩
end Go.PM

namespace Go.PM
set_option linter.unusedVariables false
set_option linter.unusedSimpArgs false
variable {D : TypeId → Type}

/-- what a function that works in a row's place hands back: nothing, or the row's beginning -/
inductive RetRow : PV D → Nat → Nat → Value → Prop
  | none (g cp) : RetRow (.tup []) g cp (.tuple #[])
  | sl (m g cp) (h : m ≤ cp) : RetRow (.one (.bs 0 m)) g cp (.slice (some ⟨g, 0, none⟩) m cp)
def fnArgs (fs : List FuncId) : List (PV D) := fs.map fun g => .one (.fn g [])
def fnVals (fs : List FuncId) : Array Value := (fs.map fun g => Value.func (.func g) #[] #[]).toArray

/-- a library function that turns a row in its place -/
theorem good_inrow {P : Program} {T : Tab D} (HT : TabOk T) {f : FuncId} (hf : ∃ fn, P.funcs[f]? = some fn ∧ (fn.name == "runtime.NumGoroutine") = false ∧ fn.body.isNone = false) {e : TypeId} (hflat : flatK (T.kd e) = true)
    (fs : List FuncId) (n : Nat) (xs ys : List (D e)) (ret : PV D)
    (walk : ∀ (w : World) (g cp : Nat) (cur : Array Value), w.heap[g]? = some (.cells cur e (0, 0)) → cur.size = cp * T.size e → cp ≤ maxLen → n ≤ cp → (∀ C, RowAt T C e xs cur) →
      Calls P f (#[.slice (some ⟨g, 0, none⟩) n cp] ++ fnVals fs) w fun en w' => ∃ v cur', en = .returned v ∧ RetRow ret g cp v ∧ w'.heap[g]? = some (.cells cur' e (0, 0)) ∧ cur'.size = cur.size ∧ (∀ C, RowAt T C e ys cur') ∧
        (∀ k, k < w.heap.size → k ≠ g → w'.heap[k]? = w.heap[k]?) ∧ w'.os = w.os ∧ w'.tape = w.tape ∧ w'.output = w.output ∧ w.heap.size ≤ w'.heap.size) :
    Good P T f (.one (.bs 0 n) :: fnArgs fs) [(e, [.row e xs])] ret [(e, [.row e ys])] := by
  refine ⟨hf, ?_⟩
  intro w C blk md vargs J _
  have hsz : vargs.size = (PV.one (LV.bs 0 n) :: fnArgs (D := D) fs).length := J.sz
  have h0 := J.rep 0
  rw [get_stOf] at h0
  have h0 : PRep T C blk (.one (.bs 0 n)) (slotV ⟨vargs, []⟩ 0) := h0
  obtain ⟨e1, e2⟩ := h0
  have hs0 : (stOf (PV.one (LV.bs 0 n) :: fnArgs (D := D) fs) [(e, [.row e xs])]).h 0 = some (e, [.row e xs]) := rfl
  obtain ⟨vs, hw, hb⟩ := J.box 0 e [.row e xs] hs0
  obtain ⟨hrow, hc1, hc2⟩ := hb.row
  have hrow' : ∀ C', RowAt T C' e xs vs := fun C' => ⟨hrow.1, fun i x j l hi hl => by
    obtain ⟨v', k1, k2⟩ := hrow.2 i x j l hi hl
    exact ⟨v', k1, k2.flat fun e0 => flatK_spec hflat (by rw [← e0]; exact kd_mem HT (List.mem_of_getElem? hl))⟩⟩
  have ev : vargs = #[.slice (some ⟨blk 0, 0, none⟩) n (blk (0 + capK))] ++ fnVals fs := by
    apply Array.ext'
    apply List.ext_getElem?
    intro t
    have hl : vargs.size = fs.length + 1 := by rw [hsz]; simp [fnArgs]
    cases t with
    | zero =>
      have : vargs[0]? = some (slotV ⟨vargs, []⟩ 0) := by
        have : 0 < vargs.size := by omega
        simp [slotV, this]
      rw [Array.getElem?_toList, this, e1]
      simp [fnVals]
    | succ t =>
      by_cases ht : t < fs.length
      · have hr := J.rep (t + 1)
        rw [get_stOf] at hr
        have hg : (PV.one (LV.bs 0 n) :: fnArgs (D := D) fs).getD (t + 1) (.one .undef) = .one (.fn fs[t] []) := by
          simp [List.getD_eq_getElem?_getD, fnArgs, ht]
        rw [hg] at hr
        have hr : slotV ⟨vargs, []⟩ (t + 1) = .func (.func fs[t]) #[] #[] := hr
        have : vargs[t + 1]? = some (slotV ⟨vargs, []⟩ (t + 1)) := by
          have : t + 1 < vargs.size := by omega
          simp [slotV, this]
        rw [Array.getElem?_toList, this, hr]
        simp [fnVals, ht]
      · rw [List.getElem?_eq_none (by rw [Array.length_toList]; omega), List.getElem?_eq_none (by simp [fnVals]; omega)]
  rw [ev]
  refine (walk w (blk 0) (blk (0 + capK)) vs hw hc1 hc2 e2 hrow').mono ?_
  rintro en w' ⟨v, cur', rfl, hret, hw', hsz', hys, hk, ho, ht, hou, hle⟩
  have hz : ∀ p ∈ ([.row e ys] : List (LV D)).zip cur'.toList, p.1.isOwn = false := by
    intro p hp
    have := (List.of_mem_zip hp).1
    simp only [List.mem_singleton] at this
    rw [this]; rfl
  have hzo : (([.row e ys] : List (LV D)).zip cur'.toList).filterMap ownBlk = [] := List.filterMap_eq_nil_iff.2 fun p hp => ownBlk_of_not (hz p hp)
  have I2 := J.putBox (w' := w') 0 e [.row e xs] [.row e ys] cur' hs0 hw' hk ho ht hou hle (.inr ⟨ys, rfl, hys C, by rw [hsz']; exact hc1, hc2⟩) (fun l hl => by simp only [List.mem_singleton] at hl; rw [hl]; rfl) (fun p hp => OwnOk_of_not (hz p hp))
    (by rw [hzo]; exact List.nodup_nil) (fun ix b _ hb => by rw [hzo] at hb; cases hb) (fun id' _ hb => by rw [hzo] at hb; cases hb) (fun b hb => by rw [hzo] at hb; cases hb)
  have hbs : F2 (fun i b => (upd (stOf (PV.one (LV.bs 0 n) :: fnArgs (D := D) fs) [(e, [.row e xs])]).h 0 (some (e, [.row e ys]))) i = some b) (List.range 1) [(e, [.row e ys])] := .cons (upd_same ..) .nil
  cases hret with
  | none =>
    exact ⟨_, C, blk, rfl, inv_ret (c := cfg0 P T (PV.one (LV.bs 0 n) :: fnArgs (D := D) fs).length 1) I2 (ret := .tup []) (v := .tuple #[]) ⟨#[], rfl, .nil⟩ (fun i hi => by cases hi) (fun p hp => by simp [PV.pairs] at hp) (by simp [owns, PV.pairs]) (fun b hb => by simp [owns, PV.pairs] at hb) hbs⟩
  | sl m _ _ h =>
    exact ⟨_, C, blk, rfl, inv_ret (c := cfg0 P T (PV.one (LV.bs 0 n) :: fnArgs (D := D) fs).length 1) I2 (ret := .one (.bs 0 m)) (v := .slice (some ⟨blk 0, 0, none⟩) m (blk (0 + capK))) ⟨rfl, h⟩ (fun i hi => by
      simp only [PV.ids, PV.leaves, LV.ids, List.flatMap_cons, List.flatMap_nil, List.append_nil, List.mem_singleton] at hi
      rw [hi]; show (0 : Nat) < 1; omega) (fun p hp => by simp only [PV.pairs, List.mem_singleton] at hp; rw [hp]; trivial) (by rw [owns_of_hasOwn rfl]; exact List.nodup_nil) (fun b hb => by rw [owns_of_hasOwn rfl] at hb; cases hb) hbs⟩
end Go.PM

namespace Go.PM
set_option linter.unusedVariables false
set_option linter.unusedSimpArgs false
variable {D : TypeId → Type}

/-- a number, a truth value or a text, and its value -/
inductive Flat (D : TypeId → Type) : LV D → Value → Prop
  | int (k : IntKind) (n : Int) : Flat D (.int k n) (.int k n)
  | bool (b : Bool) : Flat D (.bool b) (.bool b)
  | str (s : ByteArray) : Flat D (.str s) (.string s)
theorem Flat.rep {T : Tab D} {C : Nat → Nat → Option Value} {blk : Nat → Nat} {l : LV D} {v : Value} (h : Flat D l v) : PRep T C blk (.one l) v := by
  cases h with
  | int k n => exact ERep.int k n
  | bool b => exact ERep.bool b
  | str s => exact ERep.str s
theorem Flat.ids {l : LV D} {v : Value} (h : Flat D l v) : (PV.one l).ids = [] := by cases h <;> rfl
theorem Flat.own {l : LV D} {v : Value} (h : Flat D l v) : (PV.one l).hasOwn = false := by cases h <;> rfl

/-- a function that hands back a number, a truth value or a text, and leaves what was there as it was -/
theorem good_flat {P : Program} {T : Tab D} {f : FuncId} (hf : ∃ fn, P.funcs[f]? = some fn ∧ (fn.name == "runtime.NumGoroutine") = false ∧ fn.body.isNone = false)
    (args : List (PV D)) {l : LV D} {v : Value} (hv : Flat D l v)
    (H : ∀ (w : World) (C : Nat → Nat → Option Value) (blk : Nat → Nat) (vargs : Array Value), vargs.size = args.length → (∀ t, PRep T C blk (args.getD t (.one .undef)) (slotV ⟨vargs, []⟩ t)) → (∀ b o u, C b o = some u → w.cell? ⟨b, o, none⟩ = some u) →
      Calls P f vargs w fun e' w' => e' = .returned v ∧ Go.RowKit.Below w.heap.size w w') :
    Good P T f args [] (.one l) [] := by
  refine ⟨hf, ?_⟩
  intro w C blk md vargs J _
  have hsz : vargs.size = args.length := J.sz
  have hrep : ∀ t, PRep T C blk (args.getD t (.one .undef)) (slotV ⟨vargs, []⟩ t) := by
    intro t
    have := J.rep t
    rw [get_stOf] at this
    exact this
  have J0 := J.bare (P := P) (T := T) rfl rfl
  have hno : ∀ ix, ownsAt (cfg0 P T 1 0) blk (stOf (D := D) [.one .undef] []) ⟨#[undef], []⟩ w ix = [] := by
    intro ix
    cases ix with
    | slot t =>
      refine owns_of_hasOwn ?_
      rw [get_stOf]
      cases t <;> rfl
    | box id => simp [ownsAt, prs, stOf]
  refine (H w C blk vargs hsz hrep J.ag).mono ?_
  rintro e' w' ⟨rfl, hB⟩
  have J1 : Inv (cfg0 P T 1 0) ⟨w, C, md, blk⟩ C blk (stOf [.one .undef] []) ⟨#[undef], []⟩ w' := by
    refine J0.world (Ext.refl _) ⟨hB.os, hB.tape, hB.output, hB.size, fun k hk _ => hB.block k hk⟩ (fun id h => by simp [stOf] at h) (fun ix b hb => by rw [hno] at hb; cases hb) (fun b o v h => .inl h) ?_
    intro b o v h
    have hc := J.ag b o v h
    exact (World.cell?_of_block (a := ⟨b, o, none⟩) (hB.block b (World.block_lt_of_cell? w _ hc))).trans hc
  have I := J1.put0 0 (by show (0 : Nat) < 1; omega) (.one l) v hv.rep (fun id h => by rw [hv.ids] at h; cases h) hv.own
  rw [stOf_put] at I
  exact ⟨_, C, blk, rfl, I⟩
theorem rep_str {T : Tab D} {C : Nat → Nat → Option Value} {blk : Nat → Nat} {s : ByteArray} {v : Value} (h : PRep T C blk (.one (.str s) : PV D) v) : v = .string s := inv_str h
theorem rep_int {T : Tab D} {C : Nat → Nat → Option Value} {blk : Nat → Nat} {k : IntKind} {n : Int} {v : Value} (h : PRep T C blk (.one (.int k n) : PV D) v) : v = .int k n := inv_int h
/-- the values of one argument, of two -/
theorem args1 {vargs : Array Value} (h : vargs.size = 1) : vargs = #[slotV ⟨vargs, []⟩ 0] := by
  obtain ⟨l⟩ := vargs
  match l, h with
  | [v], _ => rfl
theorem args2 {vargs : Array Value} (h : vargs.size = 2) : vargs = #[slotV ⟨vargs, []⟩ 0, slotV ⟨vargs, []⟩ 1] := by
  obtain ⟨l⟩ := vargs
  match l, h with
  | [v, u], _ => rfl
end Go.PM

namespace Go.PM
open Go.Sort
set_option linter.unusedVariables false
set_option linter.unusedSimpArgs false
variable {D : TypeId → Type}

/-- elements of one cell: what their cell holds -/
structure OneC (T : Tab D) (e : TypeId) (enc : D e → Value) : Prop where
  size : T.size e = 1
  rep : ∀ C x l, (T.out e x)[0]? = some l → ERep T C l (enc x)
  inv : ∀ C x l v, (T.out e x)[0]? = some l → ERep T C l v → v = enc x
theorem OneC.row {T : Tab D} (HT : TabOk T) {e : TypeId} {enc : D e → Value} (h : OneC T e enc) {ys : List (D e)} {cur : Array Value} (hl : ys.length ≤ cur.size) (hc : ∀ (j : Nat) y, ys[j]? = some y → cur[j]? = some (enc y)) (C : Nat → Nat → Option Value) : RowAt T C e ys cur := by
  refine ⟨by rw [h.size]; omega, fun i x j l hi hx => ?_⟩
  have hj : j = 0 := by
    have := (List.getElem?_eq_some_iff.1 hx).1
    rw [HT.out_len, h.size] at this
    omega
  subst hj
  exact ⟨enc x, by rw [h.size, Nat.mul_one, Nat.add_zero]; exact hc i x hi, h.rep C x l hx⟩
theorem OneC.get {T : Tab D} (HT : TabOk T) {e : TypeId} {enc : D e → Value} (h : OneC T e enc) {xs : List (D e)} {cur : Array Value} {C : Nat → Nat → Option Value} (hr : RowAt T C e xs cur) {j : Nat} {x : D e} (hj : xs[j]? = some x) : cur[j]? = some (enc x) := by
  have hl : 0 < (T.out e x).length := by rw [HT.out_len, h.size]; omega
  have e0 := List.getElem?_eq_getElem hl
  obtain ⟨v, h1, h2⟩ := hr.2 j x 0 _ hj e0
  rw [h.size, Nat.mul_one, Nat.add_zero] at h1
  rw [h1, h.inv C x _ v e0 h2]
theorem OneC.holds {T : Tab D} (HT : TabOk T) {e : TypeId} [Inhabited (D e)] {enc : D e → Value} (h : OneC T e enc) {xs : List (D e)} {cur : Array Value} {C : Nat → Nat → Option Value} (hr : RowAt T C e xs cur) {w : World} {g : Nat} (hw : w.heap[g]? = some (.cells cur e (0, 0))) : Holds enc w g 0 xs.toArray := by
  intro j hj
  have hj : j < xs.length := by simpa using hj
  have hx := List.getElem?_eq_getElem hj
  refine ⟨?_, ?_⟩
  · rw [Nat.zero_add, cell_of_row w g j cur e (0, 0) hw, h.get HT hr hx]
    congr 2
    simp [hj]
  · simp [World.frozen?, hw]
/-- the world that the library's sort leaves -/
theorem world_row {T : Tab D} (HT : TabOk T) {e : TypeId} [Inhabited (D e)] {enc : D e → Value} (h : OneC T e enc) {ys : List (D e)} {cur : Array Value} {w : World} {g : Nat} (hw : w.heap[g]? = some (.cells cur e (0, 0))) (hl : ys.length ≤ cur.size) (n : Nat) (os : Array Obj) :
    ∃ cur' : Array Value, (grow (putRow enc (Sort.ahead w n) g 0 ys.toArray) os).heap[g]? = some (.cells cur' e (0, 0)) ∧ cur'.size = cur.size ∧ (∀ C, RowAt T C e ys cur') ∧
      (∀ k, k < w.heap.size → k ≠ g → (grow (putRow enc (Sort.ahead w n) g 0 ys.toArray) os).heap[k]? = w.heap[k]?) ∧ w.heap.size ≤ (grow (putRow enc (Sort.ahead w n) g 0 ys.toArray) os).heap.size := by
  have hg : g < w.heap.size := (Array.getElem?_eq_some_iff.1 hw).1
  have hsz : (putRow enc (Sort.ahead w n) g 0 ys.toArray).heap.size = w.heap.size := size_putRow ..
  have hb : ∀ k, (putRow enc (Sort.ahead w n) g 0 ys.toArray).heap[k]? = if g = k then (w.heap[k]?).map (onCells (putCells enc 0 ys.toArray)) else w.heap[k]? := fun k => Array.getElem?_modify ..
  refine ⟨putCells enc 0 ys.toArray cur, ?_, by simp [putCells], ?_, ?_, by rw [size_grow, hsz]; omega⟩
  · rw [heap_grow_old _ _ (by rw [hsz]; exact hg), hb, if_pos rfl, hw]; rfl
  · refine h.row HT (by simp [putCells]; exact hl) fun j y hj => ?_
    have hjl : j < ys.length := (List.getElem?_eq_some_iff.1 hj).1
    have hjc : j < cur.size := by omega
    have hy : ys[j] = y := by rw [List.getElem?_eq_getElem hjl] at hj; exact Option.some.inj hj
    simp [putCells, Array.getElem?_mapIdx, hjc, hjl, hy]
  · intro k hk hne
    rw [heap_grow_old _ _ (by rw [hsz]; exact hk), hb, if_neg (fun e => hne e.symm)]
theorem oneC_int {T : Tab D} {e : TypeId} (k : IntKind) (φ : D e → Int) (h1 : T.size e = 1) (h2 : ∀ x, T.out e x = [.int k (φ x)]) : OneC T e (fun x => .int k (φ x)) := by
  refine ⟨h1, fun C x l h => ?_, fun C x l v h hr => ?_⟩
  · rw [h2] at h; cases h; exact .int ..
  · rw [h2] at h; cases h; cases hr; rfl
end Go.PM
namespace Go.PM
open Go.RowKit
variable {D : TypeId → Type}
/-- a function that leaves what was there as it was, and hands back what owns nothing -/
theorem good_still {P : Program} {T : Tab D} {f : FuncId} (hf : ∃ fn, P.funcs[f]? = some fn ∧ (fn.name == "runtime.NumGoroutine") = false ∧ fn.body.isNone = false)
    (args : List (PV D)) {ret : PV D} (hid : ret.ids = []) (hown : ret.hasOwn = false)
    (H : ∀ (w : World) (C : Nat → Nat → Option Value) (blk : Nat → Nat) (vargs : Array Value), vargs.size = args.length → (∀ t, PRep T C blk (args.getD t (.one .undef)) (slotV ⟨vargs, []⟩ t)) → (∀ b o u, C b o = some u → w.cell? ⟨b, o, none⟩ = some u) →
      Calls P f vargs w fun e' w' => ∃ v, e' = .returned v ∧ PRep T C blk ret v ∧ Below w.heap.size w w') :
    Good P T f args [] ret [] := by
  refine ⟨hf, ?_⟩
  intro w C blk md vargs J _
  have hsz : vargs.size = args.length := J.sz
  have hrep : ∀ t, PRep T C blk (args.getD t (.one .undef)) (slotV ⟨vargs, []⟩ t) := by
    intro t
    have := J.rep t
    rw [get_stOf] at this
    exact this
  have J0 := J.bare (P := P) (T := T) rfl rfl
  have hno : ∀ ix, ownsAt (cfg0 P T 1 0) blk (stOf (D := D) [.one .undef] []) ⟨#[undef], []⟩ w ix = [] := by
    intro ix
    cases ix with
    | slot t =>
      refine owns_of_hasOwn ?_
      rw [get_stOf]
      cases t <;> rfl
    | box id => simp [ownsAt, prs, stOf]
  refine (H w C blk vargs hsz hrep J.ag).mono ?_
  rintro e' w' ⟨v, rfl, hv, hB⟩
  have J1 : Inv (cfg0 P T 1 0) ⟨w, C, md, blk⟩ C blk (stOf [.one .undef] []) ⟨#[undef], []⟩ w' := by
    refine J0.world (Ext.refl _) ⟨hB.os, hB.tape, hB.output, hB.size, fun k hk _ => hB.block k hk⟩ (fun id h => by simp [stOf] at h) (fun ix b hb => by rw [hno] at hb; cases hb) (fun b o v h => .inl h) ?_
    intro b o v h
    have hc := J.ag b o v h
    exact (World.cell?_of_block (a := ⟨b, o, none⟩) (hB.block b (World.block_lt_of_cell? w _ hc))).trans hc
  have I := J1.put0 0 (by show (0 : Nat) < 1; omega) ret v hv (fun id h => by rw [hid] at h; cases h) hown
  rw [stOf_put] at I
  exact ⟨_, C, blk, rfl, I⟩
theorem rep_nil {T : Tab D} {C : Nat → Nat → Option Value} {blk : Nat → Nat} {o : Bool} {e : TypeId} {v : Value} (h : PRep T C blk (.one (.sl o e []) : PV D) v) : ∃ A cp, v = .slice A 0 cp := by
  obtain ⟨A, cp, b, o', vals, h1, _⟩ := inv_sl h
  exact ⟨A, cp, h1⟩
theorem nil_rep (T : Tab D) (C : Nat → Nat → Option Value) (blk : Nat → Nat) (e : TypeId) (A : Option Addr) (cp : Nat) : PRep T C blk (.one (.sl false e [])) (.slice A 0 cp) :=
  ERep.sl false e [] A cp 0 0 (fun _ _ => undef) (Nat.zero_le _) (fun h => absurd rfl h) (fun i x j l h => by simp at h) (fun i x j l h => by simp at h)
end Go.PM

namespace Go.PM
set_option linter.unusedVariables false
set_option linter.unusedSimpArgs false
variable {D : TypeId → Type}
/-- a slice of the call's own, made new -/
theorem good_new {P : Program} {T : Tab D} (HT : TabOk T) {f : FuncId} (e : TypeId) (hf : ∃ fn, P.funcs[f]? = some fn ∧ (fn.name == "runtime.NumGoroutine") = false ∧ fn.body.isNone = false)
    (args : List (PV D)) (ys : List (D e))
    (H : ∀ (w : World) (C : Nat → Nat → Option Value) (blk : Nat → Nat) (vargs : Array Value), vargs.size = args.length → (∀ t, PRep T C blk (args.getD t (.one .undef)) (slotV ⟨vargs, []⟩ t)) → (∀ b o u, C b o = some u → w.cell? ⟨b, o, none⟩ = some u) →
      ∃ news, RowOf T C e ys news ∧ Calls P f vargs w fun e' w' => ∃ v', e' = .returned v' ∧ w'.ownsRow w.heap.size e (T.size e) v' ys.length news ∧ Go.RowKit.Below w.heap.size w w') :
    Good P T f args [] (.one (.sl true e ys)) [] := by
  refine ⟨hf, ?_⟩
  intro w C blk md vargs J _
  have hsz : vargs.size = args.length := J.sz
  have hrep : ∀ t, PRep T C blk (args.getD t (.one .undef)) (slotV ⟨vargs, []⟩ t) := by
    intro t
    have := J.rep t
    rw [get_stOf] at this
    exact this
  have J0 := J.bare (P := P) (T := T) rfl rfl
  obtain ⟨news, hrow, hcall⟩ := H w C blk vargs hsz hrep J.ag
  refine hcall.mono ?_
  rintro e' w' ⟨v', rfl, ⟨hl, hown⟩, hB⟩
  have hno : ∀ ix, ownsAt (cfg0 P T 1 0) blk (stOf (D := D) [.one .undef] []) ⟨#[undef], []⟩ w ix = [] := by
    intro ix
    cases ix with
    | slot t =>
      refine owns_of_hasOwn ?_
      rw [get_stOf]
      cases t <;> rfl
    | box id => simp [ownsAt, prs, stOf]
  rcases hown with ⟨rfl, hn⟩ | ⟨g, cap, cur, rfl, hg, hgw, hncap, hcm, hcs, htake⟩
  · have hx : ys = [] := List.eq_nil_of_length_eq_zero hn
    subst hx
    have J1 : Inv (cfg0 P T 1 0) ⟨w, C, md, blk⟩ C blk (stOf [.one .undef] []) ⟨#[undef], []⟩ w' := by
      refine J0.world (Ext.refl _) ⟨hB.os, hB.tape, hB.output, hB.size, fun k hk _ => hB.block k hk⟩ (fun id h => by simp [stOf] at h) (fun ix b hb => by rw [hno] at hb; cases hb) (fun b o v h => .inl h) ?_
      intro b o v h
      have hc := J.ag b o v h
      exact (World.cell?_of_block (a := ⟨b, o, none⟩) (hB.block b (World.block_lt_of_cell? w _ hc))).trans hc
    have I := J1.put 0 (by show (0 : Nat) < 1; omega) (.one (.sl true e [])) (.slice none 0 0) (ERep.sl true e [] none 0 0 0 (fun _ _ => .int .i64 0) (Nat.le_refl _) (fun h => absurd rfl h) (fun i x j l h => by simp at h) (fun i x j l h => by simp at h)) (fun id h => by cases h)
      (fun p hp => by simp only [PV.pairs, List.mem_singleton] at hp; subst hp; exact .inl ⟨rfl, rfl⟩) (show ([] : List Nat).Nodup from List.nodup_nil) (fun ix b _ h => by have h' : b ∈ ([] : List Nat) := h; cases h') (fun id h => by simp [stOf] at h) (fun b h => by have h' : b ∈ ([] : List Nat) := h; cases h')
    rw [stOf_put] at I
    exact ⟨_, C, blk, rfl, I⟩
  · have hno2 : ∀ ix, g ∉ ownsAt (cfg0 P T 1 0) blk (stOf (D := D) [.one .undef] []) ⟨#[undef], []⟩ w ix := by
      intro ix hm
      rw [hno ix] at hm
      cases hm
    obtain ⟨C', I⟩ := J0.ownRow (w' := w') HT 0 (by show (0 : Nat) < 1; omega) e ys news hrow g cap cur hgw hncap hcm hcs htake (fun k hk _ => hB.block k hk) hB.os hB.tape hB.output hB.size
      ⟨hno2, (fun id h => by simp [stOf] at h), .inl hg⟩
      (fun o v h => by
        have hc := J.ag g o v h
        have := World.block_lt_of_cell? w _ hc
        simp at this
        omega)
    rw [stOf_put] at I
    exact ⟨_, C', blk, rfl, I⟩
/-- a row of texts -/
theorem row_str {T : Tab D} {C : Nat → Nat → Option Value} {e : TypeId} {ys : List (D e)} (enc : D e → ByteArray) (hs : T.size e = 1) (ho : ∀ x, T.out e x = [.str (enc x)]) : RowOf T C e ys (ys.map fun x => Value.string (enc x)) := by
  refine ⟨by rw [hs, Nat.mul_one, List.length_map], fun i x j l hx hl => ?_⟩
  rw [ho] at hl
  cases j with
  | succ j => cases hl
  | zero =>
    cases hl
    refine ⟨.string (enc x), ?_, .str (enc x)⟩
    rw [hs, Nat.mul_one, Nat.add_zero, List.getElem?_map, hx]; rfl
end Go.PM

namespace Go.PM
set_option linter.unusedVariables false
set_option linter.unusedSimpArgs false
open Go.RowKit
variable {D : TypeId → Type}
/-- as good_still; the function reads variables that never change -/
theorem good_glob {P : Program} {T : Tab D} {f : FuncId} (hf : ∃ fn, P.funcs[f]? = some fn ∧ (fn.name == "runtime.NumGoroutine") = false ∧ fn.body.isNone = false)
    (args : List (PV D)) {ret : PV D} (hid : ret.ids = []) (hown : ret.hasOwn = false)
    (H : ∀ (w : World) (C : Nat → Nat → Option Value) (blk : Nat → Nat) (vargs : Array Value), vargs.size = args.length → (∀ t, PRep T C blk (args.getD t (.one .undef)) (slotV ⟨vargs, []⟩ t)) → (∀ b o u, C b o = some u → w.cell? ⟨b, o, none⟩ = some u) → (∀ x ∈ T.gl, ∃ o, w.heap[x.1]? = some o ∧ x.2 o) →
      Calls P f vargs w fun e' w' => ∃ v, e' = .returned v ∧ PRep T C blk ret v ∧ Below w.heap.size w w') :
    Good P T f args [] ret [] := by
  refine ⟨hf, ?_⟩
  intro w C blk md vargs J _
  have hsz : vargs.size = args.length := J.sz
  have hrep : ∀ t, PRep T C blk (args.getD t (.one .undef)) (slotV ⟨vargs, []⟩ t) := by
    intro t
    have := J.rep t
    rw [get_stOf] at this
    exact this
  have J0 := J.bare (P := P) (T := T) rfl rfl
  have hno : ∀ ix, ownsAt (cfg0 P T 1 0) blk (stOf (D := D) [.one .undef] []) ⟨#[undef], []⟩ w ix = [] := by
    intro ix
    cases ix with
    | slot t =>
      refine owns_of_hasOwn ?_
      rw [get_stOf]
      cases t <;> rfl
    | box id => simp [ownsAt, prs, stOf]
  refine (H w C blk vargs hsz hrep J.ag (J.cx.now J.gr)).mono ?_
  rintro e' w' ⟨v, rfl, hv, hB⟩
  have J1 : Inv (cfg0 P T 1 0) ⟨w, C, md, blk⟩ C blk (stOf [.one .undef] []) ⟨#[undef], []⟩ w' := by
    refine J0.world (Ext.refl _) ⟨hB.os, hB.tape, hB.output, hB.size, fun k hk _ => hB.block k hk⟩ (fun id h => by simp [stOf] at h) (fun ix b hb => by rw [hno] at hb; cases hb) (fun b o v h => .inl h) ?_
    intro b o v h
    have hc := J.ag b o v h
    exact (World.cell?_of_block (a := ⟨b, o, none⟩) (hB.block b (World.block_lt_of_cell? w _ hc))).trans hc
  have I := J1.put0 0 (by show (0 : Nat) < 1; omega) ret v hv (fun id h => by rw [hid] at h; cases h) hown
  rw [stOf_put] at I
  exact ⟨_, C, blk, rfl, I⟩
end Go.PM
namespace Go.PM
open Go.RowKit
variable {D : TypeId → Type}
theorem crep1 {T : Tab D} {C : Nat → Nat → Option Value} {blk : Nat → Nat} {l : LV D} {v : Value} (h : LRep T C blk l v) : CRep T C blk (false, [l]) v := by
  unfold CRep
  rw [if_neg (by simp)]
  exact ⟨l, rfl, h⟩
theorem var_blk {P : Program} {w : World} {n : String} {g : Nat} {cs : Array Value} {t : TypeId} {fr : Nat × Nat} (hg : P.globalNamed n = some g) (h : w.heap[g]? = some (.cells cs t fr)) : w.var? P n = some cs := by
  unfold World.var?
  rw [hg, Option.bind_some, h]
theorem blk_var {P : Program} {w : World} {n : String} {g : Nat} {cs : Array Value} (hg : P.globalNamed n = some g) (h : w.var? P n = some cs) : ∃ t fr, w.heap[g]? = some (.cells cs t fr) := by
  unfold World.var? at h
  rw [hg, Option.bind_some] at h
  split at h
  · rename_i c t fr e
    simp only [Option.some.injEq] at h
    subst h
    exact ⟨_, _, e⟩
  · cases h
end Go.PM

namespace Go.PM
open Go.Sort Go.Proofs
set_option linter.unusedVariables false
set_option linter.unusedSimpArgs false
variable {D : TypeId → Type}

/-- elements of several cells: what their cells hold -/
structure KC (T : Tab D) (e : TypeId) (enc : D e → List Value) (k : Nat) : Prop where
  pos : 0 < k
  size : T.size e = k
  len : ∀ x, (enc x).length = k
  rep : ∀ C x (j : Nat) l, (T.out e x)[j]? = some l → ERep T C l (enc x)[j]!
  inv : ∀ C x (j : Nat) l v, (T.out e x)[j]? = some l → ERep T C l v → v = (enc x)[j]!
theorem KC.get {T : Tab D} (HT : TabOk T) {e : TypeId} {enc : D e → List Value} {k : Nat} (h : KC T e enc k) {xs : List (D e)} {cur : Array Value} {C : Nat → Nat → Option Value} (hr : RowAt T C e xs cur) {i c : Nat} {x : D e} (hi : xs[i]? = some x) (hc : c < k) : cur[i * k + c]? = some (enc x)[c]! := by
  have hl : c < (T.out e x).length := by rw [HT.out_len, h.size]; exact hc
  have e0 := List.getElem?_eq_getElem hl
  obtain ⟨v, h1, h2⟩ := hr.2 i x c _ hi e0
  rw [h.size] at h1
  rw [h1, h.inv C x c _ v e0 h2]
theorem KC.holds {T : Tab D} (HT : TabOk T) {e : TypeId} [Inhabited (D e)] {enc : D e → List Value} {k : Nat} (h : KC T e enc k) {xs : List (D e)} {cur : Array Value} {C : Nat → Nat → Option Value} (hr : RowAt T C e xs cur) {w : World} {g : Nat} (hw : w.heap[g]? = some (.cells cur e (0, 0))) : HoldsK enc k w g 0 xs.toArray := by
  intro j hj
  have hj : j < xs.length * k := by simpa using hj
  have hi : j / k < xs.length := (Nat.div_lt_iff_lt_mul h.pos).2 hj
  have hc : j % k < k := Nat.mod_lt _ h.pos
  have ej : j / k * k + j % k = j := by rw [Nat.mul_comm]; exact Nat.div_add_mod j k
  have hx := List.getElem?_eq_getElem hi
  have hg := h.get HT hr hx hc
  rw [ej] at hg
  refine ⟨?_, ?_⟩
  · rw [Nat.zero_add, cell_of_row w g j cur e (0, 0) hw, hg, get_flatK _ _ _ _ (by simpa using hj)]
    congr 3
    simp [hi]
  · simp [World.frozen?, hw]
theorem KC.row {T : Tab D} (HT : TabOk T) {e : TypeId} {enc : D e → List Value} {k : Nat} (h : KC T e enc k) {ys : List (D e)} {cur : Array Value} (hl : ys.length * k ≤ cur.size) (hc : ∀ (i c : Nat) y, ys[i]? = some y → c < k → cur[i * k + c]? = some (enc y)[c]!) (C : Nat → Nat → Option Value) : RowAt T C e ys cur := by
  refine ⟨by rw [h.size]; exact hl, fun i x j l hi hx => ?_⟩
  have hj : j < k := by
    have := (List.getElem?_eq_some_iff.1 hx).1
    rw [HT.out_len, h.size] at this
    exact this
  exact ⟨(enc x)[j]!, by rw [h.size]; exact hc i j x hi hj, h.rep C x j l hx⟩
/-- the world that the library's sort leaves -/
theorem world_rowK {T : Tab D} (HT : TabOk T) {e : TypeId} [Inhabited (D e)] {enc : D e → List Value} {k : Nat} (h : KC T e enc k) {ys : List (D e)} {cur : Array Value} {w : World} {g : Nat} (hw : w.heap[g]? = some (.cells cur e (0, 0))) (hl : ys.length * k ≤ cur.size) (n : Nat) (os : Array Obj) :
    ∃ cur' : Array Value, (sortWorldK enc k w g 0 n ys.toArray os).heap[g]? = some (.cells cur' e (0, 0)) ∧ cur'.size = cur.size ∧ (∀ C, RowAt T C e ys cur') ∧
      (∀ j, j < w.heap.size → j ≠ g → (sortWorldK enc k w g 0 n ys.toArray os).heap[j]? = w.heap[j]?) ∧ w.heap.size ≤ (sortWorldK enc k w g 0 n ys.toArray os).heap.size := by
  have hg : g < w.heap.size := (Array.getElem?_eq_some_iff.1 hw).1
  unfold sortWorldK putRowK
  generalize hF : Go.Sort.flatK enc k ys.toArray = F
  have hFs : F.size = ys.length * k := by rw [← hF]; simp
  have hsz : (putRow id (Sort.ahead w n) g 0 F).heap.size = w.heap.size := size_putRow ..
  have hb : ∀ j, (putRow id (Sort.ahead w n) g 0 F).heap[j]? = if g = j then (w.heap[j]?).map (onCells (putCells id 0 F)) else w.heap[j]? := fun j => Array.getElem?_modify ..
  refine ⟨putCells id 0 F cur, ?_, by simp [putCells], ?_, ?_, by rw [size_grow, hsz]; omega⟩
  · rw [heap_grow_old _ _ (by rw [hsz]; exact hg), hb, if_pos rfl, hw]; rfl
  · refine h.row HT (by simp [putCells]; exact hl) fun i c y hi hc => ?_
    have hil : i < ys.length := (List.getElem?_eq_some_iff.1 hi).1
    have hjl : i * k + c < ys.length * k := by
      have := Nat.mul_le_mul_right k (show i + 1 ≤ ys.length from hil)
      rw [Nat.add_mul, Nat.one_mul] at this; omega
    have hjc : i * k + c < cur.size := by omega
    have e1 : (i * k + c) / k = i := (blk_iff k i _ h.pos).1 ⟨by omega, by omega⟩
    have e2 : (i * k + c) % k = c := by rw [Nat.mod_eq_sub_div_mul, e1]; omega
    have hv : F[i * k + c]! = (enc y)[c]! := by
      rw [← hF, get_flatK _ _ _ _ (by simpa using hjl), e1, e2]
      congr 2
      have hy : ys[i] = y := by rw [List.getElem?_eq_getElem hil] at hi; exact Option.some.inj hi
      simp [hil, hy]
    have hjF : i * k + c < F.size := by omega
    rw [getElem!_pos F _ hjF] at hv
    simp [putCells, Array.getElem?_mapIdx, hjc, hjF, hv]
  · intro j hj hne
    rw [heap_grow_old _ _ (by rw [hsz]; exact hj), hb, if_neg (fun e => hne e.symm)]
end Go.PM

namespace Go.PM
open Go.Sort Go.Proofs
set_option linter.unusedVariables false
set_option linter.unusedSimpArgs false
variable {D : TypeId → Type}

/-- a slice of the call's own, made out of a slice that it was given, whose elements the walk may look at -/
theorem good_rowC {P : Program} {T : Tab D} (HT : TabOk T) {f : FuncId} (e : TypeId) (hf : ∃ fn, P.funcs[f]? = some fn ∧ (fn.name == "runtime.NumGoroutine") = false ∧ fn.body.isNone = false) (hs : 0 < T.size e)
    (ns : List Int) (xs ys : List (D e)) (news : List Value → List Value) (hnew : ∀ C L, RowOf T C e xs L → RowOf T C e ys (news L))
    (hwalk : ∀ (A : Option Addr) (c : Nat) (L : List Value) (w : World), L.length = xs.length * T.size e → xs.length ≤ c → (A = none → xs = []) → (∀ ad, A = some ad → ∀ j u, L[j]? = some u → w.cell? (ad.add j) = some u) → (∀ u ∈ L, u.oneCell' = true) → (∃ C, RowOf T C e xs L) →
      Calls P f (Value.slice A xs.length c :: ns.map (Value.int .i64)).toArray w fun e' w' => ∃ v', e' = .returned v' ∧ w'.ownsRow w.heap.size e (T.size e) v' ys.length (news L) ∧ Go.RowKit.Below w.heap.size w w') :
    Good P T f (.one (.sl false e xs) :: ns.map fun n => .one (.int .i64 n)) [] (.one (.sl true e ys)) [] := by
  refine ⟨hf, ?_⟩
  intro w C blk md vargs J _
  have hsz : vargs.size = ns.length + 1 := by have := J.sz; simpa [cfg0] using this
  have hr := J.rep 0
  rw [get_stOf] at hr
  have hr0 : PRep T C blk (.one (.sl false e xs)) (slotV ⟨vargs, []⟩ 0) := hr
  obtain ⟨A, cp, b, o, L, hv, hcp, hA, hrow, hC, h1⟩ := slRow HT hr0 hs
  have hargs : vargs = (Value.slice A xs.length cp :: ns.map (Value.int .i64)).toArray := by
    apply Array.ext
    · simp [hsz]
    · intro i h1 h2
      cases i with
      | zero =>
        have : slotV ⟨vargs, []⟩ 0 = vargs[0] := by simp [slotV, h1]
        rw [← this, hv]; rfl
      | succ i =>
        have hi : i < ns.length := by omega
        have hri := J.rep (i + 1)
        rw [get_stOf] at hri
        have e1 : (PV.one (LV.sl false e xs) :: ns.map fun n => PV.one (LV.int (D := D) .i64 n)).getD (i + 1) (.one .undef) = .one (.int .i64 ns[i]) := by simp [List.getD_eq_getElem?_getD, hi]
        rw [e1] at hri
        have := inv_int hri
        have e2 : slotV ⟨vargs, []⟩ (i + 1) = vargs[i + 1] := by simp [slotV, h1]
        rw [← e2, this]
        simp
  subst hargs
  have J0 := J.bare (P := P) (T := T) rfl rfl
  refine (hwalk A cp L w hrow.1 hcp ?_ ?_ h1 ⟨C, hrow⟩).mono ?_
  · rintro rfl
    cases xs with
    | nil => rfl
    | cons x xs => exact absurd (hA (by simp)) (by simp)
  · rintro ad rfl j u hu
    have hne : xs ≠ [] := by
      intro hx; subst hx
      have := hrow.1
      simp at this
      subst this
      simp at hu
    have := hA hne
    simp only [Option.some.injEq] at this
    subst this
    rw [add_lit]
    exact J.ag _ _ _ (hC j u hu)
  · rintro e' w' ⟨v', rfl, ⟨hl, hown⟩, hB⟩
    have hno : ∀ ix, ownsAt (cfg0 P T 1 0) blk (stOf (D := D) [.one .undef] []) ⟨#[undef], []⟩ w ix = [] := by
      intro ix
      cases ix with
      | slot t =>
        refine owns_of_hasOwn ?_
        rw [get_stOf]
        cases t <;> rfl
      | box id => simp [ownsAt, prs, stOf]
    rcases hown with ⟨rfl, hn⟩ | ⟨g, cap, cur, rfl, hg, hgw, hncap, hcm, hcs, htake⟩
    · have hx : ys = [] := List.eq_nil_of_length_eq_zero hn
      subst hx
      have J1 : Inv (cfg0 P T 1 0) ⟨w, C, md, blk⟩ C blk (stOf [.one .undef] []) ⟨#[undef], []⟩ w' := by
        refine J0.world (Ext.refl _) ⟨hB.os, hB.tape, hB.output, hB.size, fun k hk _ => hB.block k hk⟩ (fun id h => by simp [stOf] at h) (fun ix b hb => by rw [hno] at hb; cases hb) (fun b o v h => .inl h) ?_
        intro b o v h
        have hc := J.ag b o v h
        exact (World.cell?_of_block (a := ⟨b, o, none⟩) (hB.block b (World.block_lt_of_cell? w _ hc))).trans hc
      have I := J1.put 0 (by show (0 : Nat) < 1; omega) (.one (.sl true e [])) (.slice none 0 0) (ERep.sl true e [] none 0 0 0 (fun _ _ => .int .i64 0) (Nat.le_refl _) (fun h => absurd rfl h) (fun i x j l h => by simp at h) (fun i x j l h => by simp at h)) (fun id h => by cases h)
        (fun p hp => by simp only [PV.pairs, List.mem_singleton] at hp; subst hp; exact .inl ⟨rfl, rfl⟩) (show ([] : List Nat).Nodup from List.nodup_nil) (fun ix b _ h => by have h' : b ∈ ([] : List Nat) := h; cases h') (fun id h => by simp [stOf] at h) (fun b h => by have h' : b ∈ ([] : List Nat) := h; cases h')
      rw [stOf_put] at I
      exact ⟨_, C, blk, rfl, I⟩
    · have hno2 : ∀ ix, g ∉ ownsAt (cfg0 P T 1 0) blk (stOf (D := D) [.one .undef] []) ⟨#[undef], []⟩ w ix := by
        intro ix hm
        rw [hno ix] at hm
        cases hm
      obtain ⟨C', I⟩ := J0.ownRow (w' := w') HT 0 (by show (0 : Nat) < 1; omega) e ys (news L) (hnew C L hrow) g cap cur hgw hncap hcm hcs htake (fun k hk _ => hB.block k hk) hB.os hB.tape hB.output hB.size
        ⟨hno2, (fun id h => by simp [stOf] at h), .inl hg⟩
        (fun o v h => by
          have hc := J.ag g o v h
          have := World.block_lt_of_cell? w _ hc
          simp at this
          omega)
      rw [stOf_put] at I
      exact ⟨_, C', blk, rfl, I⟩


/-- the cells of elements of k cells -/
theorem KC.flat {T : Tab D} (HT : TabOk T) {e : TypeId} {enc : D e → List Value} {k : Nat} (h : KC T e enc k) {xs : List (D e)} {L : List Value} {C : Nat → Nat → Option Value} (hr : RowOf T C e xs L) : ∀ (i c : Nat) (x : D e), xs[i]? = some x → c < k → L[i * k + c]? = some (enc x)[c]! := by
  intro i c x hi hc
  have hl : c < (T.out e x).length := by rw [HT.out_len, h.size]; exact hc
  have e0 := List.getElem?_eq_getElem hl
  obtain ⟨v, h1, h2⟩ := hr.2 i x c _ hi e0
  rw [h.size] at h1
  rw [h1, h.inv C x c _ v e0 h2]
theorem KC.rowOf {T : Tab D} (HT : TabOk T) {e : TypeId} {enc : D e → List Value} {k : Nat} (h : KC T e enc k) {ys : List (D e)} {L : List Value} (hl : L.length = ys.length * k) (hc : ∀ (i c : Nat) (y : D e), ys[i]? = some y → c < k → L[i * k + c]? = some (enc y)[c]!) (C : Nat → Nat → Option Value) : RowOf T C e ys L := by
  refine ⟨by rw [h.size]; exact hl, fun i x j l hi hx => ?_⟩
  have hj : j < k := by
    have := (List.getElem?_eq_some_iff.1 hx).1
    rw [HT.out_len, h.size] at this
    exact this
  exact ⟨(enc x)[j]!, by rw [h.size]; exact hc i j x hi hj, h.rep C x j l hx⟩
end Go.PM

namespace Go.PM
open Go.ChangeShapes Go.WideShapes
set_option linter.unusedVariables false
set_option linter.unusedSimpArgs false
variable {D : TypeId → Type}

/-- what can be read as data at a type is a plain value of that kind -/
def OpnP {α : Type} (P : Program) (T : Tab D) (t : TypeId) (n : Nat) (mk : α → List (LV D)) (Q : α → Prop) : Prop :=
  n = P.cellsOf t ∧ ∀ (H : Type) (enc : TypeId × Value → H) (W : World) (fuel : Nat) (cs : List Value) (x : DataW H × List MemPlace),
    DataW.trod enc P W 0 (fun _ => true) true fuel t cs = some x → (x.1.weights P t).all (· ≤ reachBytes) = true → ∃ y, F2 (ERep T (allC W)) (mk y) cs ∧ cs.length = n ∧ Q y
def OpnPs {α : Type} (P : Program) (T : Tab D) (fs : List Go.Field) (o n : Nat) (mk : α → List (LV D)) (Q : α → Prop) : Prop :=
  ∀ (H : Type) (enc : TypeId × Value → H) (W : World) (fuel : Nat) (cs : List Value) (xs : List (DataW H × List MemPlace)),
    xs.length = fs.length → (∀ (i : Nat) (f : Go.Field), fs[i]? = some f → DataW.trod enc P W 0 (fun _ => true) true fuel f.type ((cs.drop f.offset).take (P.cellsOf f.type)) = xs[i]?) →
    (DataW.weightsEach P (fs.map (·.type)) (xs.map (·.1))).all (· ≤ reachBytes) = true → cs.length = o + n → ∃ y, F2 (ERep T (allC W)) (mk y) (cs.drop o) ∧ Q y

variable {T : Tab D}
theorem opnP_int {P : Program} {t : TypeId} {k : IntKind} (hu : P.underlying t = some (.int k)) (hc : P.cellsOf t = 1) : OpnP P T t 1 (fun n : Int => [.int k n]) (fun n => (Lit.int k n).wf = true) := by
  refine ⟨hc.symm, ?_⟩
  intro H enc W fuel cs x h _
  obtain ⟨n, rfl, _, hw⟩ := DataW.trod_int hu h
  exact ⟨n, .cons (.int _ _) .nil, rfl, hw⟩
theorem opnP_bool {P : Program} {t : TypeId} (hu : P.underlying t = some .bool) (hc : P.cellsOf t = 1) : OpnP P T t 1 (fun b : Bool => [.bool b]) (fun _ => True) := by
  refine ⟨hc.symm, ?_⟩
  intro H enc W fuel cs x h _
  obtain ⟨b, rfl, _⟩ := DataW.trod_bool hu h
  exact ⟨b, .cons (.bool _) .nil, rfl, trivial⟩
theorem opnP_string {P : Program} {t : TypeId} (hu : P.underlying t = some .string) (hc : P.cellsOf t = 1) : OpnP P T t 1 (fun s : ByteArray => [.str s]) (fun s => s.size ≤ 140737488351232) := by
  refine ⟨hc.symm, ?_⟩
  intro H enc W fuel cs x h hw
  obtain ⟨s, rfl, rfl, _⟩ := DataW.trod_string hu h
  refine ⟨s, .cons (.str _) .nil, rfl, ?_⟩
  simp [DataW.weights, reachBytes] at hw
  exact of_decide_eq_true hw

theorem weightsAll_mem {H : Type} {P : Program} {e : TypeId} : ∀ {ds : List (DataW H)} {d : DataW H}, d ∈ ds → ∀ n ∈ d.weights P e, n ∈ DataW.weightsAll P e ds
  | d0 :: ds, d, hd, n, hn => by
    simp only [DataW.weightsAll, List.mem_append]
    rcases List.mem_cons.1 hd with rfl | h
    · exact .inl hn
    · exact .inr (weightsAll_mem h n hn)
theorem cells_get {w : World} {a : Addr} : ∀ (n : Nat) {cs : List Value}, w.cells? 0 a n = some cs → cs.length = n ∧ ∀ i u, cs[i]? = some u → w.cell? (a.add i) = some u := by
  intro n cs h
  unfold World.cells? at h
  rw [if_pos (Nat.zero_le _)] at h
  have hl := mapM_some_length h
  simp only [List.length_range] at hl
  refine ⟨hl, fun i u hu => ?_⟩
  have hi : i < n := by
    rcases Nat.lt_or_ge i n with h' | h'
    · exact h'
    · rw [List.getElem?_eq_none (by omega)] at hu; cases hu
  have := mapM_some_get h i i (List.getElem?_range hi)
  rw [this, hu]
theorem spot_of_cell {w : World} {a : Addr} {u : Value} (h : w.cell? (a.add 0) = some u) : a = ⟨a.block, a.off, none⟩ := by
  rw [show a.add 0 = a from if_pos rfl] at h
  obtain ⟨b, o, s⟩ := a
  cases s with
  | none => rfl
  | some s =>
    exfalso
    unfold World.cell? at h
    split at h
    · simp at h
    · cases h

theorem opnP_slice {P : Program} {t e : TypeId} {Q : D e → Prop} (HT : TabOk T) (hu : P.underlying t = some (.slice e)) (hc : P.cellsOf t = 1) (hs : 0 < T.size e) (hd : OpnP P T e (T.size e) (T.out e) Q) :
    OpnP P T t 1 (fun xs : List (D e) => [.sl false e xs]) (fun xs => xs.length ≤ maxLen ∧ xs.length * P.bytesOf e ≤ 140737488351232 ∧ ∀ x ∈ xs, Q x) := by
  refine ⟨hc.symm, ?_⟩
  intro H enc W fuel cs x h hw
  rcases DataW.trod_slice hu h with ⟨rfl, rfl⟩ | ⟨a, len, cap, elems, rest, n, _, rfl, rfl, _, hl, hm, hlen, hel, _, _⟩
  · exact ⟨[], .cons (ERep.sl false e [] none 0 0 0 (fun _ _ => .int .i64 0) (Nat.le_refl _) (fun h => absurd rfl h) (fun i x j l h => by simp at h) (fun i x j l h => by simp at h)) .nil, rfl, by simp, by simp, by simp⟩
  · simp only [DataW.weights, hu, List.all_cons, Bool.and_eq_true, decide_eq_true_eq, List.length_map] at hw
    obtain ⟨hw1, hw2⟩ := hw
    have hall : ∀ i, i < len → ∃ (c : List Value) (y : D e), (F2 (ERep T (allC W)) (T.out e y) c ∧ ∀ j u, c[j]? = some u → W.cell? (a.add (i * T.size e + j)) = some u) ∧ Q y := by
      intro i hi
      have h1 := hel i hi
      obtain ⟨z, hz⟩ : ∃ z, elems[i]? = some z := ⟨_, List.getElem?_eq_getElem (by omega)⟩
      rw [hz] at h1
      obtain ⟨c, hcs, ht⟩ := Option.bind_eq_some_iff.1 h1
      obtain ⟨hcl, hcg⟩ := cells_get _ hcs
      have hzw : (z.1.weights P e).all (· ≤ reachBytes) = true := by
        rw [List.all_eq_true]
        intro m hm'
        have := List.all_eq_true.1 hw2 m (List.mem_append.2 (.inl (weightsAll_mem (List.mem_map_of_mem (List.mem_of_getElem? hz)) m hm')))
        simpa using this
      obtain ⟨y, hk, _, hq⟩ := hd.2 H enc W n c z ht hzw
      refine ⟨c, y, ⟨hk, fun j u hj => ?_⟩, hq⟩
      have := hcg j u hj
      rw [hd.1]
      rw [Addr.add_add] at this
      exact this
    obtain ⟨ys, hyl, hys⟩ : ∃ ys : List (D e), ys.length = len ∧ ∀ i, (hi : i < ys.length) → ∃ c : List Value, (F2 (ERep T (allC W)) (T.out e ys[i]) c ∧ ∀ j u, c[j]? = some u → W.cell? (a.add (i * T.size e + j)) = some u) ∧ Q ys[i] := by
      clear hel hw1 hw2 hlen hl h hm
      revert hall
      generalize len = L
      intro hall
      induction L with
      | zero => exact ⟨[], rfl, fun i hi => absurd hi (by simp)⟩
      | succ k ih =>
        obtain ⟨ys, hyl, hys⟩ := ih (fun i hi => hall i (by omega))
        obtain ⟨c, y, hy⟩ := hall k (by omega)
        refine ⟨ys ++ [y], by simp [hyl], fun i hi => ?_⟩
        by_cases hik : i < ys.length
        · rw [List.getElem_append_left hik]
          exact hys i hik
        · have : i = k := by simp at hi; omega
          subst this
          rw [List.getElem_append_right (by omega)]
          simp only [hyl, Nat.sub_self, List.getElem_cons_zero]
          exact ⟨c, hy⟩
    have hcell : ∀ (i : Nat) (x : D e) (j : Nat) l, ys[i]? = some x → (T.out e x)[j]? = some l → ∃ u, W.cell? (a.add (i * T.size e + j)) = some u ∧ ERep T (allC W) l u := by
      intro i x j l hx hl
      have hi : i < ys.length := (List.getElem?_eq_some_iff.1 hx).1
      obtain ⟨c, ⟨h1, h2⟩, _⟩ := hys i hi
      rw [List.getElem?_eq_getElem hi] at hx
      cases hx
      obtain ⟨u, hu, hr⟩ := h1.get j l hl
      exact ⟨u, h2 j u hu, hr⟩
    have hspot : ys ≠ [] → a = ⟨a.block, a.off, none⟩ := by
      intro hne
      obtain ⟨x, l, hx, hl⟩ : ∃ x l, ys[0]? = some x ∧ (T.out e x)[0]? = some l := by
        cases ys with
        | nil => exact absurd rfl hne
        | cons x ys => exact ⟨x, (T.out e x)[0]'(by rw [HT.out_len]; exact hs), rfl, List.getElem?_eq_getElem _⟩
      obtain ⟨u, hu, _⟩ := hcell 0 x 0 l hx hl
      rw [Nat.zero_mul] at hu
      exact spot_of_cell hu
    have hcell2 : ∀ (i : Nat) (x : D e) (j : Nat) l, ys[i]? = some x → (T.out e x)[j]? = some l → ∃ u, allC W a.block (a.off + i * T.size e + j) = some u ∧ ERep T (allC W) l u := by
      intro i x j l hx hl
      obtain ⟨u, hu, hr⟩ := hcell i x j l hx hl
      rw [hspot (by rintro rfl; simp at hx), add_lit, ← Nat.add_assoc] at hu
      exact ⟨u, hu, hr⟩
    refine ⟨ys, .cons ?_ .nil, rfl, by rw [hyl]; omega, ?_, ?_⟩
    · have hv : ∀ (i : Nat) (x : D e) (j : Nat) l, ys[i]? = some x → (T.out e x)[j]? = some l → allC W a.block (a.off + i * T.size e + j) = some ((allC W a.block (a.off + i * T.size e + j)).getD (.int .i64 0)) ∧ ERep T (allC W) l ((allC W a.block (a.off + i * T.size e + j)).getD (.int .i64 0)) := by
        intro i x j l hx hl
        obtain ⟨u, hu, hr⟩ := hcell2 i x j l hx hl
        rw [hu]
        exact ⟨rfl, hr⟩
      rw [← hyl]
      refine ERep.sl false e ys (some a) cap a.block a.off (fun i j => (allC W a.block (a.off + i * T.size e + j)).getD (.int .i64 0)) (by omega) (fun hne => by rw [← hspot hne]) (fun i x j l hx hl => (hv i x j l hx hl).1) (fun i x j l hx hl => (hv i x j l hx hl).2)
    · have : len * P.bytesOf e ≤ reachBytes := Nat.le_trans (Nat.mul_le_mul_right _ (by omega)) hw1
      rw [hyl]
      exact this
    · intro y hy
      obtain ⟨i, hi, rfl⟩ := List.getElem_of_mem hy
      obtain ⟨_, _, hq⟩ := hys i hi
      exact hq

theorem opnPs_one {α : Type} {P : Program} {f : Go.Field} {o n : Nat} {mk : α → List (LV D)} {Q : α → Prop} (ho : f.offset = o) (h : OpnP P T f.type n mk Q) : OpnPs P T [f] o n mk Q := by
  intro H enc W fuel cs xs hl hx hw hc
  obtain ⟨x, rfl⟩ : ∃ x, xs = [x] := by
    match xs, hl with
    | [x], _ => exact ⟨x, rfl⟩
  have h1 := hx 0 f rfl
  simp only [List.getElem?_cons_zero] at h1
  rw [ho, List.take_of_length_le (by rw [List.length_drop, ← h.1]; omega)] at h1
  obtain ⟨y, k, _, q⟩ := h.2 H enc W fuel _ x h1 (by simpa [DataW.weightsEach] using hw)
  exact ⟨y, k, q⟩
theorem opnPs_cons {α β : Type} {P : Program} {f : Go.Field} {fs : List Go.Field} {o n m : Nat} {a : α → List (LV D)} {b : β → List (LV D)} {Q1 : α → Prop} {Q2 : β → Prop} (ho : f.offset = o) (h1 : OpnP P T f.type n a Q1) (h2 : OpnPs P T fs (o + n) m b Q2) :
    OpnPs P T (f :: fs) o (n + m) (fun y : α × β => a y.1 ++ b y.2) (fun y => Q1 y.1 ∧ Q2 y.2) := by
  intro H enc W fuel cs xs hl hx hw hc
  obtain ⟨x, xs, rfl⟩ : ∃ x r, xs = x :: r := by
    cases xs with
    | nil => simp at hl
    | cons x r => exact ⟨x, r, rfl⟩
  have e1 := hx 0 f rfl
  simp only [List.getElem?_cons_zero] at e1
  simp only [List.map_cons, DataW.weightsEach, List.all_append, Bool.and_eq_true] at hw
  rw [ho, ← h1.1] at e1
  obtain ⟨y1, k1, _, q1⟩ := h1.2 H enc W fuel _ x e1 hw.1
  obtain ⟨y2, k2, q2⟩ := h2 H enc W fuel cs xs (by simpa using hl) (fun i g hg => by
    have := hx (i + 1) g (by simpa using hg)
    simpa using this) hw.2 (by omega)
  refine ⟨(y1, y2), ?_, q1, q2⟩
  have := k1.append k2
  rw [← List.drop_drop, List.take_append_drop] at this
  exact this
theorem opnP_struct {α : Type} {P : Program} {t : TypeId} {fs : Array Go.Field} {n : Nat} {mk : α → List (LV D)} {Q : α → Prop} (hu : P.underlying t = some (.struct fs)) (hc : n = P.cellsOf t) (h : OpnPs P T fs.toList 0 n mk Q) : OpnP P T t n mk Q := by
  refine ⟨hc, ?_⟩
  intro H enc W fuel cs x hx hw
  obtain ⟨xs, m, _, rfl, hl, hlen, hf⟩ := DataW.trod_struct hu hx
  obtain ⟨y, k, q⟩ := h H enc W m cs xs (by simpa using hlen) (fun i f hi => hf i f (by simpa using hi)) (by simpa [DataW.weights, hu] using hw) (by omega)
  exact ⟨y, by simpa using k, by omega, q⟩
theorem opnP_iso {α β : Type} {P : Program} {t : TypeId} {n : Nat} {mk : α → List (LV D)} {Q : α → Prop} (f : β → α) (g : α → β) (hg : ∀ y, f (g y) = y) (h : OpnP P T t n mk Q) : OpnP P T t n (fun x => mk (f x)) (fun x => Q (f x)) := by
  refine ⟨h.1, ?_⟩
  intro H enc W fuel cs x hx hw
  obtain ⟨y, hk, hl, hq⟩ := h.2 H enc W fuel cs x hx hw
  exact ⟨g y, by show F2 _ (mk (f (g y))) cs; rw [hg]; exact hk, hl, by show Q (f (g y)); rw [hg]; exact hq⟩
theorem opnP_use {α : Type} {P : Program} {t : TypeId} {n : Nat} {mk : α → List (LV D)} {Q : α → Prop} (h : OpnP P T t n mk Q) {H : Type} {enc : TypeId × Value → H} {W : World} {v : Value} {X : DataW H} {ps : List MemPlace} {ts : List TypeId} {ds : List (DataW H)} {j : Nat}
    (hsz : (DataW.weightsEach P ts ds).all (· ≤ reachBytes) = true) (ht : ts[j]? = some t) (hd : ds[j]? = some X) (hx : DataW.Trod enc P W 0 (fun _ => true) true t v X ps) : ∃ y, F2 (ERep T (allC W)) (mk y) v.cells.toList ∧ Q y := by
  obtain ⟨fuel, hf⟩ := hx
  obtain ⟨y, k, _, q⟩ := h.2 H enc W fuel _ (X, ps) hf (by
    rw [List.all_eq_true]
    intro n hn
    exact List.all_eq_true.1 hsz n (DataW.weights_mem_each ht hd n hn))
  exact ⟨y, k, q⟩
theorem trod_places' {P : Program} {H : Type} {enc : TypeId × Value → H} {W : World} {t : TypeId} {v : Value} {X : DataW H} {ps : List MemPlace} (h : DataW.Trod enc P W 0 (fun _ => true) true t v X ps) : ∀ x ∈ ps, x.block < W.heap.size := by
  obtain ⟨m, hm⟩ := h
  exact DataW.trod_lt m _ _ _ hm
theorem rep_one {C : Nat → Nat → Option Value} {blk : Nat → Nat} {l : LV D} {v : Value} (hv : v.cells.toList = [v]) (h : F2 (ERep T C) [l] v.cells.toList) : PRep T C blk (.one l) v := by
  rw [hv] at h
  cases h with
  | cons h _ => exact LRep_of_ERep h
theorem rep_agg {C : Nat → Nat → Option Value} {blk : Nat → Nat} {ls : List (LV D)} {cs : Array Value} (h : F2 (ERep T C) ls cs.toList) : PRep T C blk (.agg ls) (.agg cs) :=
  PRep_agg (h.map fun _ _ _ h => LRep_of_ERep h)
end Go.PM
