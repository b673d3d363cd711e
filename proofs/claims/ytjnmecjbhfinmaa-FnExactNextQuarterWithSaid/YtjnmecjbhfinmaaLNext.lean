/- The quarters at which a bell is played: one comes in each whole round. -/
import Derived.Test.YtjnmecjbhfinmaaLBells
import Derived.Test.YtjnmecjbhfinmaaFImplNextQuarterWith
import Derived.Test.YtjnmecjbhfinmaaFSpecNextQuarterWith
namespace Go.Proofs.Ytjnmecjbhfinmaa.P
open Go.RowKit Go.Proofs.YtjnmecjbhfinmaaW.PrintWords Go.Proofs.YtjnmecjbhfinmaaW.PrintLast
set_option linter.unusedVariables false
set_option linter.unusedSimpArgs false

theorem count_addAll (l : List ByteArray) (c : UInt8) : ∀ (L : List Int) (acc : ByteArray), (addAll l acc L).data.toList.count c = acc.data.toList.count c + (L.map fun x => (rdOf ByteArray.empty l x).data.toList.count c).sum
  | [], acc => by simp [addAll]
  | x :: L, acc => by
    rw [addAll, count_addAll l c L]
    simp only [List.map_cons, List.sum_cons]
    have : (acc ++ rdOf ByteArray.empty l x).data.toList = acc.data.toList ++ (rdOf ByteArray.empty l x).data.toList := by simp
    rw [this, List.count_append]
    omega
theorem size_addAll (l : List ByteArray) (hs : ∀ s ∈ l, s.size ≤ 8) : ∀ (L : List Int) (acc : ByteArray), (∀ x ∈ L, 0 ≤ x ∧ x < l.length) → (addAll l acc L).size ≤ acc.size + 8 * L.length
  | [], acc, _ => by simp [addAll]
  | x :: L, acc, h => by
    have hb := h x List.mem_cons_self
    have ih := size_addAll l hs L (acc ++ rdOf ByteArray.empty l x) (fun y hy => h y (List.mem_cons_of_mem _ hy))
    have hsz : (rdOf ByteArray.empty l x).size ≤ 8 := by
      obtain ⟨j, hj⟩ : ∃ j : Nat, x = j := ⟨x.toNat, by omega⟩
      rw [hj, rdS l j (by omega)]
      exact hs _ (List.getElem_mem _)
    rw [addAll]
    rw [ByteArray.size_append] at ih
    rw [List.length_cons]
    omega
theorem notesOf_size (l : List ByteArray) (ht : tuneOk l = true) {q : Int} (h : 0 ≤ q) : (notesOf l q).size ≤ 32 := by
  obtain ⟨h1, h2, hs⟩ := tuneOk_facts ht
  have := size_addAll l (fun s h => (hs s h).2) (plays l.length (before q) (cnt q)) (⟨#[]⟩ : ByteArray) (plays_in _ h1 _ _)
  have hc := (cnt_eq h).2
  rw [plays_length] at this
  have e : (⟨#[]⟩ : ByteArray).size = 0 := rfl
  unfold notesOf
  omega
theorem sum_pos : ∀ (L : List Nat), 0 < L.sum ↔ ∃ x ∈ L, 0 < x
  | [] => by simp
  | x :: L => by
    have ih := sum_pos L
    simp only [List.sum_cons, List.mem_cons]
    constructor
    · intro h
      by_cases e : 0 < x
      · exact ⟨x, Or.inl rfl, e⟩
      · obtain ⟨y, hy, h2⟩ := ih.1 (by omega)
        exact ⟨y, Or.inr hy, h2⟩
    · rintro ⟨y, rfl | hy, h2⟩
      · omega
      · have := ih.2 ⟨y, hy, h2⟩; omega
theorem bellN_notes (l : List ByteArray) (b q : Int) : bellN (notesOf l q) b = ((plays l.length (before q) (cnt q)).map fun x => bellN (rdOf ByteArray.empty l x) b).sum := by
  unfold bellN notesOf
  rw [count_addAll]
  simp
theorem notes_bell_iff (l : List ByteArray) (b : Int) (q : Int) : 0 < bellN (notesOf l q) b ↔ ∃ x ∈ plays l.length (before q) (cnt q), 0 < bellN (rdOf ByteArray.empty l x) b := by
  rw [bellN_notes, sum_pos]
  simp only [List.mem_map]
  constructor
  · rintro ⟨y, ⟨x, hx, rfl⟩, h⟩
    exact ⟨x, hx, h⟩
  · rintro ⟨x, hx, h⟩
    exact ⟨_, ⟨x, hx, rfl⟩, h⟩
theorem notes_nobell (l : List ByteArray) (h1 : 1 ≤ l.length) {b : Int} (hb : hasBell l b = false) (q : Int) : ¬ 0 < bellN (notesOf l q) b := by
  rw [notes_bell_iff]
  rintro ⟨x, hx, h⟩
  have hi := plays_in l.length h1 _ _ x hx
  obtain ⟨j, hj⟩ : ∃ j : Nat, x = j := ⟨x.toNat, by omega⟩
  have hjl : j < l.length := by omega
  rw [hj, rdS l j hjl] at h
  have : hasBell l b = true := by
    unfold hasBell
    rw [List.any_eq_true]
    exact ⟨l[j], List.getElem_mem hjl, by simpa using h⟩
  rw [hb] at this
  cases this
theorem before_find {q : Int} (h : 0 ≤ q) (K : Int) (h0 : before q ≤ K) : ∀ d : Nat, K < before (q + d) → ∃ j : Nat, j < d ∧ before (q + j) ≤ K ∧ K < before (q + j + 1)
  | 0, hd => by simp at hd; omega
  | d + 1, hd => by
    by_cases e : K < before (q + d)
    · obtain ⟨j, hj, h1, h2⟩ := before_find h K h0 d e
      exact ⟨j, by omega, h1, h2⟩
    · refine ⟨d, by omega, by omega, ?_⟩
      rw [show q + (d : Int) + 1 = q + ((d + 1 : Nat) : Int) by omega]
      exact hd
theorem before_round {q : Int} (h : 0 ≤ q) (n : Int) : before (q + 4 * n) = before q + 10 * n := by
  unfold before
  have e1 : (q + 4 * n) % 4 = q % 4 := by omega
  have e2 : (q + 4 * n) / 4 = q / 4 + n := by omega
  rw [e1, e2]; omega
theorem ten_hours {l : List ByteArray} (h1 : 1 ≤ l.length) : (l.length : Int) ≤ 10 * hoursOf l := by
  unfold hoursOf
  have hg : 0 < Int.gcd l.length 10 := Int.gcd_pos_of_ne_zero_right _ (by omega)
  have hd : (Int.gcd l.length 10 : Int) ∣ (l.length : Int) := Int.gcd_dvd_left ..
  have hd2 : (Int.gcd l.length 10 : Int) ∣ 10 := Int.gcd_dvd_right ..
  have hle := Int.le_of_dvd (by omega) hd2
  obtain ⟨c, hc⟩ := hd
  have hpos : (Int.gcd l.length 10 : Int) ≠ 0 := by omega
  have e : (l.length : Int) / (Int.gcd l.length 10 : Int) = c := Int.ediv_eq_of_eq_mul_right hpos hc
  have hc0 : 0 ≤ c := by rw [← e]; exact Int.ediv_nonneg (by omega) (by omega)
  rw [e]
  have := Int.mul_le_mul_of_nonneg_right hle hc0
  omega
theorem next_exists (l : List ByteArray) (ht : tuneOk l = true) {b : Int} (hb : hasBell l b = true) {q : Int} (h : 0 ≤ q) : ∃ j : Nat, (j : Int) < 4 * hoursOf l ∧ 0 < bellN (notesOf l (q + j)) b := by
  obtain ⟨h1, h2, hs⟩ := tuneOk_facts ht
  have hh := hours_bounds h1 h2
  have ht' := ten_hours h1
  unfold hasBell at hb
  rw [List.any_eq_true] at hb
  obtain ⟨s, hs', hp⟩ := hb
  obtain ⟨p, hp1, rfl⟩ := List.getElem_of_mem hs'
  have hn : (0 : Int) < l.length := by omega
  have a1 := Int.emod_nonneg ((p : Int) - before q) (b := l.length) (by omega)
  have a2 := Int.emod_lt_of_pos ((p : Int) - before q) hn
  obtain ⟨j, hj, hk1, hk2⟩ := before_find h (before q + ((p : Int) - before q) % l.length) (by omega) (4 * hoursOf l).toNat (by
    rw [show q + ((4 * hoursOf l).toNat : Int) = q + 4 * hoursOf l by omega, before_round h]
    omega)
  have hst := before_step (q := q + j) (by omega)
  refine ⟨j, by omega, (notes_bell_iff l b _).2 ⟨(p : Int), ?_, ?_⟩⟩
  · unfold plays
    rw [List.mem_map]
    refine ⟨(before q + ((p : Int) - before q) % l.length - before (q + j)).toNat, ?_, ?_⟩
    · rw [List.mem_range]
      unfold cnt
      omega
    · rw [show before (q + j) + ((before q + ((p : Int) - before q) % l.length - before (q + j)).toNat : Int) = before q + ((p : Int) - before q) % l.length by omega, Int.add_emod, Int.emod_emod_of_dvd _ (Int.dvd_refl _), ← Int.add_emod, show before q + ((p : Int) - before q) = p by omega, Int.emod_eq_of_lt (by omega) (by omega)]
  · rw [rdS l p hp1]
    exact of_decide_eq_true hp
theorem index_ev (L : List Int) (x : Int) (hn : L.length ≤ 1000000) : ∀ (d i : Nat), i + d = L.length → ∃ r : Int, Ev (fun k => slices_Index_int.l0 k L x L.length i) r ∧ (0 ≤ r ↔ x ∈ L.drop i) := by
  intro d
  induction d with
  | zero =>
    intro i hi
    refine ⟨-1, ev_succ ?_, ?_⟩
    · simp only [slices_Index_int.l0]
      exact ev_neg (by omega) (Ev.now _)
    · rw [List.drop_eq_nil_of_le (by omega)]; simp
  | succ d ih =>
    intro i hi
    have hlt : i < L.length := by omega
    by_cases e : x = L[i]
    · refine ⟨i, ev_succ ?_, ?_⟩
      · simp only [slices_Index_int.l0]
        refine ev_pos (by omega) (ev_pos (by omega) (ev_pos (by omega) ?_))
        rw [rdI L i hlt]
        exact ev_pos e (Ev.now _)
      · rw [List.drop_eq_getElem_cons hlt, ← e]; simp
    · obtain ⟨r, hr, hm⟩ := ih (i + 1) (by omega)
      refine ⟨r, ev_succ ?_, ?_⟩
      · simp only [slices_Index_int.l0]
        refine ev_pos (by omega) (ev_pos (by omega) (ev_pos (by omega) ?_))
        rw [rdI L i hlt, wrap_succ (n := 1000000) (by omega) (by omega)]
        exact ev_neg e hr
      · rw [List.drop_eq_getElem_cons hlt, List.mem_cons, hm]; exact ⟨Or.inr, fun h => h.resolve_left e⟩
theorem contains_ev (L : List Int) (x : Int) (hn : L.length ≤ 1000000) : Ev (fun k => slices_Contains_int.f k L x) (decide (x ∈ L)) := by
  obtain ⟨r, hr, hm⟩ := index_ev L x hn L.length 0 (by omega)
  unfold slices_Contains_int.f slices_Index_int.f
  refine Ev.bind hr (ev_const ?_)
  rw [List.drop_zero] at hm
  simp only [ge_iff_le, hm]
theorem mem_bellsL (l : List ByteArray) {b : Int} (h1 : 1 ≤ b) (h2 : b ≤ 8) : decide (b ∈ bellsL l 8) = hasBell l b := by
  rw [Bool.eq_iff_iff, decide_eq_true_eq]
  unfold bellsL
  simp only [List.mem_map, List.mem_filter, List.mem_range]
  constructor
  · rintro ⟨a, ⟨_, h⟩, rfl⟩
    exact h
  · intro h
    exact ⟨(b - 1).toNat, ⟨by omega, by rw [show ((b - 1).toNat : Int) + 1 = b by omega]; exact h⟩, by omega⟩
theorem next_both (l : List ByteArray) (ht : tuneOk l = true) {b : Int} (h1 : 1 ≤ b) (h2 : b ≤ 8) {q : Int} (h : 0 ≤ q) (hq : q ≤ 1000000) : ∀ (d i : Nat), i + d = (4 * hoursOf l).toNat → (∃ j : Nat, i ≤ j ∧ (j : Int) < 4 * hoursOf l ∧ 0 < bellN (notesOf l (q + j)) b) →
    ∃ r : Int, Ev (fun k => impl_NextQuarterWith.l0 k l b (q + i)) (r, true) ∧ Ev (fun k => spec_NextQuarterWith.l0 k l b q i) (r, true) := by
  obtain ⟨t1, t2, hs⟩ := tuneOk_facts ht
  have hh := hours_bounds t1 t2
  intro d
  induction d with
  | zero =>
    rintro i hi ⟨j, hj, hj2, _⟩
    omega
  | succ d ih =>
    rintro i hi ⟨j, hj, hj2, hj3⟩
    have hsz := notesOf_size l ht (q := q + i) (by omega)
    by_cases e : 0 < bellN (notesOf l (q + i)) b
    · refine ⟨q + i, ev_succ ?_, ev_succ ?_⟩
      · simp only [impl_NextQuarterWith.l0]
        refine Ev.bind (notes_ev l ht (by omega) (by omega)) ?_
        rw [show impl_bellText.f b = some (strOfNums [48 + b]) from if_pos (by omega)]
        simp only [Option.bind_some, contains_bell]
        exact ev_pos (decide_eq_true e) (Ev.now _)
      · simp only [spec_NextQuarterWith.l0]
        refine Ev.bind (beHours_ev l t1 t2) ?_
        rw [wsm (n := 4 * hoursOf l) (by omega) (by omega), wsm (n := q + (i : Int)) (by omega) (by omega)]
        refine ev_pos (by omega) ?_
        refine Ev.bind (beNotes_ev l ht (by omega) (by omega)) ?_
        refine Ev.bind (beBell_ev _ h1 h2 (by omega)) ?_
        exact ev_pos (by omega) (Ev.now _)
    · obtain ⟨r, hr1, hr2⟩ := ih (i + 1) (by omega) ⟨j, by
        rcases Nat.lt_or_ge i j with z | z
        · exact z
        · have : i = j := by omega
          subst this
          exact absurd hj3 e, hj2, hj3⟩
      refine ⟨r, ev_succ ?_, ev_succ ?_⟩
      · simp only [impl_NextQuarterWith.l0]
        refine Ev.bind (notes_ev l ht (by omega) (by omega)) ?_
        rw [show impl_bellText.f b = some (strOfNums [48 + b]) from if_pos (by omega)]
        simp only [Option.bind_some, contains_bell]
        refine ev_neg (by simpa using e) ?_
        rw [wsm (n := q + (i : Int) + 1) (by omega) (by omega), show q + (i : Int) + 1 = q + ((i + 1 : Nat) : Int) by omega]
        exact hr1
      · simp only [spec_NextQuarterWith.l0]
        refine Ev.bind (beHours_ev l t1 t2) ?_
        rw [wsm (n := 4 * hoursOf l) (by omega) (by omega), wsm (n := q + (i : Int)) (by omega) (by omega), wrap_succ (n := 1000) (by omega) (by omega)]
        refine ev_pos (by omega) ?_
        refine Ev.bind (beNotes_ev l ht (by omega) (by omega)) ?_
        refine Ev.bind (beBell_ev _ h1 h2 (by omega)) ?_
        exact ev_neg (by omega) hr2
theorem next_none (l : List ByteArray) (ht : tuneOk l = true) {b : Int} (h1 : 1 ≤ b) (h2 : b ≤ 8) (hb : hasBell l b = false) {q : Int} (h : 0 ≤ q) (hq : q ≤ 1000000) : ∀ (d i : Nat), i + d = (4 * hoursOf l).toNat → Ev (fun k => spec_NextQuarterWith.l0 k l b q i) (0, false) := by
  obtain ⟨t1, t2, hs⟩ := tuneOk_facts ht
  have hh := hours_bounds t1 t2
  intro d
  induction d with
  | zero =>
    intro i hi
    refine ev_succ ?_
    simp only [spec_NextQuarterWith.l0]
    refine Ev.bind (beHours_ev l t1 t2) ?_
    rw [wsm (n := 4 * hoursOf l) (by omega) (by omega)]
    exact ev_neg (by omega) (Ev.now _)
  | succ d ih =>
    intro i hi
    have hsz := notesOf_size l ht (q := q + i) (by omega)
    have := notes_nobell l t1 hb (q + i)
    refine ev_succ ?_
    simp only [spec_NextQuarterWith.l0]
    refine Ev.bind (beHours_ev l t1 t2) ?_
    rw [wsm (n := 4 * hoursOf l) (by omega) (by omega), wsm (n := q + (i : Int)) (by omega) (by omega), wrap_succ (n := 1000) (by omega) (by omega)]
    refine ev_pos (by omega) ?_
    refine Ev.bind (beNotes_ev l ht (by omega) (by omega)) ?_
    refine Ev.bind (beBell_ev _ h1 h2 (by omega)) ?_
    exact ev_neg (by omega) (ih (i + 1) (by omega))
theorem isQuarter_ev (l : List ByteArray) (hs : ∀ s ∈ l, s.size ≤ 9223372036854775807) (q : Int) : Ev (fun k => impl_isQuarter.f k l q) (tuneOk l && wi q 0 1000000) := by
  unfold impl_isQuarter.f
  simp only [within_eq, Option.bind_some]
  exact ev_both (isTune_ev l hs) (fun _ => Ev.now _)
theorem beAsked_ev (l : List ByteArray) (hs : ∀ s ∈ l, s.size ≤ 9223372036854775807) (q : Int) : Ev (fun k => spec_beAsked.f k l q) (tuneOk l && wi q 0 1000000) := by
  unfold spec_beAsked.f
  simp only [l1In_eq, Option.bind_some]
  exact ev_both (beTune_ev l hs) (fun _ => Ev.now _)
theorem isBell_eq (b : Int) : impl_isBell.f b = some (wi b 1 8) := by unfold impl_isBell.f; rw [within_eq]; rfl
theorem beIs_eq (b : Int) : spec_beIs.f b = some (wi b 1 8) := by unfold spec_beIs.f; rw [l1In_eq]; rfl
/-- The program and the reference name the same next quarter. -/
theorem nextQ (l : List ByteArray) (hs : ∀ s ∈ l, s.size ≤ 9223372036854775807) (b q : Int) : ∃ r : Int × Bool, Ev (fun k => impl_NextQuarterWith.f k l b q) r ∧ Ev (fun k => spec_NextQuarterWith.f k l b q) r := by
  by_cases c1 : (tuneOk l && wi q 0 1000000) = true
  · by_cases c2 : wi b 1 8 = true
    · have c1' := c1
      simp only [Bool.and_eq_true, wi_true] at c1'
      obtain ⟨ht, hq⟩ := c1'
      have hb := c2
      rw [wi_true] at hb
      have htf := tuneOk_facts ht
      have hsp : ∀ r, Ev (fun k => spec_NextQuarterWith.l0 k l b q 0) r → Ev (fun k => spec_NextQuarterWith.f k l b q) r := fun r hr => by
        unfold spec_NextQuarterWith.f
        simp only [beIs_eq, Option.bind_some]
        refine Ev.bind (beAsked_ev l hs q) (ev_pos c1 (ev_succ ?_))
        simp only [spec_NextQuarterWith.j0, c2, Bool.not_true, Bool.false_eq_true, if_false]
        exact hr
      have him : ∀ r, Ev (fun k => impl_NextQuarterWith.j0 k l b q (!hasBell l b)) r → Ev (fun k => impl_NextQuarterWith.f k l b q) r := fun r hr => by
        unfold impl_NextQuarterWith.f
        simp only [isBell_eq, Option.bind_some]
        refine Ev.bind (isQuarter_ev l hs q) (ev_pos c1 (ev_pos c2 ?_))
        refine Ev.bind (impl_bells_ev l ht) ?_
        have := contains_ev (bellsL l 8) b (by have := bellsL_le l 8; omega)
        rw [mem_bellsL l hb.1 hb.2] at this
        exact Ev.bind this hr
      by_cases hB : hasBell l b = true
      · obtain ⟨j, hj, hj2⟩ := next_exists l ht hB hq.1
        obtain ⟨r, hr1, hr2⟩ := next_both l ht hb.1 hb.2 hq.1 hq.2 (4 * hoursOf l).toNat 0 (by omega) ⟨j, by omega, hj, hj2⟩
        refine ⟨_, him _ (ev_succ ?_), hsp _ hr2⟩
        simp only [impl_NextQuarterWith.j0, hB, Bool.not_true, Bool.false_eq_true, if_false]
        simpa using hr1
      · simp only [Bool.not_eq_true] at hB
        refine ⟨_, him _ (ev_succ ?_), hsp _ (next_none l ht hb.1 hb.2 hB hq.1 hq.2 (4 * hoursOf l).toNat 0 (by omega))⟩
        simp only [impl_NextQuarterWith.j0, hB, Bool.not_false, if_true]
        exact Ev.now _
    · refine ⟨(0, false), ?_, ?_⟩
      · unfold impl_NextQuarterWith.f
        simp only [isBell_eq, Option.bind_some]
        refine Ev.bind (isQuarter_ev l hs q) (ev_pos c1 (ev_neg c2 (ev_succ ?_)))
        simp only [impl_NextQuarterWith.j0, if_true]
        exact Ev.now _
      · unfold spec_NextQuarterWith.f
        simp only [beIs_eq, Option.bind_some]
        refine Ev.bind (beAsked_ev l hs q) (ev_pos c1 (ev_succ ?_))
        simp only [Bool.not_eq_true] at c2
        simp only [spec_NextQuarterWith.j0, c2, Bool.not_false, if_true]
        exact Ev.now _
  · refine ⟨(0, false), ?_, ?_⟩
    · unfold impl_NextQuarterWith.f
      refine Ev.bind (isQuarter_ev l hs q) (ev_neg c1 (ev_succ ?_))
      simp only [impl_NextQuarterWith.j0, if_true]
      exact Ev.now _
    · unfold spec_NextQuarterWith.f
      refine Ev.bind (beAsked_ev l hs q) (ev_neg c1 (ev_succ ?_))
      simp only [spec_NextQuarterWith.j0, if_true]
      exact Ev.now _

end Go.Proofs.Ytjnmecjbhfinmaa.P
