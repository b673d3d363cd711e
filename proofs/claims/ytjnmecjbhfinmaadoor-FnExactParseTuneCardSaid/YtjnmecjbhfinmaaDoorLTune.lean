/- Tunes: what is a tune, and what is played at a quarter, told by the program and by the reference alike. -/
import Derived.Test.YtjnmecjbhfinmaaDoorLNum
import Derived.Test.YtjnmecjbhfinmaaDoorLGcd
import Derived.Test.YtjnmecjbhfinmaaDoorFImplIsTune
import Derived.Test.YtjnmecjbhfinmaaDoorFSpecBeTune
import Derived.Test.YtjnmecjbhfinmaaDoorFImplNotes
import Derived.Test.YtjnmecjbhfinmaaDoorFSpecBeNotes
import Derived.Test.YtjnmecjbhfinmaaDoorFImplHours
import Derived.Test.YtjnmecjbhfinmaaDoorFSpecBeHours
namespace Go.Proofs.YtjnmecjbhfinmaaDoor.P
open Go.RowKit Go.Proofs.YtjnmecjbhfinmaaDoorW.PrintWords Go.Proofs.YtjnmecjbhfinmaaDoorW.PrintLast
set_option linter.unusedVariables false
set_option linter.unusedSimpArgs false

/-- The bytes from i on are notes. -/
def okFrom (s : ByteArray) : Nat → Nat → Bool
  | 0, _ => true
  | d + 1, i => (decide (49 ≤ bt s i) && decide (bt s i ≤ 56)) && okFrom s d (i + 1)
def phraseOk (s : ByteArray) : Bool := okFrom s s.size 0 && wi s.size 1 8
def tuneOk (l : List ByteArray) : Bool := wi l.length 1 12 && l.all phraseOk
theorem isPhrase_l (s : ByteArray) (hs : s.size ≤ 9223372036854775807) : ∀ (d i : Nat), i + d = s.size → ∀ k, d < k → impl_isPhrase.l0 k s s.size i = some (okFrom s d i && wi s.size 1 8) := by
  intro d
  induction d with
  | zero =>
    intro i hi k hk
    obtain ⟨k, rfl⟩ : ∃ m, k = m + 1 := ⟨k - 1, by omega⟩
    simp only [impl_isPhrase.l0, okFrom, Bool.true_and, within_eq, Option.bind_some]
    rw [if_neg (by omega)]
  | succ d ih =>
    intro i hi k hk
    obtain ⟨k, rfl⟩ : ∃ m, k = m + 1 := ⟨k - 1, by omega⟩
    simp only [impl_isPhrase.l0, okFrom]
    rw [if_pos (by omega), if_pos (by omega), if_pos (by omega), wrap_succ (n := s.size) (by omega) hs]
    by_cases h1 : bt s i < 49
    · rw [if_pos h1, decide_eq_false (by omega)]; rfl
    · rw [if_neg h1, decide_eq_true (by omega)]
      by_cases h2 : bt s i > 56
      · rw [if_pos h2, decide_eq_false (by omega)]; rfl
      · rw [if_neg h2, decide_eq_true (by omega), ih (i + 1) (by omega) k (by omega)]; rfl
theorem isPhrase_ev (s : ByteArray) (hs : s.size ≤ 9223372036854775807) : Ev (fun k => impl_isPhrase.f k s) (phraseOk s) :=
  ⟨s.size + 1, fun k hk => isPhrase_l s hs s.size 0 (by omega) k (by omega)⟩
/-- Rounds enough for all elements. -/
theorem ev_all {α : Type} {q : Nat → α → Option Bool} {p : α → Bool} (l : List α) (h : ∀ x ∈ l, Ev (fun k => q k x) (p x)) : Ev (fun k => anyO (q k) l) (l.any p) := by
  induction l with
  | nil => exact Ev.now _
  | cons x l ih =>
    simp only [anyO, List.any_cons]
    refine Ev.bind (h x List.mem_cons_self) ?_
    cases p x
    · simp only [Bool.false_eq_true, if_false, Bool.false_or]
      exact ih (fun y hy => h y (List.mem_cons_of_mem _ hy))
    · simp only [if_true, Bool.true_or]
      exact Ev.now _
theorem any_not {α : Type} (p : α → Bool) (l : List α) : (!l.any fun x => !p x) = l.all p := by
  induction l with
  | nil => rfl
  | cons x l ih => simp only [List.any_cons, List.all_cons, Bool.not_or, Bool.not_not, ih]
theorem isTune_ev (l : List ByteArray) (hs : ∀ s ∈ l, s.size ≤ 9223372036854775807) : Ev (fun k => impl_IsTune.f k l) (tuneOk l) := by
  unfold impl_IsTune.f tuneOk
  simp only [within_eq, Option.bind_some]
  by_cases h0 : wi l.length 1 12 = true
  · simp only [h0, if_true, Bool.true_and]
    rw [← any_not]
    exact Ev.bind (ev_all (p := fun x => !phraseOk x) l (fun x hx => Ev.bind (isPhrase_ev x (hs x hx)) (Ev.now _))) (Ev.now _)
  · simp only [Bool.not_eq_true] at h0; simp only [h0, Bool.false_eq_true, if_false, Bool.false_and]; exact Ev.now _
theorem beTune_in (l : List ByteArray) (n : Int) (i : Nat) (s : ByteArray) (hs : s.size ≤ 9223372036854775807) (b : Bool) : ∀ (d j : Nat), j + d = s.size →
    (okFrom s d j = true → Ev (fun k => spec_beTune.l0 k l n (wrap64 ((i : Int) + 1))) b) → Ev (fun k => spec_beTune.l1 k s j l n i) (okFrom s d j && b) := by
  intro d
  induction d with
  | zero =>
    intro j hj h
    refine ev_succ ?_
    simp only [spec_beTune.l1, okFrom, Bool.true_and]
    exact ev_neg (by omega) (h rfl)
  | succ d ih =>
    intro j hj h
    refine ev_succ ?_
    simp only [spec_beTune.l1]
    refine ev_pos (by omega) (ev_pos (by omega) ?_)
    rw [wrap_succ (n := s.size) (by omega) hs]
    simp only [okFrom] at h ⊢
    by_cases h1 : bt s j < 49
    · rw [decide_eq_false (by omega)]
      exact ev_pos h1 (Ev.now _)
    · rw [decide_eq_true (by omega)] at h ⊢
      refine ev_neg h1 ?_
      by_cases h2 : bt s j > 56
      · rw [decide_eq_false (by omega)]
        exact ev_pos h2 (Ev.now _)
      · rw [decide_eq_true (by omega)] at h ⊢
        refine ev_neg h2 ?_
        simp only [Bool.true_and] at h ⊢
        exact ih (j + 1) (by omega) h
theorem beTune_l (l : List ByteArray) (hn : l.length ≤ 12) (hs : ∀ s ∈ l, s.size ≤ 9223372036854775807) : ∀ (d i : Nat), i + d = l.length → Ev (fun k => spec_beTune.l0 k l l.length i) ((l.drop i).all phraseOk) := by
  intro d
  induction d with
  | zero =>
    intro i hi
    refine ev_succ ?_
    simp only [spec_beTune.l0]
    refine ev_neg (by omega) ?_
    rw [List.drop_eq_nil_of_le (by omega)]
    exact Ev.now _
  | succ d ih =>
    intro i hi
    have hlt : i < l.length := by omega
    refine ev_succ ?_
    simp only [spec_beTune.l0]
    refine ev_pos (by omega) (ev_pos (by omega) (ev_pos (by omega) ?_))
    rw [rdS l i hlt, l1In_eq, List.drop_eq_getElem_cons hlt, List.all_cons]
    simp only [Option.bind_some]
    by_cases h1 : wi l[i].size 1 8 = true
    · refine ev_pos h1 ?_
      have := beTune_in l l.length i l[i] (hs _ (List.getElem_mem hlt)) ((l.drop (i + 1)).all phraseOk) l[i].size 0 (by omega) (fun _ => by
        rw [wrap_succ (n := 20) (by omega) (by omega)]
        exact ih (i + 1) (by omega))
      unfold phraseOk at this ⊢
      rw [h1, Bool.and_true]
      exact this
    · refine ev_neg h1 ?_
      simp only [Bool.not_eq_true] at h1
      have : phraseOk l[i] = false := by unfold phraseOk; rw [h1, Bool.and_false]
      rw [this, Bool.false_and]
      exact Ev.now _
theorem beTune_ev (l : List ByteArray) (hs : ∀ s ∈ l, s.size ≤ 9223372036854775807) : Ev (fun k => spec_beTune.f k l) (tuneOk l) := by
  unfold spec_beTune.f tuneOk
  simp only [l1In_eq, Option.bind_some]
  by_cases h0 : wi l.length 1 12 = true
  · simp only [h0, if_true, Bool.true_and]
    rw [wi_true] at h0
    have := beTune_l l (by omega) hs l.length 0 (by omega)
    simpa using this
  · simp only [Bool.not_eq_true] at h0; simp only [h0, Bool.false_eq_true, if_false, Bool.false_and]; exact Ev.now _
theorem tuneOk_facts {l : List ByteArray} (h : tuneOk l = true) : 1 ≤ l.length ∧ l.length ≤ 12 ∧ ∀ s ∈ l, 1 ≤ s.size ∧ s.size ≤ 8 := by
  simp only [tuneOk, Bool.and_eq_true, wi_true, List.all_eq_true] at h
  refine ⟨by omega, by omega, fun s hs => ?_⟩
  have := h.2 s hs
  simp only [phraseOk, Bool.and_eq_true, wi_true] at this
  omega
/-- How many phrases are played before a quarter. -/
def before (q : Int) : Int := q / 4 * 10 + q % 4 * (q % 4 + 1) / 2
theorem before_step {q : Int} (h : 0 ≤ q) : before (q + 1) = before q + (q % 4 + 1) := by
  unfold before
  have h0 : q % 4 = 0 ∨ q % 4 = 1 ∨ q % 4 = 2 ∨ q % 4 = 3 := by omega
  rcases h0 with h0 | h0 | h0 | h0
  · have e1 : (q + 1) % 4 = 1 := by omega
    have e2 : (q + 1) / 4 = q / 4 := by omega
    rw [h0, e1, e2]; omega
  · have e1 : (q + 1) % 4 = 2 := by omega
    have e2 : (q + 1) / 4 = q / 4 := by omega
    rw [h0, e1, e2]; omega
  · have e1 : (q + 1) % 4 = 3 := by omega
    have e2 : (q + 1) / 4 = q / 4 := by omega
    rw [h0, e1, e2]; omega
  · have e1 : (q + 1) % 4 = 0 := by omega
    have e2 : (q + 1) / 4 = q / 4 + 1 := by omega
    rw [h0, e1, e2]; omega
theorem before_bounds {q : Int} (h : 0 ≤ q) (h2 : q ≤ 1000000000000) : 0 ≤ before q ∧ before q ≤ 3000000000000 := by
  unfold before
  have h0 : q % 4 = 0 ∨ q % 4 = 1 ∨ q % 4 = 2 ∨ q % 4 = 3 := by omega
  rcases h0 with h0 | h0 | h0 | h0 <;> rw [h0] <;> omega
theorem played_eq {q : Int} (h : 0 ≤ q) (h2 : q ≤ 1000000000000) : impl_played.f q = some (before q) := by
  unfold impl_played.f before
  rw [Int.tdiv_eq_ediv_of_nonneg h, Int.tmod_eq_emod_of_nonneg h]
  have h0 : q % 4 = 0 ∨ q % 4 = 1 ∨ q % 4 = 2 ∨ q % 4 = 3 := by omega
  have e : wrap64 (q / 4) = q / 4 := wsm (by omega) (by omega)
  rw [e]
  have e2 : wrap64 (q / 4 * 10) = q / 4 * 10 := wsm (by omega) (by omega)
  rw [e2]
  rcases h0 with h0 | h0 | h0 | h0 <;> rw [h0] <;> congr 1 <;> rw [wsm] <;> simp [wrap64] <;> omega
theorem beBefore_eq {q : Int} (h : 0 ≤ q) (h2 : q ≤ 1000000000000) : spec_beBefore.f q = some (before q) := played_eq h h2
def plays (n : Nat) (b : Int) (d : Nat) : List Int := (List.range d).map fun (j : Nat) => (b + j) % n
theorem plays_length (n : Nat) (b : Int) (d : Nat) : (plays n b d).length = d := by simp [plays]
theorem plays_succ (n : Nat) (b : Int) (d : Nat) : plays n b (d + 1) = plays n b d ++ [(b + d) % n] := by simp [plays, List.range_succ]
def cnt (q : Int) : Nat := (q % 4 + 1).toNat
theorem cnt_eq {q : Int} (h : 0 ≤ q) : (cnt q : Int) = q % 4 + 1 ∧ cnt q ≤ 4 := by unfold cnt; omega
theorem phrases_l (l : List ByteArray) (h1 : 1 ≤ l.length) {q : Int} (h : 0 ≤ q) (h2 : q ≤ 100000000000) : ∀ (d i : Nat), i + d = cnt q → Ev (fun k => impl_phrases.l0 k l q (plays l.length (before q) i) (before q + i)) (plays l.length (before q) (cnt q)) := by
  have hb := before_bounds h (by omega)
  have hc := cnt_eq h
  have hst := before_step h
  intro d
  induction d with
  | zero =>
    intro i hi
    refine ev_succ ?_
    simp only [impl_phrases.l0]
    rw [wsm (n := q + 1) (by omega) (by omega), played_eq (by omega) (by omega)]
    simp only [Option.bind_some]
    refine ev_neg (by omega) ?_
    rw [show i = cnt q by omega]
    exact Ev.now _
  | succ d ih =>
    intro i hi
    refine ev_succ ?_
    simp only [impl_phrases.l0]
    rw [wsm (n := q + 1) (by omega) (by omega), played_eq (by omega) (by omega)]
    simp only [Option.bind_some]
    refine ev_pos (by omega) (ev_neg (by omega) (ev_pos (by rw [plays_length]; omega) ?_))
    rw [Int.tmod_eq_emod_of_nonneg (by omega), ← plays_succ, wsm (n := before q + i + 1) (by omega) (by omega)]
    have := ih (i + 1) (by omega)
    rw [show before q + ((i + 1 : Nat) : Int) = before q + i + 1 by omega] at this
    exact this
theorem phrases_ev (l : List ByteArray) (h1 : 1 ≤ l.length) {q : Int} (h : 0 ≤ q) (h2 : q ≤ 100000000000) : Ev (fun k => impl_phrases.f k l q) (plays l.length (before q) (cnt q)) := by
  unfold impl_phrases.f
  rw [played_eq h (by omega)]
  simp only [Option.bind_some]
  have := phrases_l l h1 h h2 (cnt q) 0 (by omega)
  simpa [plays] using this
theorem plays_l (l : List ByteArray) (h1 : 1 ≤ l.length) {q : Int} (h : 0 ≤ q) (h2 : q ≤ 100000000000) : ∀ (d i : Nat), i + d = cnt q → Ev (fun k => spec_bePlays.l0 k l q (plays l.length (before q) i) i) (plays l.length (before q) (cnt q)) := by
  have hb := before_bounds h (by omega)
  have hc := cnt_eq h
  intro d
  induction d with
  | zero =>
    intro i hi
    refine ev_succ ?_
    simp only [spec_bePlays.l0]
    rw [Int.tmod_eq_emod_of_nonneg h]
    refine ev_neg (by omega) ?_
    rw [show i = cnt q by omega]
    exact Ev.now _
  | succ d ih =>
    intro i hi
    refine ev_succ ?_
    simp only [spec_bePlays.l0]
    rw [Int.tmod_eq_emod_of_nonneg h, beBefore_eq h (by omega)]
    simp only [Option.bind_some]
    refine ev_pos (by omega) (ev_neg (by omega) (ev_pos (by rw [plays_length]; omega) ?_))
    rw [wsm (n := before q + i) (by omega) (by omega), Int.tmod_eq_emod_of_nonneg (by omega), ← plays_succ, wrap_succ (n := 10) (by omega) (by omega)]
    exact ih (i + 1) (by omega)
theorem plays_ev (l : List ByteArray) (h1 : 1 ≤ l.length) {q : Int} (h : 0 ≤ q) (h2 : q ≤ 100000000000) : Ev (fun k => spec_bePlays.f k l q) (plays l.length (before q) (cnt q)) := by
  have := plays_l l h1 h h2 (cnt q) 0 (by omega)
  simpa [plays, spec_bePlays.f] using this
def addAll (l : List ByteArray) (acc : ByteArray) : List Int → ByteArray
  | [] => acc
  | x :: xs => addAll l (acc ++ rdOf ByteArray.empty l x) xs
def notesOf (l : List ByteArray) (q : Int) : ByteArray := addAll l (⟨#[]⟩ : ByteArray) (plays l.length (before q) (cnt q))
theorem notes_l (l : List ByteArray) (hs : ∀ s ∈ l, s.size ≤ 8) (L : List Int) (hL : L.length ≤ 4) (hx : ∀ x ∈ L, 0 ≤ x ∧ x < l.length) : ∀ (d i : Nat) (acc : ByteArray), i + d = L.length → acc.size ≤ 8 * i → Ev (fun k => impl_notes.l0 k l acc L L.length i) (addAll l acc (L.drop i)) := by
  intro d
  induction d with
  | zero =>
    intro i acc hi ha
    refine ev_succ ?_
    simp only [impl_notes.l0]
    refine ev_neg (by omega) ?_
    rw [List.drop_eq_nil_of_le (by omega)]
    exact Ev.now _
  | succ d ih =>
    intro i acc hi ha
    have hlt : i < L.length := by omega
    have hb := hx _ (List.getElem_mem hlt)
    have hsz : (rdOf ByteArray.empty l L[i]).size ≤ 8 := by
      obtain ⟨j, hj⟩ : ∃ j : Nat, L[i] = j := ⟨L[i].toNat, by omega⟩
      rw [hj, rdS l j (by omega)]
      exact hs _ (List.getElem_mem _)
    refine ev_succ ?_
    simp only [impl_notes.l0]
    refine ev_pos (by omega) (ev_pos (by omega) (ev_pos (by omega) ?_))
    rw [rdI L i hlt, wrap_succ (n := 10) (by omega) (by omega)]
    refine ev_pos (by omega) (ev_pos (by omega) (ev_pos (by omega) ?_))
    rw [List.drop_eq_getElem_cons hlt]
    exact ih (i + 1) _ (by omega) (by rw [ByteArray.size_append]; omega)
theorem plays_in (n : Nat) (hn : 1 ≤ n) (b : Int) (d : Nat) : ∀ x ∈ plays n b d, 0 ≤ x ∧ x < n := by
  intro x hx
  simp only [plays, List.mem_map] at hx
  obtain ⟨j, _, rfl⟩ := hx
  exact ⟨Int.emod_nonneg _ (by omega), Int.emod_lt_of_pos _ (by omega)⟩
theorem notes_ev (l : List ByteArray) (ht : tuneOk l = true) {q : Int} (h : 0 ≤ q) (h2 : q ≤ 100000000000) : Ev (fun k => impl_notes.f k l q) (notesOf l q) := by
  obtain ⟨h1, _, hs⟩ := tuneOk_facts ht
  unfold impl_notes.f notesOf
  refine Ev.bind (phrases_ev l h1 h h2) ?_
  have := notes_l l (fun s h => (hs s h).2) (plays l.length (before q) (cnt q)) (by rw [plays_length]; exact (cnt_eq h).2) (plays_in _ h1 _ _) (plays l.length (before q) (cnt q)).length 0 (⟨#[]⟩ : ByteArray) (by omega) (Nat.le_refl 0)
  simpa using this
theorem beNotes_l0 : ∀ k, spec_beNotes.l0 k = impl_notes.l0 k
  | 0 => rfl
  | k + 1 => by
    funext a b c d e
    simp only [spec_beNotes.l0, impl_notes.l0, beNotes_l0 k]
theorem beNotes_ev (l : List ByteArray) (ht : tuneOk l = true) {q : Int} (h : 0 ≤ q) (h2 : q ≤ 100000000000) : Ev (fun k => spec_beNotes.f k l q) (notesOf l q) := by
  obtain ⟨h1, _, hs⟩ := tuneOk_facts ht
  unfold spec_beNotes.f notesOf
  refine Ev.bind (plays_ev l h1 h h2) ?_
  simp only [beNotes_l0]
  have := notes_l l (fun s h => (hs s h).2) (plays l.length (before q) (cnt q)) (by rw [plays_length]; exact (cnt_eq h).2) (plays_in _ h1 _ _) (plays l.length (before q) (cnt q)).length 0 (⟨#[]⟩ : ByteArray) (by omega) (Nat.le_refl 0)
  simpa using this
def hoursOf (l : List ByteArray) : Int := (l.length : Int) / (Int.gcd l.length 10 : Int)
theorem hours_bounds {l : List ByteArray} (h1 : 1 ≤ l.length) (h2 : l.length ≤ 12) : 1 ≤ hoursOf l ∧ hoursOf l ≤ 12 := by
  unfold hoursOf
  have hg : 0 < Int.gcd l.length 10 := Int.gcd_pos_of_ne_zero_right _ (by omega)
  have hd : (Int.gcd l.length 10 : Int) ∣ (l.length : Int) := Int.gcd_dvd_left ..
  have hle := Int.le_of_dvd (by omega) hd
  exact ⟨(Int.le_ediv_iff_mul_le (by omega)).2 (by omega), Int.le_trans (Int.ediv_le_self _ (by omega)) (by omega)⟩
theorem hours_ev (l : List ByteArray) (h1 : 1 ≤ l.length) (h2 : l.length ≤ 12) : Ev (fun k => impl_hours.f k l) (hoursOf l) := by
  unfold impl_hours.f
  have hg : 0 < Int.gcd l.length 10 := Int.gcd_pos_of_ne_zero_right _ (by omega)
  have hb := hours_bounds h1 h2
  refine Ev.bind (gcd_ev (by omega) (by omega) (by omega) (by omega)) ?_
  refine ev_neg (by omega) ?_
  unfold hoursOf at hb ⊢
  rw [wsm (by omega) (by omega)]
  exact Ev.now _
theorem beHours_ev (l : List ByteArray) (h1 : 1 ≤ l.length) (h2 : l.length ≤ 12) : Ev (fun k => spec_beHours.f k l) (hoursOf l) := by
  unfold spec_beHours.f
  have hg : 0 < Int.gcd l.length 10 := Int.gcd_pos_of_ne_zero_right _ (by omega)
  have hb := hours_bounds h1 h2
  refine Ev.bind (common_ev (by omega) (by omega)) ?_
  refine ev_neg (by omega) ?_
  unfold hoursOf at hb ⊢
  rw [wsm (by omega) (by omega)]
  exact Ev.now _

end Go.Proofs.YtjnmecjbhfinmaaDoor.P
