/- Plain lemmas about what the functions compute (part 1). No conditions but those stated. -/
import Derived.Test.YtccjoegnkiaibaaGreatDoorFnFnHandsStand3
namespace Go.Proofs.YtccjoegnkiaibaaGreatDoor.M
open Go Go.PM Go.Proofs.YtccjoegnkiaibaaGreatDoor.P
set_option linter.unusedVariables false
set_option linter.unusedSimpArgs false
def inB (a lo hi : Int) : Bool := decide (lo ≤ a) && decide (a ≤ hi)
theorem inB_iff {a lo hi : Int} : inB a lo hi = true ↔ lo ≤ a ∧ a ≤ hi := by simp [inB]
theorem inB_not {a lo hi : Int} : inB a lo hi = false ↔ ¬ (lo ≤ a ∧ a ≤ hi) := by rw [← inB_iff]; simp
theorem within_eq (N : Nat) (a b c : Int) : zq31.g N a b c = some (inB a b c) := by
  unfold zq31.g zq31.o0 inB
  by_cases h : b ≤ a
  · rw [dcT (show a ≥ b from h)]; rfl
  · rw [dcF (show ¬ a ≥ b from h)]; rfl
theorem l1In_eq (N : Nat) (a b c : Int) : zq71.g N a b c = some (inB a b c) := by
  unfold zq71.g zq71.o0 inB
  by_cases h : b ≤ a
  · rw [dcT (show a ≥ b from h)]; rfl
  · rw [dcF (show ¬ a ≥ b from h)]; rfl
theorem isDial_eq (N : Nat) (a : Int) : zq24.g N a = some (inB a 2 24) := by
  unfold zq24.g zq24.o0; rw [within_eq]; rfl
theorem diHours_eq (N : Nat) (a : Int) : zq55.g N a = some (inB a 2 24) := by
  unfold zq55.g zq55.o0; rw [l1In_eq]; rfl
theorem tmodN (a b : Nat) : Int.tmod (a : Int) (b : Int) = ((a % b : Nat) : Int) := (Int.ofNat_tmod a b).symm
theorem tdivN (a b : Nat) : Int.tdiv (a : Int) (b : Int) = ((a / b : Nat) : Int) := (Int.ofNat_tdiv a b).symm
theorem w1add {a : Nat} (h : a < 9000000000000000000) : w64 ((a : Int) + 1) = ((a + 1 : Nat) : Int) := by rw [w64s (by omega) (by omega)]; omega
def bsOf (l : List UInt8) : ByteArray := ⟨l.toArray⟩
theorem bsOf_list (l : List UInt8) : (bsOf l).data.toList = l := by simp [bsOf]
theorem bs_ext {a b : ByteArray} (h : a.data.toList = b.data.toList) : a = b := by
  cases a; cases b
  congr
  exact Array.toList_inj.1 h
theorem bsOf_eq (a : ByteArray) : bsOf a.data.toList = a := bs_ext (bsOf_list _)
theorem bsOf_size (l : List UInt8) : (bsOf l).size = l.length := by simp [bsOf, ByteArray.size]
theorem extract_list (s : ByteArray) (a b : Nat) : (s.extract a b).data.toList = (s.data.toList.take b).drop a := by
  simp [ByteArray.data_extract, List.drop_take]
theorem bt_at (s : ByteArray) (i : Nat) (h : i < s.data.toList.length) : bt s i = (s.data.toList[i].toNat : Int) := by
  have hs : i < s.size := by rw [Array.length_toList] at h; exact h
  unfold bt
  rw [dif_pos (by simpa using hs)]
  simp only [Int.toNat_natCast]
  rfl
theorem bsOf_append (a b : List UInt8) : bsOf a ++ bsOf b = bsOf (a ++ b) := by
  apply bs_ext
  rw [bsOf_list, ByteArray.data_append, Array.toList_append]
  rfl
def onHead (pre : List UInt8) : List (List UInt8) → List (List UInt8)
  | [] => []
  | h :: t => (pre ++ h) :: t
def splitL (c : UInt8) : List UInt8 → List (List UInt8)
  | [] => [[]]
  | b :: l => if b = c then [] :: splitL c l else onHead [b] (splitL c l)
theorem splitL_ne (c : UInt8) : ∀ l, splitL c l ≠ []
  | [] => by simp [splitL]
  | b :: l => by
    have ih := splitL_ne c l
    unfold splitL
    split
    · simp
    · cases h : splitL c l with
      | nil => exact absurd h ih
      | cons x t => simp [onHead]
theorem onHead_nil (L : List (List UInt8)) : onHead [] L = L := by cases L <;> rfl
theorem onHead_onHead (p q : List UInt8) (L : List (List UInt8)) : onHead p (onHead q L) = onHead (p ++ q) L := by
  cases L <;> simp [onHead]
def pieces (c : UInt8) (s : ByteArray) : List ByteArray := (splitL c s.data.toList).map bsOf
theorem l1Split_l (N : Nat) (s : ByteArray) (c : UInt8) (hs : s.size ≤ 1000000000) : ∀ (d i f n : Nat) (acc : List ByteArray), i + d = s.size → f ≤ i → acc.length ≤ i → d < n →
    zq76.l4 N n s (c.toNat : Int) acc f i = some (acc ++ (onHead ((s.data.toList.take i).drop f) (splitL c (s.data.toList.drop i))).map bsOf)
  | 0, i, f, n+1, acc, hi, hf, ha, hn => by
    have hl : s.data.toList.length = s.size := Array.length_toList
    unfold zq76.l4 zq76.d4 zq76.o4
    rw [dcF (show ¬ (i : Int) < (s.size : Int) by omega), cond_false, dcT (show 0 ≤ (s.size : Int) by omega), cond_true, dcT (show (s.size : Int) ≤ (s.size : Int) by omega), cond_true, dcT (show 0 ≤ (f : Int) by omega), cond_true, dcT (show (f : Int) ≤ (s.size : Int) by omega), cond_true, blT (by simp; omega), cond_true]
    rw [List.drop_eq_nil_of_le (by omega : s.data.toList.length ≤ i)]
    simp only [splitL, onHead, List.append_nil, List.map_cons, List.map_nil]
    congr 3
    apply bs_ext
    rw [extract_list, bsOf_list, Int.toNat_natCast, Int.toNat_natCast, show i = s.size by omega]
  | d+1, i, f, n+1, acc, hi, hf, ha, hn => by
    have hl : s.data.toList.length = s.size := Array.length_toList
    have hlt : i < s.data.toList.length := by omega
    unfold zq76.l4 zq76.d4 zq76.o4
    rw [dcT (show (i : Int) < (s.size : Int) by omega), cond_true, dcT (show 0 ≤ (i : Int) by omega), cond_true, cond_true, bt_at s i hlt, List.drop_eq_getElem_cons hlt]
    unfold splitL
    by_cases e : s.data.toList[i] = c
    · rw [if_pos e, ieqT (by rw [e]), cond_true, cond_true, dcT (show (i : Int) ≤ (s.size : Int) by omega), cond_true, dcT (show 0 ≤ (f : Int) by omega), cond_true, dcT (show (f : Int) ≤ (i : Int) by omega), cond_true, blT (by simp; omega), cond_true]
      unfold zq76.d2 zq76.o2
      dsimp only
      rw [w1add (by omega)]
      have := l1Split_l N s c hs d (i + 1) (i + 1) n (acc ++ [s.extract (f : Int).toNat (i : Int).toNat]) (by omega) (by omega) (by simp; omega) (by omega)
      rw [List.drop_eq_nil_of_le (by simp; omega : (s.data.toList.take (i + 1)).length ≤ i + 1), onHead_nil] at this
      simp only [onHead, List.append_nil, List.map_cons]
      rw [List.append_assoc] at this
      have e2 : bsOf ((s.data.toList.take i).drop f) = s.extract (f : Int).toNat (i : Int).toNat := by
        apply bs_ext
        rw [extract_list, bsOf_list, Int.toNat_natCast, Int.toNat_natCast]
      rw [e2]
      exact this
    · rw [if_neg e, ieqF (fun z => e (UInt8.toNat_inj.1 (by omega))), cond_false]
      unfold zq76.d2 zq76.o2
      dsimp only
      rw [w1add (by omega)]
      have := l1Split_l N s c hs d (i + 1) f n acc (by omega) (by omega) (by omega) (by omega)
      rw [onHead_onHead]
      have e2 : (s.data.toList.take i).drop f ++ [s.data.toList[i]] = (s.data.toList.take (i + 1)).drop f := by
        rw [List.take_succ_eq_append_getElem hlt, List.drop_append_of_le_length (by simp; omega)]
      rw [e2]
      exact this
  | _, _, _, 0, _, _, _, _, hn => by omega
theorem l1Split_l1 (N : Nat) (s : ByteArray) (c : UInt8) (hs : s.size ≤ 1000000000) : ∀ (d i n : Nat), i + d = s.size → d < n →
    zq76.l1 N n s (c.toNat : Int) 0 i = some ((onHead (s.data.toList.take i) (splitL c (s.data.toList.drop i))).map bsOf)
  | 0, i, n+1, hi, hn => by
    have hl : s.data.toList.length = s.size := Array.length_toList
    unfold zq76.l1 zq76.d1 zq76.o1
    rw [dcF (show ¬ (i : Int) < (s.size : Int) by omega), cond_false, dcT (show 0 ≤ (s.size : Int) by omega), cond_true, dcT (show (s.size : Int) ≤ (s.size : Int) by omega), cond_true, dcT (show (0 : Int) ≤ 0 by omega), cond_true, cond_true, blT (by simp), cond_true]
    rw [List.drop_eq_nil_of_le (by omega : s.data.toList.length ≤ i)]
    simp only [splitL, onHead, List.append_nil, List.map_cons, List.map_nil, List.nil_append]
    congr 2
    apply bs_ext
    rw [extract_list, bsOf_list, Int.toNat_natCast, show i = s.size by omega]; rfl
  | d+1, i, n+1, hi, hn => by
    have hl : s.data.toList.length = s.size := Array.length_toList
    have hlt : i < s.data.toList.length := by omega
    unfold zq76.l1 zq76.d1 zq76.o1
    rw [dcT (show (i : Int) < (s.size : Int) by omega), cond_true, dcT (show 0 ≤ (i : Int) by omega), cond_true, cond_true, bt_at s i hlt, List.drop_eq_getElem_cons hlt]
    unfold splitL
    by_cases e : s.data.toList[i] = c
    · rw [if_pos e, ieqT (by rw [e]), cond_true, cond_true, dcT (show (i : Int) ≤ (s.size : Int) by omega), cond_true, dcT (show (0 : Int) ≤ 0 by omega), cond_true, cond_true, blT (by simp), cond_true]
      unfold zq76.d2 zq76.o2
      dsimp only
      rw [w1add (by omega)]
      have := l1Split_l N s c hs d (i + 1) (i + 1) n [s.extract (0 : Int).toNat (i : Int).toNat] (by omega) (by omega) (by simp) (by omega)
      rw [List.drop_eq_nil_of_le (by simp; omega : (s.data.toList.take (i + 1)).length ≤ i + 1), onHead_nil] at this
      simp only [onHead, List.append_nil, List.map_cons, List.nil_append]
      have e2 : bsOf (s.data.toList.take i) = s.extract (0 : Int).toNat (i : Int).toNat := by
        apply bs_ext
        rw [extract_list, bsOf_list, Int.toNat_natCast]; rfl
      rw [e2]
      exact this
    · rw [if_neg e, ieqF (fun z => e (UInt8.toNat_inj.1 (by omega))), cond_false]
      unfold zq76.d3 zq76.o3
      dsimp only
      rw [w1add (by omega)]
      have := l1Split_l1 N s c hs d (i + 1) n (by omega) (by omega)
      rw [onHead_onHead]
      have e2 : s.data.toList.take i ++ [s.data.toList[i]] = s.data.toList.take (i + 1) := by
        rw [List.take_succ_eq_append_getElem hlt]
      rw [e2]
      exact this
  | _, _, 0, _, hn => by omega
theorem l1Split_eq {N : Nat} (s : ByteArray) (c : UInt8) (hs : s.size ≤ 1000000000) (hN : s.size < N) : zq76.g N s (c.toNat : Int) = some (pieces c s) := by
  have := l1Split_l1 N s c hs s.size 0 N (by omega) (by omega)
  simp only [List.take_zero, List.drop_zero, onHead_nil] at this
  exact this
/-! ### joined -/
def glue (c : UInt8) : List (List UInt8) → List UInt8
  | [] => []
  | [x] => x
  | x :: y :: t => x ++ c :: glue c (y :: t)
theorem glue_onHead (c : UInt8) (p x : List UInt8) (t : List (List UInt8)) : glue c (onHead p (x :: t)) = p ++ glue c (x :: t) := by
  cases t with
  | nil => rfl
  | cons y t => show (p ++ x) ++ _ = p ++ (x ++ _); rw [List.append_assoc]
theorem glue_split (c : UInt8) : ∀ l, glue c (splitL c l) = l
  | [] => rfl
  | b :: l => by
    have ih := glue_split c l
    have ne := splitL_ne c l
    unfold splitL
    cases h : splitL c l with
    | nil => exact absurd h ne
    | cons x t =>
      rw [h] at ih
      split
      · rename_i e
        subst e
        show [] ++ b :: glue b (x :: t) = _
        rw [ih]; rfl
      · rw [glue_onHead, ih]; rfl
theorem splitL_pre (c : UInt8) : ∀ (x l : List UInt8), c ∉ x → splitL c (x ++ l) = onHead x (splitL c l)
  | [], l, _ => (onHead_nil _).symm
  | b :: x, l, h => by
    rw [List.mem_cons, not_or] at h
    have e1 : splitL c (b :: x ++ l) = onHead [b] (splitL c (x ++ l)) := by
      show (if b = c then _ else _) = _
      rw [if_neg fun e => h.1 e.symm]; rfl
    rw [e1, splitL_pre c x l h.2, onHead_onHead]; rfl
theorem split_two {c : UInt8} {x y : List UInt8} (hx : c ∉ x) (hy : c ∉ y) : splitL c (x ++ c :: y) = [x, y] := by
  rw [splitL_pre c x _ hx]
  have e : splitL c (c :: y) = [] :: splitL c y := by
    show (if c = c then _ else _) = _
    rw [if_pos rfl]
  have e2 : splitL c y = [y] := by
    have := splitL_pre c y [] hy
    rw [List.append_nil] at this
    rw [this]; show [y ++ []] = _; rw [List.append_nil]
  rw [e, e2]; show [x ++ []] ++ [y] = _; rw [List.append_nil]; rfl
theorem two_split {c : UInt8} {l x y : List UInt8} (h : splitL c l = [x, y]) : l = x ++ c :: y := by
  have := glue_split c l
  rw [h] at this
  exact this.symm
end Go.Proofs.YtccjoegnkiaibaaGreatDoor.M
namespace Go.Proofs.YtccjoegnkiaibaaGreatDoor.M
open Go Go.PM
set_option linter.unusedVariables false
set_option linter.unusedSimpArgs false
/-! ### parts of a turn in lowest terms -/
def pr (n d : Nat) : Nat × Nat := (n % d / Nat.gcd (n % d) d, d / Nat.gcd (n % d) d)
theorem pr_scale {k n d : Nat} (hk : 0 < k) : pr (k * n) (k * d) = pr n d := by
  unfold pr
  rw [Nat.mul_mod_mul_left, Nat.gcd_mul_left, Nat.mul_div_mul_left _ _ hk, Nat.mul_div_mul_left _ _ hk]
theorem pr_add (n k d : Nat) : pr (n + k * d) d = pr n d := by
  unfold pr; rw [Nat.add_mul_mod_self_right]
theorem pr_mod (n d : Nat) : pr (n % d) d = pr n d := by
  unfold pr; rw [Nat.mod_mod]
theorem pr_eq {n d n' d' : Nat} (j k : Nat) (hd : 0 < d) (hd' : 0 < d') (h : n * d' + j * (d * d') = n' * d + k * (d * d')) : pr n d = pr n' d' := by
  have h1 : pr n d = pr (d' * n) (d' * d) := (pr_scale hd').symm
  have h2 : pr n' d' = pr (d * n') (d * d') := (pr_scale hd).symm
  rw [h1, h2, Nat.mul_comm d' d, ← pr_add (d' * n) j (d * d'), ← pr_add (d * n') k (d * d'), Nat.mul_comm d' n, Nat.mul_comm d n', h]
theorem pr_eq0 {n d n' d' : Nat} (hd : 0 < d) (hd' : 0 < d') (h : n * d' = n' * d) : pr n d = pr n' d' := pr_eq 0 0 hd hd' (by omega)
theorem pr_low {n d : Nat} (h : n < d) (hg : Nat.gcd n d = 1) : pr n d = (n, d) := by
  unfold pr; rw [Nat.mod_eq_of_lt h, hg, Nat.div_one, Nat.div_one]
theorem pr_spec {n d : Nat} (hd : 0 < d) : (pr n d).1 < (pr n d).2 ∧ (pr n d).2 ≤ d ∧ Nat.gcd (pr n d).1 (pr n d).2 = 1 ∧ (pr n d).1 * d = n % d * (pr n d).2 := by
  have hlt : n % d < d := Nat.mod_lt _ hd
  unfold pr
  generalize n % d = a at *
  have hg : 0 < Nat.gcd a d := Nat.gcd_pos_of_pos_right _ hd
  have hc := Nat.coprime_div_gcd_div_gcd hg
  obtain ⟨x, hx⟩ := Nat.gcd_dvd_left a d
  obtain ⟨y, hy⟩ := Nat.gcd_dvd_right a d
  have ex : a / Nat.gcd a d = x := Nat.div_eq_of_eq_mul_right hg hx
  have ey : d / Nat.gcd a d = y := Nat.div_eq_of_eq_mul_right hg hy
  have hle : d / Nat.gcd a d ≤ d := Nat.div_le_self _ _
  refine ⟨?_, hle, hc, ?_⟩
  · rw [ex, ey]
    refine Nat.lt_of_mul_lt_mul_left (a := Nat.gcd a d) ?_
    rw [← hx, ← hy]; exact hlt
  · show a / Nat.gcd a d * d = a * (d / Nat.gcd a d)
    rw [ex, ey]
    generalize Nat.gcd a d = g at *
    subst hx hy
    simp only [Nat.mul_assoc, Nat.mul_comm, Nat.mul_left_comm]
theorem pr_lt {n d : Nat} (hd : 0 < d) (h : n < d) : (pr n d).1 * d = n * (pr n d).2 := by
  have := (pr_spec (n := n) hd).2.2.2
  rw [Nat.mod_eq_of_lt h] at this
  exact this
theorem pr_pos {n d : Nat} (hd : 0 < d) : 0 < (pr n d).2 := Nat.lt_of_le_of_lt (Nat.zero_le _) (pr_spec (n := n) hd).1
/-- what is in lowest terms and has the same value -/
theorem pr_is {n d p q : Nat} (hd : 0 < d) (hq : p < q) (hg : Nat.gcd p q = 1) (h : n * q = p * d) : pr n d = (p, q) :=
  (pr_eq0 hd (by omega) h).trans (pr_low hq hg)
/-! ### floors -/
theorem div_mul_self' {n k d : Nat} (hk : 0 < k) : (n * k) / (d * k) = n / d := Nat.mul_div_mul_right _ _ hk
/-! ### hours, minutes and seconds of a time; M: minutes times d -/
theorem sec_eq {M d : Nat} (hd : 0 < d) : (pr M d).1 * 60 / (pr M d).2 = 60 * (M % d) / d := by
  have h := (pr_spec (n := M) hd).2.2.2
  have hy := pr_pos (n := M) hd
  rw [← div_mul_self' (n := (pr M d).1 * 60) hd, ← div_mul_self' (n := 60 * (M % d)) hy, Nat.mul_comm d (pr M d).2]
  congr 1
  rw [Nat.mul_right_comm, h, Nat.mul_assoc 60, Nat.mul_comm 60]
theorem more_eq {M d : Nat} (hd : 0 < d) : pr ((pr M d).1 * 60) (pr M d).2 = pr (60 * M) d := by
  have h := (pr_spec (n := M) hd).2.2.2
  have hy := pr_pos (n := M) hd
  have h1 : pr (60 * M) d = pr (60 * (M % d)) d := by
    have : 60 * M = 60 * (M % d) + 60 * (M / d) * d := by
      have := Nat.mod_add_div M d
      rw [Nat.mul_assoc, Nat.mul_comm (M / d) d, ← Nat.mul_add, this]
    rw [this, pr_add]
  rw [h1]
  refine pr_eq0 hy hd ?_
  rw [Nat.mul_right_comm, h, Nat.mul_assoc 60, Nat.mul_comm 60]
theorem S_eq {M d : Nat} (hd : 0 < d) : 60 * M / d = 60 * (M / d) + 60 * (M % d) / d ∧ 60 * (M % d) / d < 60 := by
  have hlt : M % d < d := Nat.mod_lt _ hd
  have h2 : 60 * (M % d) / d < 60 := Nat.div_lt_of_lt_mul (by omega)
  refine ⟨?_, h2⟩
  have : 60 * M = 60 * (M % d) + d * (60 * (M / d)) := by
    have := Nat.mod_add_div M d
    have e : d * (60 * (M / d)) = 60 * (d * (M / d)) := by rw [Nat.mul_left_comm]
    omega
  rw [this, Nat.add_mul_div_left _ _ hd]; omega
/-- the time that is told by its text -/
theorem tell {n d h num den S : Nat} (hd : n < d) (hg : Nat.gcd n d = 1) (hh : 0 < h) (e1 : S = 3600 * (n * h) / d) (e2 : (num, den) = pr (3600 * (n * h)) d) : pr (S * den + num) (h * 3600 * den) = (n, d) := by
  have hp : 0 < d := by omega
  have h1 := (pr_spec (n := 3600 * (n * h)) hp).2.2.2
  have h2 := pr_pos (n := 3600 * (n * h)) hp
  rw [← e2] at h1 h2
  dsimp only at h1 h2
  have h3 := Nat.mod_add_div (3600 * (n * h)) d
  rw [← e1] at h3
  refine pr_is (Nat.mul_pos (by omega) h2) hd hg ?_
  have : (S * den + num) * d = (3600 * (n * h) % d + d * S) * den := by
    rw [Nat.add_mul, Nat.add_mul, h1, Nat.mul_right_comm S den d, Nat.mul_comm S d]; omega
  rw [this, h3]
  simp only [Nat.mul_assoc, Nat.mul_comm, Nat.mul_left_comm]
/-- and back -/
theorem told {n d h num den S : Nat} (hh : 0 < h) (hn : num < den) (hg : Nat.gcd num den = 1) (hS : S < 3600 * h) (e : pr (S * den + num) (h * 3600 * den) = (n, d)) : 3600 * (n * h) / d = S ∧ pr (3600 * (n * h)) d = (num, den) := by
  have hden : 0 < den := by omega
  have hD : 0 < h * 3600 * den := Nat.mul_pos (by omega) hden
  have hlt : S * den + num < h * 3600 * den := by
    have : (S + 1) * den ≤ h * 3600 * den := Nat.mul_le_mul_right _ (by omega)
    rw [Nat.add_mul] at this; omega
  have h1 := pr_lt hD hlt
  have h2 := pr_pos (n := S * den + num) hD
  rw [e] at h1 h2
  dsimp only at h1 h2
  have h3 : 3600 * (n * h) * den = (S * den + num) * d := by
    rw [← h1]; simp only [Nat.mul_assoc, Nat.mul_comm, Nat.mul_left_comm]
  have hP : pr (3600 * (n * h)) d = (num, den) := by
    have : pr (3600 * (n * h)) d = pr (S * den + num) den := pr_eq0 h2 hden h3
    rw [this, Nat.add_comm, pr_add, pr_low hn hg]
  refine ⟨?_, hP⟩
  have h4 := (pr_spec (n := 3600 * (n * h)) h2).2.2.2
  rw [hP] at h4
  dsimp only at h4
  have h5 : 3600 * (n * h) * den / (d * den) = S := by
    rw [h3, Nat.mul_comm d den, div_mul_self' h2, Nat.add_comm, Nat.add_mul_div_right _ _ hden, Nat.div_eq_of_lt hn]; omega
  rw [← h5, div_mul_self' hden]
/-- the part of a second has a small number below -/
theorem den_small {X d : Nat} (hd : 0 < d) (h6 : d ≤ 1000000) : (pr (3600 * X) d).2 ≤ 999999 := by
  by_cases e : d = 1000000
  · subst e
    have : pr (3600 * X) 1000000 = pr (9 * X) 2500 := by
      rw [show 3600 * X = 400 * (9 * X) by omega, show (1000000 : Nat) = 400 * 2500 from rfl, pr_scale (by omega)]
    rw [this]
    have := (pr_spec (n := 9 * X) (d := 2500) (by omega)).2.1
    omega
  · have := (pr_spec (n := 3600 * X) hd).2.1
    omega
end Go.Proofs.YtccjoegnkiaibaaGreatDoor.M
namespace Go.Proofs.YtccjoegnkiaibaaGreatDoor.M
open Go Go.PM Go.Proofs.YtccjoegnkiaibaaGreatDoor.P
set_option linter.unusedVariables false
set_option linter.unusedSimpArgs false
set_option maxRecDepth 100000
/-! ### numbers in decimal -/
theorem dec_small {n : Nat} (h : n < 10) : Lib.decDigits n = [UInt8.ofNat (48 + n)] := by rw [Lib.decDigits, dif_pos h]
theorem dec_big {n : Nat} (h : 10 ≤ n) : Lib.decDigits n = Lib.decDigits (n / 10) ++ [UInt8.ofNat (48 + n % 10)] := by rw [Lib.decDigits, dif_neg (by omega)]
theorem dig_nat {d : Nat} (h : d < 10) : (UInt8.ofNat (48 + d)).toNat = 48 + d := by
  rw [UInt8.toNat_ofNat']; omega
theorem dec_digits : ∀ (n : Nat), ∀ c ∈ Lib.decDigits n, 48 ≤ c.toNat ∧ c.toNat ≤ 57 := by
  intro n
  induction n using Nat.strongRecOn with
  | ind n ih =>
    intro c hc
    by_cases h : n < 10
    · rw [dec_small h, List.mem_singleton] at hc
      rw [hc, dig_nat h]; omega
    · rw [dec_big (by omega), List.mem_append, List.mem_singleton] at hc
      rcases hc with hc | hc
      · exact ih (n / 10) (by omega) c hc
      · rw [hc, dig_nat (by omega)]; omega
theorem dec_ne (n : Nat) : Lib.decDigits n ≠ [] := by
  by_cases h : n < 10
  · rw [dec_small h]; simp
  · rw [dec_big (by omega)]; simp
theorem dec_len : ∀ (k n : Nat), n < 10 ^ (k + 1) → (Lib.decDigits n).length ≤ k + 1
  | 0, n, h => by rw [dec_small (by simpa using h)]; simp
  | k+1, n, h => by
    by_cases c : n < 10
    · rw [dec_small c]; simp
    · have := dec_len k (n / 10) (by rw [Nat.pow_succ] at h; omega)
      rw [dec_big (by omega), List.length_append, List.length_singleton]; omega
theorem dec_head : ∀ (n : Nat), 0 < n → ∀ c l, Lib.decDigits n = c :: l → 49 ≤ c.toNat := by
  intro n
  induction n using Nat.strongRecOn with
  | ind n ih =>
    intro h0 c l hc
    by_cases h : n < 10
    · rw [dec_small h] at hc
      injection hc with h1 h2
      rw [← h1, dig_nat h]; omega
    · rw [dec_big (by omega)] at hc
      cases hd : Lib.decDigits (n / 10) with
      | nil => exact absurd hd (dec_ne _)
      | cons x t =>
        rw [hd] at hc
        injection hc with h1 h2
        rw [← h1]
        exact ih (n / 10) (by omega) (by omega) x t hd
/-! #### read by Atoi -/
theorem pu_append : ∀ (l r : List UInt8) (a u : Nat), Lib.parseUint10 a l = .ok u → Lib.parseUint10 a (l ++ r) = Lib.parseUint10 u r
  | [], r, a, u, h => by simp only [Lib.parseUint10] at h; injection h with h; subst h; rfl
  | c :: l, r, a, u, h => by
    have e1 : ∀ (q : List UInt8), Lib.parseUint10 a (c :: q) = if 48 ≤ c.toNat ∧ c.toNat ≤ 57 then (if 1844674407370955162 ≤ a then .range else if 18446744073709551616 ≤ a * 10 + (c.toNat - 48) then .range else Lib.parseUint10 (a * 10 + (c.toNat - 48)) q) else Lib.parseUint10 0 [0] := fun q => rfl
    rw [List.cons_append, e1]
    rw [e1] at h
    split
    · rename_i h1
      rw [if_pos h1] at h
      split
      · rename_i h2; rw [if_pos h2] at h; cases h
      · rename_i h2
        rw [if_neg h2] at h
        split
        · rename_i h3; rw [if_pos h3] at h; cases h
        · rename_i h3
          rw [if_neg h3] at h
          exact pu_append l r _ u h
    · rename_i h1; rw [if_neg h1] at h; cases h
theorem pu_dec : ∀ n : Nat, n < 1000000000000000000 → Lib.parseUint10 0 (Lib.decDigits n) = .ok n := by
  intro n
  induction n using Nat.strongRecOn with
  | ind n ih =>
    intro hn
    have one : ∀ (a d : Nat), d < 10 → a < 100000000000000000 → Lib.parseUint10 a [UInt8.ofNat (48 + d)] = .ok (a * 10 + d) := by
      intro a d hd ha
      unfold Lib.parseUint10
      rw [dig_nat hd, if_pos (by omega), if_neg (by omega), if_neg (by omega)]
      show Lib.NumEnd.ok (a * 10 + (48 + d - 48)) = _
      congr 1; omega
    by_cases h : n < 10
    · rw [dec_small h, one 0 n h (by omega)]; congr 1; omega
    · rw [dec_big (by omega), pu_append _ _ _ _ (ih (n / 10) (by omega) (by omega)), one (n / 10) (n % 10) (by omega) (by omega)]
      congr 1; omega
theorem atoi_dec {n : Nat} (hn : n < 1000000000000000000) : Lib.atoiAll (Lib.decDigits n) = .ok (n : Int) := by
  cases hd : Lib.decDigits n with
  | nil => exact absurd hd (dec_ne _)
  | cons c r =>
    have hc := dec_digits n c (by rw [hd]; exact List.mem_cons_self)
    have hp : Lib.parseMag (c :: r) = .ok n := by
      unfold Lib.parseMag
      rw [if_neg (by simp), ← hd, pu_dec n hn]
    unfold Lib.atoiAll
    simp only
    rw [if_neg (by omega), hp]
    simp only
    rw [if_neg (by omega), if_neg (by omega), if_neg (by omega)]
/-! #### read by the reference -/
theorem wrap8 {x : Int} (h1 : 0 ≤ x) (h2 : x < 256) : (IntKind.wrap .u8) x = x := by
  have e : (IntKind.wrap .u8) x = x % 256 := by simp [IntKind.wrap, IntKind.signed, IntKind.bits]
  rw [e]; omega
def readGo : List UInt8 → Int → Int
  | [], n => n
  | c :: cs, n => if (c.toNat : Int) < 48 then -1 else if (c.toNat : Int) > 57 then -1 else readGo cs (w64 (w64 (10 * n) + ((c.toNat : Int) - 48)))
def readL (s : ByteArray) : Int := if inB s.size 1 6 = true then (if bt s 0 = 48 ∧ (s.size : Int) > 1 then -1 else readGo s.data.toList 0) else -1
theorem l1Read_l (N : Nat) (s : ByteArray) (hs : s.size ≤ 6) : ∀ (d i n : Nat) (x : Int), i + d = s.size → d < n → zq74.l2 N n s x i = some (readGo (s.data.toList.drop i) x)
  | 0, i, n+1, x, hi, hn => by
    have hl : s.data.toList.length = s.size := Array.length_toList
    unfold zq74.l2 zq74.d2 zq74.o2
    rw [dcF (by omega), cond_false, List.drop_eq_nil_of_le (by omega)]; rfl
  | d+1, i, n+1, x, hi, hn => by
    have hl : s.data.toList.length = s.size := Array.length_toList
    have hlt : i < s.data.toList.length := by omega
    have hb := UInt8.toNat_lt s.data.toList[i]
    unfold zq74.l2 zq74.d2 zq74.o2
    rw [dcT (show (i : Int) < (s.size : Int) by omega), cond_true, dcT (show 0 ≤ (i : Int) by omega), cond_true, cond_true, bt_at s i hlt, List.drop_eq_getElem_cons hlt]
    unfold readGo
    by_cases c1 : (s.data.toList[i].toNat : Int) < 48
    · rw [dcT c1, cond_true, if_pos c1]; rfl
    rw [dcF c1, cond_false, cond_true, cond_true, if_neg c1]
    by_cases c2 : (s.data.toList[i].toNat : Int) > 57
    · rw [dcT c2, if_pos c2]; rfl
    rw [dcF c2, if_neg c2]
    unfold zq74.d3 zq74.o3
    dsimp only
    rw [cond_false, dcT (show 0 ≤ (i : Int) by omega), cond_true, dcT (show (i : Int) < (s.size : Int) by omega), cond_true, bt_at s i hlt, wrap8 (by omega) (by omega), w64s (n := (s.data.toList[i].toNat : Int) - 48) (by omega) (by omega), w1add (by omega)]
    exact l1Read_l N s hs d (i + 1) n _ (by omega) (by omega)
  | _, _, 0, _, _, hn => by omega
theorem l1Read_eq {N : Nat} (hN : 10000 ≤ N) (s : ByteArray) : zq74.g N s = some (readL s) := by
  unfold zq74.g zq74.o0 readL
  rw [l1In_eq, Option.bind_some]
  cases h : inB s.size 1 6 with
  | false => rfl
  | true =>
    have h' := inB_iff.1 h
    have hg : zq74.l2 N N s 0 0 = some (readGo s.data.toList 0) := by
      have := l1Read_l N s (by omega) s.size 0 N 0 (by omega) (by omega)
      rw [List.drop_zero] at this
      exact this
    rw [Bool.not_true, cond_false, dcT (show 0 < (s.size : Int) by omega), cond_true, if_pos rfl]
    unfold zq74.d1 zq74.o1
    by_cases c : bt s 0 = 48
    · rw [ieqT c, cond_true]
      by_cases e : (s.size : Int) > 1
      · rw [dcT e, if_pos ⟨c, e⟩]; rfl
      · rw [dcF e, if_neg (fun z => e z.2)]; exact hg
    · rw [ieqF c, cond_false, if_neg (fun z => c z.1)]; exact hg
/-- what the digits spell -/
def valD (a : Nat) : List UInt8 → Nat
  | [] => a
  | c :: l => valD (10 * a + (c.toNat - 48)) l
theorem valD_append : ∀ (l r : List UInt8) (a : Nat), valD a (l ++ r) = valD (valD a l) r
  | [], r, a => rfl
  | c :: l, r, a => valD_append l r _
theorem valD_le : ∀ (l : List UInt8) (a : Nat), a ≤ valD a l
  | [], a => Nat.le_refl a
  | c :: l, a => by
    have := valD_le l (10 * a + (c.toNat - 48))
    show a ≤ valD _ l
    omega
def Digs (l : List UInt8) : Prop := ∀ c ∈ l, 48 ≤ c.toNat ∧ c.toNat ≤ 57
theorem readGo_val : ∀ (l : List UInt8) (a k : Nat), Digs l → l.length ≤ k → k ≤ 6 → a < 10 ^ (10 - k) → readGo l a = (valD a l : Nat)
  | [], a, k, _, _, _, _ => rfl
  | c :: l, a, k, h, hl, hk, ha => by
    obtain ⟨k, rfl⟩ : ∃ j, k = j + 1 := ⟨k - 1, by simp at hl; omega⟩
    have hc := h c List.mem_cons_self
    have hp : 10 ^ (10 - k) = 10 * 10 ^ (10 - (k + 1)) := by
      rw [show 10 - k = (10 - (k + 1)) + 1 by omega, Nat.pow_succ, Nat.mul_comm]
    have hb : 10 ^ (10 - (k + 1)) ≤ 10 ^ 10 := Nat.pow_le_pow_right (by omega) (by omega)
    have hb2 : (10 : Nat) ^ 10 = 10000000000 := by decide
    unfold readGo
    rw [if_neg (by omega), if_neg (by omega)]
    have e : w64 (w64 (10 * (a : Int)) + ((c.toNat : Int) - 48)) = ((10 * a + (c.toNat - 48) : Nat) : Int) := by
      rw [w64s (n := 10 * (a : Int)) (by omega) (by omega), w64s (by omega) (by omega)]; omega
    rw [e]
    exact readGo_val l _ k (fun x hx => h x (List.mem_cons_of_mem _ hx)) (by simp at hl; omega) (by omega) (by omega)
theorem readGo_bad : ∀ (l : List UInt8) (a : Int), ¬ Digs l → readGo l a = -1
  | [], a, h => absurd (fun c hc => by cases hc) h
  | c :: l, a, h => by
    unfold readGo
    by_cases c1 : (c.toNat : Int) < 48
    · rw [if_pos c1]
    by_cases c2 : (c.toNat : Int) > 57
    · rw [if_neg c1, if_pos c2]
    rw [if_neg c1, if_neg c2]
    refine readGo_bad l _ fun hl => h fun x hx => ?_
    rcases List.mem_cons.1 hx with rfl | hx
    · omega
    · exact hl x hx
theorem valD_dec : ∀ n : Nat, valD 0 (Lib.decDigits n) = n := by
  intro n
  induction n using Nat.strongRecOn with
  | ind n ih =>
    by_cases h : n < 10
    · rw [dec_small h]
      show 10 * 0 + ((UInt8.ofNat (48 + n)).toNat - 48) = n
      rw [dig_nat h]; omega
    · rw [dec_big (by omega), valD_append, ih (n / 10) (by omega)]
      show 10 * (n / 10) + ((UInt8.ofNat (48 + n % 10)).toNat - 48) = n
      rw [dig_nat (by omega)]; omega
theorem dec_val : ∀ (k : Nat) (l : List UInt8), l.length = k + 1 → Digs l → (∀ c r, l = c :: r → 49 ≤ c.toNat ∨ r = []) → Lib.decDigits (valD 0 l) = l
  | 0, [c], _, h, _ => by
    have hc := h c List.mem_cons_self
    have e : valD 0 [c] = c.toNat - 48 := by show 10 * 0 + (c.toNat - 48) = _; omega
    rw [e, dec_small (by omega), show 48 + (c.toNat - 48) = c.toNat by omega, UInt8.ofNat_toNat]
  | k+1, l, hl, h, hd => by
    have hne : l ≠ [] := by intro e; rw [e] at hl; cases hl
    have hs := List.dropLast_concat_getLast hne
    generalize hc : l.getLast hne = c at hs
    generalize hr : l.dropLast = r at hs
    have hrl : r.length = k + 1 := by rw [← hr, List.length_dropLast, hl]; rfl
    have hcd : 48 ≤ c.toNat ∧ c.toNat ≤ 57 := h c (by rw [← hs]; simp)
    have hrd : Digs r := fun x hx => h x (by rw [← hs]; exact List.mem_append_left _ hx)
    have hrh : ∀ x t, r = x :: t → 49 ≤ x.toNat := by
      intro x t e
      have := hd x (t ++ [c]) (by rw [← hs, e]; rfl)
      rcases this with h1 | h1
      · exact h1
      · simp at h1
    have ih := dec_val k r hrl hrd (fun x t e => .inl (hrh x t e))
    have hpos : 1 ≤ valD 0 r := by
      cases r with
      | nil => cases hrl
      | cons x t =>
        have h1 := hrh x t rfl
        have h2 := valD_le t (10 * 0 + (x.toNat - 48))
        show 1 ≤ valD (10 * 0 + (x.toNat - 48)) t
        omega
    have ev : valD 0 l = 10 * valD 0 r + (c.toNat - 48) := by rw [← hs, valD_append]; rfl
    rw [ev, dec_big (by omega), show (10 * valD 0 r + (c.toNat - 48)) / 10 = valD 0 r by omega, ih, show 48 + (10 * valD 0 r + (c.toNat - 48)) % 10 = c.toNat by omega, UInt8.ofNat_toNat, hs]
theorem bt0 {s : ByteArray} {c : UInt8} {l : List UInt8} (h : s.data.toList = c :: l) : bt s 0 = (c.toNat : Int) := by
  have hlt : 0 < s.data.toList.length := by rw [h]; simp
  have := bt_at s 0 hlt
  simp only [h, List.getElem_cons_zero] at this
  exact this
theorem read_dec {n : Nat} (hn : n < 1000000) : readL (bsOf (Lib.decDigits n)) = (n : Int) := by
  have hl := dec_len 5 n (by show n < 10 ^ 6; have : (10 : Nat) ^ 6 = 1000000 := by decide
                             omega)
  have h0 : 0 < (Lib.decDigits n).length := List.length_pos_iff.2  (dec_ne n)
  unfold readL
  rw [bsOf_size, if_pos (inB_iff.2 ⟨by omega, by omega⟩), bsOf_list]
  have hg : readGo (Lib.decDigits n) 0 = (n : Int) := by
    have := readGo_val (Lib.decDigits n) 0 6 (dec_digits n) (by omega) (by omega) (by decide)
    rw [valD_dec] at this
    exact this
  rw [if_neg, hg]
  rintro ⟨h1, h2⟩
  cases hd : Lib.decDigits n with
  | nil => exact dec_ne n hd
  | cons c l =>
    have hb := bt0 (s := bsOf (Lib.decDigits n)) (by rw [bsOf_list, hd])
    by_cases hz : n = 0
    · subst hz
      rw [dec_small (by omega)] at h2
      simp at h2
    · have := dec_head n (by omega) c l hd
      omega
/-- what the reference reads is its number in decimal -/
theorem read_is {s : ByteArray} {n : Int} (h : readL s = n) (h0 : 0 ≤ n) : s = bsOf (Lib.decDigits n.toNat) ∧ n.toNat < 1000000 := by
  have hl : s.data.toList.length = s.size := Array.length_toList
  unfold readL at h
  by_cases h1 : inB s.size 1 6 = true
  · rw [if_pos h1] at h
    have hz := inB_iff.1 h1
    by_cases h2 : bt s 0 = 48 ∧ (s.size : Int) > 1
    · rw [if_pos h2] at h; omega
    · rw [if_neg h2] at h
      have hD : Digs s.data.toList := by
        apply Classical.byContradiction
        intro hn
        rw [readGo_bad _ _ hn] at h
        omega
      have hv := readGo_val s.data.toList 0 6 hD (by omega) (by omega) (by decide)
      have e : n.toNat = valD 0 s.data.toList := by rw [show ((0 : Nat) : Int) = 0 from rfl] at hv; omega
      have hdv : Lib.decDigits (valD 0 s.data.toList) = s.data.toList := by
        refine dec_val (s.size - 1) _ (by omega) hD ?_
        intro c r hc
        have hb := bt0 hc
        have hcd := hD c (by rw [hc]; exact List.mem_cons_self)
        by_cases e1 : r = []
        · exact .inr e1
        · refine .inl ?_
          have : 0 < r.length := List.length_pos_iff.2  e1
          rw [hc, List.length_cons] at hl
          apply Classical.byContradiction
          intro hh
          exact h2 ⟨by omega, by omega⟩
      refine ⟨?_, ?_⟩
      · rw [e, hdv, bsOf_eq]
      · rw [e]
        have hlen : ∀ (l : List UInt8) (a : Nat), Digs l → valD a l < (a + 1) * 10 ^ l.length := by
          intro l
          induction l with
          | nil => intro a _; show a < _; simp
          | cons c l ih =>
            intro a hd
            have hc := hd c List.mem_cons_self
            have := ih (10 * a + (c.toNat - 48)) (fun x hx => hd x (List.mem_cons_of_mem _ hx))
            show valD (10 * a + (c.toNat - 48)) l < _
            refine Nat.lt_of_lt_of_le this ?_
            rw [List.length_cons, Nat.pow_succ, Nat.mul_comm (10 ^ l.length) 10, ← Nat.mul_assoc]
            exact Nat.mul_le_mul_right _ (by omega)
        have h3 := hlen s.data.toList 0 hD
        have h4 : 10 ^ s.data.toList.length ≤ 10 ^ 6 := Nat.pow_le_pow_right (by omega) (by omega)
        have h5 : (10 : Nat) ^ 6 = 1000000 := by decide
        omega
  · rw [if_neg h1] at h; omega
/-! #### printed -/
theorem numsO_all : ∀ xs : List Int, numsO T0 5 xs = some xs
  | [] => rfl
  | x :: xs => by
    have ih := numsO_all xs
    unfold numsO at ih ⊢
    show (seqO _ (x :: xs)) = _
    unfold seqO
    show Option.bind (some x) _ = _
    rw [Option.bind_some, ih]; rfl
theorem strOf_digit {n : Int} (h0 : 0 ≤ n) (h1 : n < 10) : strOfNums [(IntKind.wrap .u8) (w64 (48 + n))] = bsOf [UInt8.ofNat (48 + n.toNat)] := by
  apply bs_ext
  rw [bsOf_list, w64s (by omega) (by omega), wrap8 (by omega) (by omega)]
  have : (48 + n).toNat = 48 + n.toNat := by omega
  simp [strOfNums, this]
theorem num_gk (M : Nat) : ∀ (k f n : Nat), n < 10 ^ (k + 1) → k ≤ 15 → k < f → zq73.gk M f (n : Int) = some (bsOf (Lib.decDigits n)) := by
  have one : ∀ (f m : Nat), m < 10 → zq73.gk M (f+1) (m : Int) = some (bsOf (Lib.decDigits m)) := by
    intro f m m1
    unfold zq73.gk zq73.s zq73.o0
    rw [dcT (by omega), cond_true, numsO_all, Option.bind_some, strOf_digit (by omega) (by omega), dec_small m1]; rfl
  intro k
  induction k with
  | zero =>
    intro f n h _ hf
    obtain ⟨f, rfl⟩ : ∃ j, f = j + 1 := ⟨f - 1, by omega⟩
    exact one f n (by simpa using h)
  | succ k ih =>
    intro f n h hk hf
    obtain ⟨f, rfl⟩ : ∃ j, f = j + 1 := ⟨f - 1, by omega⟩
    by_cases c : n < 10
    · exact one f n c
    · have hp : 10 ^ (k + 1 + 1) ≤ 10 ^ 17 := Nat.pow_le_pow_right (by omega) (by omega)
      have hp2 : (10 : Nat) ^ 17 = 100000000000000000 := by decide
      have e10 : w64 (Int.tdiv (n : Int) 10) = ((n / 10 : Nat) : Int) := by rw [Int.tdiv_eq_ediv_of_nonneg (by omega), w64s (by omega) (by omega)]; omega
      have e11 : Int.tmod (n : Int) 10 = ((n % 10 : Nat) : Int) := by rw [Int.tmod_eq_emod_of_nonneg (by omega)]; omega
      have e := ih f (n / 10) (by rw [Nat.pow_succ] at h; omega) (by omega) (by omega)
      have hlen2 : (Lib.decDigits (n / 10)).length ≤ k + 1 := dec_len k (n / 10) (by rw [Nat.pow_succ] at h; omega)
      rw [dec_big (by omega)]
      unfold zq73.gk zq73.s zq73.o0
      rw [dcF (by omega), cond_false, e10, e11, e, Option.bind_some, numsO_all, Option.bind_some, strOf_digit (by omega) (by omega), show Nat.ble _ _ = true from Nat.ble_eq_true_of_le (by rw [bsOf_size, bsOf_size, List.length_singleton]; omega), cond_true, bsOf_append]; rfl
theorem num_eq {N n : Nat} (hN : 100 ≤ N) (h1 : n < 1000000000000000) : zq73.g N (n : Int) = some (bsOf (Lib.decDigits n)) :=
  num_gk N 14 N n (by have : (10 : Nat) ^ 15 = 1000000000000000 := by decide
                      omega) (by omega) (by omega)
/-! ### greatest common divisors and parts, as the program counts them -/
theorem w64n {a : Nat} (h : a < 9000000000000000000) : w64 (a : Int) = (a : Int) := w64s (by omega) (by omega)
theorem gcd_l (N : Nat) : ∀ (n a b : Nat), b < n → a ≤ 1000000000000000 → b ≤ 1000000000000000 → zq21.l1 N n a b = some ((Nat.gcd a b : Nat) : Int)
  | n+1, a, b, hb, h1, h2 => by
    unfold zq21.l1 zq21.d1 zq21.o1
    by_cases e : b = 0
    · subst e
      rw [ineF (show ((0 : Nat) : Int) = 0 from rfl), cond_false, w64s (by omega) (by omega), if_neg (by omega), Nat.gcd_zero_right]
    · rw [ineT (by omega), cond_true, ieqF (by omega), cond_false, tmodN]
      have hm : a % b < b := Nat.mod_lt _ (by omega)
      refine (gcd_l N n b (a % b) (by omega) h2 (by omega)).trans ?_
      rw [Nat.gcd_comm b (a % b), ← Nat.gcd_rec, Nat.gcd_comm]
  | 0, _, _, hb, _, _ => by omega
theorem gcd_eq {N a b : Nat} (hb : b < N) (h1 : a ≤ 1000000000000000) (h2 : b ≤ 1000000000000000) : zq21.g N a b = some ((Nat.gcd a b : Nat) : Int) := gcd_l N N a b hb h1 h2
theorem common_l (N : Nat) : ∀ (n a b : Nat), b < n → a ≤ 1000000000000000 → b ≤ 1000000000000000 → zq52.l1 N n a b = some ((Nat.gcd a b : Nat) : Int)
  | n+1, a, b, hb, h1, h2 => by
    unfold zq52.l1 zq52.d1 zq52.o1
    by_cases e : b = 0
    · subst e
      rw [dcF (by omega), cond_false, Nat.gcd_zero_right]
    · rw [dcT (by omega), cond_true, ieqF (by omega), cond_false, tmodN]
      have hm : a % b < b := Nat.mod_lt _ (by omega)
      refine (common_l N n b (a % b) (by omega) h2 (by omega)).trans ?_
      rw [Nat.gcd_comm b (a % b), ← Nat.gcd_rec, Nat.gcd_comm]
  | 0, _, _, hb, _, _ => by omega
theorem common_eq {N a b : Nat} (hb : b < N) (h1 : a ≤ 1000000000000000) (h2 : b ≤ 1000000000000000) : zq52.g N a b = some ((Nat.gcd a b : Nat) : Int) := common_l N N a b hb h1 h2
theorem prI {x D : Nat} (hD : 1 ≤ D) (hx : x < D) : pr x D = (x / Nat.gcd x D, D / Nat.gcd x D) := by
  unfold pr; rw [Nat.mod_eq_of_lt hx]
theorem part_eq {N m D : Nat} (hN : D < N) (hD : 1 ≤ D) (h2 : D ≤ 1000000000000000) (h1 : m ≤ 1000000000000000) : zq26.g N m D = some (((pr m D).1 : Int), ((pr m D).2 : Int)) := by
  have hr : m % D < D := Nat.mod_lt _ (by omega)
  have hp : 0 < Nat.gcd (m % D) D := Nat.gcd_pos_of_pos_right _ (by omega)
  have e1 : m % D / Nat.gcd (m % D) D ≤ m % D := Nat.div_le_self _ _
  have e2 : D / Nat.gcd (m % D) D ≤ D := Nat.div_le_self _ _
  unfold zq26.g zq26.o0 zq20.g zq20.o0 zq20.d1 zq20.o1 pr
  rw [ieqF (show ¬ (D : Int) = 0 by omega), cond_false, cond_false, tmodN, dcF (by omega), cond_false]
  dsimp only
  rw [Option.bind_some]
  dsimp only
  rw [gcd_eq hN (by omega) h2, Option.bind_some, ieqF (by omega), cond_false, cond_false, tdivN, tdivN]
  generalize m % D / Nat.gcd (m % D) D = x at *
  generalize D / Nat.gcd (m % D) D = y at *
  rw [w64n (by omega), w64n (by omega)]
/-- below nothing: the mirror -/
theorem part_neg {N m D : Nat} (hN : D < N) (h0 : m < D) (h2 : D ≤ 1000000000000000) : zq26.g N (-(m : Int)) D = some (((pr (D - m) D).1 : Int), ((pr (D - m) D).2 : Int)) := by
  by_cases e : m = 0
  · subst e
    have : pr (D - 0) D = pr 0 D := by
      have := pr_add 0 1 D
      rw [← this]; congr 1; omega
    rw [this]
    exact part_eq (m := 0) hN (by omega) h2 (by omega)
  · have hlt : D - m < D := by omega
    have hp : 0 < Nat.gcd (D - m) D := Nat.gcd_pos_of_pos_right _ (by omega)
    have e1 : (D - m) / Nat.gcd (D - m) D ≤ D - m := Nat.div_le_self _ _
    have e2 : D / Nat.gcd (D - m) D ≤ D := Nat.div_le_self _ _
    have et : Int.tmod (-(m : Int)) (D : Int) = -(m : Int) := by
      rw [Int.neg_tmod, tmodN, Nat.mod_eq_of_lt h0]
    unfold zq26.g zq26.o0 zq20.g zq20.o0 zq20.d1 zq20.o1
    rw [prI (by omega) hlt, ieqF (show ¬ (D : Int) = 0 by omega), cond_false, cond_false, et, dcT (by omega), cond_true, show w64 (-(m : Int) + (D : Int)) = ((D - m : Nat) : Int) by rw [w64s (by omega) (by omega)]; omega]
    dsimp only
    rw [Option.bind_some]
    dsimp only
    rw [gcd_eq hN (by omega) h2, Option.bind_some, ieqF (by omega), cond_false, cond_false, tdivN, tdivN]
    generalize (D - m) / Nat.gcd (D - m) D = x at *
    generalize D / Nat.gcd (D - m) D = y at *
    rw [w64n (by omega), w64n (by omega)]
def mkV (f : Nat × Nat) : Int × Int × Bool := if f.2 ≤ 1000000 then ((f.1 : Int), (f.2 : Int), true) else (0, 0, false)
theorem make_core {N r D : Nat} (hN : D < N) (hr : r < D) (h2 : D ≤ 1000000000000000) (a : Int) (hm : Int.tmod (w64 ((Int.tmod a D) + D)) D = (r : Int)) : zq56.g N a D = some (mkV (pr r D)) := by
  have hp : 0 < Nat.gcd r D := Nat.gcd_pos_of_pos_right _ (by omega)
  have e1 : r / Nat.gcd r D ≤ r := Nat.div_le_self _ _
  have e2 : D / Nat.gcd r D ≤ D := Nat.div_le_self _ _
  unfold zq56.g zq56.o0
  rw [prI (by omega) hr, ieqF (by omega), cond_false, cond_false, hm, common_eq hN (by omega) h2, Option.bind_some, ieqF (by omega), cond_false, cond_false, tdivN, tdivN]
  unfold mkV
  dsimp only
  generalize r / Nat.gcd r D = x at *
  generalize D / Nat.gcd r D = y at *
  rw [w64n (by omega), w64n (by omega)]
  by_cases c : y ≤ 1000000
  · rw [if_pos c, dcF (by omega), cond_false]
  · rw [if_neg c, dcT (by omega), cond_true]
theorem make_eq {N m D : Nat} (hN : D < N) (hD : 1 ≤ D) (h2 : D ≤ 1000000000000000) : zq56.g N m D = some (mkV (pr m D)) := by
  have hr : m % D < D := Nat.mod_lt _ (by omega)
  rw [← pr_mod]
  refine make_core hN hr h2 _ ?_
  rw [tmodN, show w64 (((m % D : Nat) : Int) + (D : Int)) = ((m % D + D : Nat) : Int) by rw [w64s (by omega) (by omega)]; omega, tmodN, Nat.add_mod_right, Nat.mod_mod]
theorem make_neg {N m D : Nat} (hN : D < N) (h0 : m < D) (h2 : D ≤ 1000000000000000) : zq56.g N (-(m : Int)) D = some (mkV (pr (D - m) D)) := by
  have et : Int.tmod (-(m : Int)) (D : Int) = -(m : Int) := by rw [Int.neg_tmod, tmodN, Nat.mod_eq_of_lt h0]
  have hw : w64 (-(m : Int) + (D : Int)) = ((D - m : Nat) : Int) := by rw [w64s (by omega) (by omega)]; omega
  have hr : (D - m) % D < D := Nat.mod_lt _ (by omega)
  rw [← pr_mod]
  refine make_core hN hr h2 _ ?_
  rw [et, hw, tmodN]
theorem mkV_ok {f : Nat × Nat} (h : f.2 ≤ 1000000) : mkV f = ((f.1 : Int), (f.2 : Int), true) := if_pos h
/-! ### turns -/
structure Turn (n d : Nat) : Prop where
  lt : n < d
  le : d ≤ 1000000
  cop : Nat.gcd n d = 1
def turnB (n d : Int) : Bool := inB d 1 1000000 && (inB n 0 (d - 1) && (((Nat.gcd n.toNat d.toNat : Nat) : Int) == 1))
theorem turnB_iff {n d : Int} : turnB n d = true ↔ ∃ a b : Nat, n = a ∧ d = b ∧ Turn a b := by
  unfold turnB
  rw [Bool.and_eq_true, Bool.and_eq_true, inB_iff, inB_iff, beq_iff_eq]
  constructor
  · rintro ⟨h1, h2, h3⟩
    exact ⟨n.toNat, d.toNat, by omega, by omega, by omega, by omega, by omega⟩
  · rintro ⟨a, b, rfl, rfl, h⟩
    have := h.lt; have := h.le
    exact ⟨by omega, by omega, by rw [Int.toNat_natCast, Int.toNat_natCast, h.cop]; rfl⟩
theorem IsTurn_eq {N : Nat} (hN : 10000000 ≤ N) (n d : Int) : zq5.g N n d = some (turnB n d) := by
  unfold zq5.g zq5.o0 turnB
  rw [within_eq, Option.bind_some]
  cases h1 : inB d 1 1000000 with
  | false => rfl
  | true =>
    have h1' := inB_iff.1 h1
    rw [cond_true, w64s (by omega) (by omega), within_eq, Option.bind_some]
    cases h2 : inB n 0 (d - 1) with
    | false => rfl
    | true =>
      have h2' := inB_iff.1 h2
      obtain ⟨a, rfl⟩ := Int.eq_ofNat_of_zero_le h2'.1
      obtain ⟨b, rfl⟩ := Int.eq_ofNat_of_zero_le (show 0 ≤ d by omega)
      rw [cond_true, gcd_eq (by omega) (by omega) (by omega)]; rfl
theorem diGood_eq {N : Nat} (hN : 10000000 ≤ N) (n d : Int) : zq54.g N n d = some (turnB n d) := by
  unfold zq54.g zq54.o0 turnB
  rw [l1In_eq, Option.bind_some]
  cases h1 : inB d 1 1000000 with
  | false => rfl
  | true =>
    have h1' := inB_iff.1 h1
    rw [cond_true, w64s (by omega) (by omega), l1In_eq, Option.bind_some]
    cases h2 : inB n 0 (d - 1) with
    | false => rfl
    | true =>
      have h2' := inB_iff.1 h2
      obtain ⟨a, rfl⟩ := Int.eq_ofNat_of_zero_le h2'.1
      obtain ⟨b, rfl⟩ := Int.eq_ofNat_of_zero_le (show 0 ≤ d by omega)
      rw [cond_true, common_eq (by omega) (by omega) (by omega)]; rfl
def timeB (h n d : Int) : Bool := inB h 2 24 && turnB n d
theorem timeB_iff {h n d : Int} : timeB h n d = true ↔ ∃ k a b : Nat, h = k ∧ 2 ≤ k ∧ k ≤ 24 ∧ n = a ∧ d = b ∧ Turn a b := by
  unfold timeB
  rw [Bool.and_eq_true, inB_iff, turnB_iff]
  constructor
  · rintro ⟨h1, a, b, rfl, rfl, h2⟩
    exact ⟨h.toNat, a, b, by omega, by omega, by omega, rfl, rfl, h2⟩
  · rintro ⟨k, a, b, rfl, h1, h2, rfl, rfl, h3⟩
    exact ⟨by omega, a, b, rfl, rfl, h3⟩
theorem isTime_eq {N : Nat} (hN : 10000000 ≤ N) (h n d : Int) : zq25.g N h n d = some (timeB h n d) := by
  unfold zq25.g zq25.o0 timeB
  rw [isDial_eq, Option.bind_some]
  cases inB h 2 24 with
  | false => rfl
  | true => rw [cond_true, IsTurn_eq hN, Option.bind_some]; rfl
theorem diAsked_eq {N : Nat} (hN : 10000000 ≤ N) (h n d : Int) : zq51.g N h n d = some (timeB h n d) := by
  unfold zq51.g zq51.o0 timeB
  rw [diHours_eq, Option.bind_some]
  cases inB h 2 24 with
  | false => rfl
  | true => rw [cond_true, diGood_eq hN, Option.bind_some]; rfl
theorem pr_Turn {n d : Nat} (hd : 0 < d) (h6 : d ≤ 1000000) : Turn (pr n d).1 (pr n d).2 := by
  have := pr_spec (n := n) hd
  exact ⟨this.1, by omega, this.2.2.1⟩
theorem times_eq {N n d k : Nat} (hN : 10000000 ≤ N) (ht : Turn n d) (hk : k ≤ 1000000) : zq17.g N n d k = some (((pr (n * k) d).1 : Int), ((pr (n * k) d).2 : Int)) := by
  have h1 := ht.lt; have h2 := ht.le
  have h3 : n * k ≤ 1000000 * 1000000 := Nat.mul_le_mul (by omega) hk
  unfold zq17.g zq17.o0
  rw [← Int.natCast_mul, w64n (by omega), part_eq (by omega) (by omega) (by omega) (by omega)]; rfl
theorem diTimes_eq {N n d k : Nat} (hN : 10000000 ≤ N) (ht : Turn n d) (hk : k ≤ 1000000) : zq61.g N n d k = some (((pr (n * k) d).1 : Int), ((pr (n * k) d).2 : Int)) := by
  have h1 := ht.lt; have h2 := ht.le
  have h3 : n * k ≤ 1000000 * 1000000 := Nat.mul_le_mul (by omega) hk
  unfold zq61.g zq61.o0
  rw [← Int.natCast_mul, w64n (by omega), make_eq (by omega) (by omega) (by omega), mkV_ok (by have := (pr_spec (n := n * k) (d := d) (by omega)).2.1; omega)]; rfl
/-- a dial's time -/
structure Dial (k n d : Nat) : Prop where
  k1 : 2 ≤ k
  k2 : k ≤ 24
  t : Turn n d
theorem Dial.b {k n d : Nat} (h : Dial k n d) : timeB k n d = true := timeB_iff.2 ⟨k, n, d, rfl, h.k1, h.k2, rfl, rfl, h.t⟩
theorem Dial.p {k n d : Nat} (h : Dial k n d) : 0 < d := Nat.lt_of_le_of_lt (Nat.zero_le _) h.t.lt
theorem Dial.nk {k n d : Nat} (h : Dial k n d) : n * k ≤ 24000000 := by
  have := Nat.mul_le_mul (show n ≤ 1000000 by have := h.t.lt; have := h.t.le; omega) h.k2
  omega
def r3 (f : Nat × Nat) : Int × Int × Bool := ((f.1 : Int), (f.2 : Int), true)
theorem Long_yes {N k n d : Nat} (hN : 10000000 ≤ N) (h : Dial k n d) : zq6.g N k n d = some (r3 (pr (n * k) d)) ∧ zq43.g N k n d = some (r3 (pr (n * k) d)) := by
  have := h.k2
  constructor
  · unfold zq6.g zq6.o0
    rw [isTime_eq hN, h.b, Option.bind_some, Bool.not_true, cond_false, times_eq hN h.t (by omega)]; rfl
  · unfold zq43.g zq43.o0
    rw [diAsked_eq hN, h.b, Option.bind_some, Bool.not_true, cond_false, diTimes_eq hN h.t (by omega)]; rfl
theorem Long_no {N : Nat} {h n d : Int} (hN : 10000000 ≤ N) (hb : timeB h n d = false) : zq6.g N h n d = some (0, 0, false) ∧ zq43.g N h n d = some (0, 0, false) := by
  constructor
  · unfold zq6.g zq6.o0
    rw [isTime_eq hN, hb]; rfl
  · unfold zq43.g zq43.o0
    rw [diAsked_eq hN, hb]; rfl
theorem w1 {k : Nat} (h1 : 2 ≤ k) (h2 : k ≤ 24) : w64 ((k : Int) - 1) = ((k - 1 : Nat) : Int) := by rw [w64s (by omega) (by omega)]; omega
theorem Angle_yes {N k n d : Nat} (hN : 10000000 ≤ N) (h : Dial k n d) : zq3.g N k n d = some (r3 (pr (n * (k - 1)) d)) ∧ zq38.g N k n d = some (r3 (pr (n * (k - 1)) d)) := by
  have := h.k2
  constructor
  · unfold zq3.g zq3.o0
    rw [isTime_eq hN, h.b, Option.bind_some, Bool.not_true, cond_false, w1 h.k1 h.k2, times_eq hN h.t (by omega)]; rfl
  · unfold zq38.g zq38.o0
    rw [diAsked_eq hN, h.b, Option.bind_some, Bool.not_true, cond_false, w1 h.k1 h.k2, diTimes_eq hN h.t (by omega)]; rfl
theorem Angle_no {N : Nat} {h n d : Int} (hN : 10000000 ≤ N) (hb : timeB h n d = false) : zq3.g N h n d = some (0, 0, false) ∧ zq38.g N h n d = some (0, 0, false) := by
  constructor
  · unfold zq3.g zq3.o0
    rw [isTime_eq hN, hb]; rfl
  · unfold zq38.g zq38.o0
    rw [diAsked_eq hN, hb]; rfl
/-! ### the mirror and the smaller angle -/
theorem mirror_eq {N p q : Nat} (hN : 10000000 ≤ N) (h : Turn p q) : zq15.g N p q = some (((pr (q - p) q).1 : Int), ((pr (q - p) q).2 : Int)) ∧ zq57.g N p q = some (((pr (q - p) q).1 : Int), ((pr (q - p) q).2 : Int)) := by
  have h1 := h.lt; have h2 := h.le
  have e : w64 ((p : Int) * (-1)) = -(p : Int) := by rw [w64s (by omega) (by omega)]; omega
  constructor
  · unfold zq15.g zq15.o0 zq17.g zq17.o0
    rw [e, part_neg (by omega) h1 (by omega)]; rfl
  · unfold zq57.g zq57.o0 zq61.g zq61.o0
    rw [e, make_neg (by omega) h1 (by omega), mkV_ok (by have := (pr_spec (n := q - p) (d := q) (by omega)).2.1; omega)]; rfl
theorem mulT {a b c d : Nat} (h1 : Turn a b) (h2 : Turn c d) : a * d ≤ 1000000000000 := by
  have := Nat.mul_le_mul (show a ≤ 1000000 by have := h1.lt; have := h1.le; omega) h2.le
  omega
theorem compare_neg {N a b c d : Nat} (h1 : Turn a b) (h2 : Turn c d) : Tot (zq14.g N a b c d) (fun r => decide (r < 0) = decide (a * d < c * b)) ∧ Tot (zq53.g N a b c d) (fun r => decide (r < 0) = decide (a * d < c * b)) := by
  have e1 := mulT h1 h2
  have e2 := mulT h2 h1
  generalize hx : a * d = x at *
  generalize hy : c * b = y at *
  have w1 : w64 ((a : Int) * (d : Int)) = (x : Int) := by rw [← Int.natCast_mul, hx, w64n (by omega)]
  have w2 : w64 ((c : Int) * (b : Int)) = (y : Int) := by rw [← Int.natCast_mul, hy, w64n (by omega)]
  constructor
  · unfold zq14.g zq14.o0 zq0.g zq0.o0 zq1.g zq1.o0
    rw [w1, w2, ineF rfl, ineF rfl, Option.bind_some, Option.bind_some, cond_false, cond_false]
    by_cases c : x < y
    · rw [dcT (show (x : Int) < y by omega), cond_true]
      exact Tot.now (by simp [c])
    · rw [dcF (show ¬ (x : Int) < y by omega), cond_false]
      by_cases c2 : y < x
      · rw [dcT (show (x : Int) > y by omega), cond_true]
        exact Tot.now (by simp [c])
      · rw [dcF (show ¬ (x : Int) > y by omega), cond_false]
        exact Tot.now (by simp [c])
  · unfold zq53.g zq53.o0 zq75.g zq75.o0
    rw [w1, w2, w64s (by omega) (by omega)]
    by_cases c : x < y
    · rw [dcF (show ¬ ((x : Int) - y > 0) by omega), cond_false, dcT (show (x : Int) - y < 0 by omega), cond_true]
      exact Tot.now (by simp [c])
    · by_cases c2 : y < x
      · rw [dcT (show ((x : Int) - y > 0) by omega), cond_true]
        exact Tot.now (by simp [c])
      · rw [dcF (show ¬ ((x : Int) - y > 0) by omega), cond_false, dcF (show ¬ ((x : Int) - y < 0) by omega), cond_false]
        exact Tot.now (by simp [c])
def smallV (f : Nat × Nat) : Nat × Nat := if (pr (f.2 - f.1) f.2).1 * f.2 < f.1 * (pr (f.2 - f.1) f.2).2 then pr (f.2 - f.1) f.2 else f
theorem small_le {p q : Nat} (h : Turn p q) : 2 * (smallV (p, q)).1 ≤ (smallV (p, q)).2 := by
  have h1 := h.lt
  unfold smallV
  dsimp only
  by_cases e : p = 0
  · subst e
    have hq : q = 1 := by have := h.cop; rw [Nat.gcd_zero_left] at this; exact this
    subst hq
    decide
  · have hp : pr (q - p) q = (q - p, q) := by
      refine pr_low (by omega) ?_
      have := Nat.gcd_sub_self_left (m := p) (n := q) (by omega)
      have e2 : Nat.gcd (q - p) (p + (q - p)) = Nat.gcd (q - p) p := Nat.gcd_add_self_right ..
      rw [show p + (q - p) = q by omega] at e2
      rw [e2, this, Nat.gcd_comm]; exact h.cop
    rw [hp]
    dsimp only
    split
    · rename_i hc
      have := Nat.lt_of_mul_lt_mul_right hc
      show 2 * (q - p) ≤ q
      omega
    · rename_i hc
      have : ¬ (q - p < p) := fun hh => hc (Nat.mul_lt_mul_of_pos_right hh (by omega))
      show 2 * p ≤ q
      omega
theorem small_yes {N k n d : Nat} (hN : 10000000 ≤ N) (h : Dial k n d) : zq10.g N k n d = some (r3 (smallV (pr (n * (k - 1)) d))) ∧ zq47.g N k n d = some (r3 (smallV (pr (n * (k - 1)) d))) := by
  have hk := h.k2
  have ht := pr_Turn (n := n * (k - 1)) h.p h.t.le
  have hA := (Angle_yes hN h)
  generalize pr (n * (k - 1)) d = f at *
  have hf := ht.lt
  have hm := mirror_eq hN ht
  have htm := pr_Turn (n := f.2 - f.1) (d := f.2) (by omega) ht.le
  have hc := compare_neg (N := N) htm ht
  unfold smallV
  generalize pr (f.2 - f.1) f.2 = g at *
  constructor
  · unfold zq10.g zq10.o0
    rw [hA.1, Option.bind_some, show (r3 f).2.2 = true from rfl, Bool.not_true, cond_false, show (r3 f).1 = (f.1 : Int) from rfl, show (r3 f).2.1 = (f.2 : Int) from rfl, hm.1, Option.bind_some]
    obtain ⟨r, e1, e2⟩ := hc.1
    dsimp only
    rw [e1, Option.bind_some, e2]
    by_cases c : g.1 * f.2 < f.1 * g.2
    · rw [decide_eq_true c, if_pos c]; rfl
    · rw [decide_eq_false c, if_neg c]; rfl
  · have hT : zq61.g N n d (w64 ((k : Int) - 1)) = some ((f.1 : Int), (f.2 : Int)) := by
      have := hA.2
      unfold zq38.g zq38.o0 at this
      rw [diAsked_eq hN, h.b, Option.bind_some, Bool.not_true, cond_false] at this
      obtain ⟨u, hu, hv⟩ := Option.bind_eq_some_iff.1 this
      rw [hu]
      obtain ⟨u1, u2⟩ := u
      simp only [r3, Option.some.injEq, Prod.mk.injEq] at hv
      rw [hv.1, hv.2.1]
    unfold zq47.g zq47.o0
    rw [diAsked_eq hN, h.b, Option.bind_some, Bool.not_true, cond_false, hT, Option.bind_some]
    dsimp only
    rw [hm.2, Option.bind_some]
    obtain ⟨r, e1, e2⟩ := hc.2
    dsimp only
    rw [e1, Option.bind_some, e2]
    by_cases c : g.1 * f.2 < f.1 * g.2
    · rw [decide_eq_true c, if_pos c]; rfl
    · rw [decide_eq_false c, if_neg c]; rfl
theorem small_no {N : Nat} {h n d : Int} (hN : 10000000 ≤ N) (hb : timeB h n d = false) : zq10.g N h n d = some (0, 0, false) ∧ zq47.g N h n d = some (0, 0, false) := by
  constructor
  · unfold zq10.g zq10.o0
    rw [(Angle_no hN hb).1]; rfl
  · unfold zq47.g zq47.o0
    rw [diAsked_eq hN, hb]; rfl
/-! ### hours, minutes and seconds -/
theorem split_eq {N k n d : Nat} (hN : 10000000 ≤ N) (h : Dial k n d) : zq29.g N k n d = some (((n * k * 60 / d / 60 : Nat) : Int), ((n * k * 60 / d % 60 : Nat) : Int), ((pr (n * k * 60) d).1 : Int), ((pr (n * k * 60) d).2 : Int)) := by
  have h1 := h.nk
  have h2 := h.p; have h3 := h.t.le
  have e : w64 (w64 ((n : Int) * (k : Int)) * 60) = ((n * k * 60 : Nat) : Int) := by
    rw [← Int.natCast_mul, w64n (by omega), w64s (by omega) (by omega)]; omega
  have hq : n * k * 60 / d ≤ n * k * 60 := Nat.div_le_self _ _
  have hq2 : n * k * 60 / d / 60 ≤ n * k * 60 / d := Nat.div_le_self _ _
  unfold zq29.g zq29.o0
  rw [ieqF (by omega), cond_false, e, part_eq (by omega) (by omega) (by omega) (by omega), Option.bind_some, tdivN, w64n (by omega), show (60 : Int) = ((60 : Nat) : Int) from rfl, tdivN, tmodN, w64n (by omega)]
theorem Hour_yes {N k n d : Nat} (hN : 10000000 ≤ N) (h : Dial k n d) : zq4.g N k n d = some (((n * k * 60 / d / 60 : Nat) : Int), true) ∧ zq42.g N k n d = some (((n * k * 60 / d / 60 : Nat) : Int), true) := by
  have h1 := h.nk
  have h2 := h.p
  constructor
  · unfold zq4.g zq4.o0
    rw [isTime_eq hN, h.b, Option.bind_some, Bool.not_true, cond_false, split_eq hN h]; rfl
  · have e : n * k * 60 / d / 60 = n * k / d := by
      rw [Nat.div_div_eq_div_mul, Nat.mul_comm d 60, Nat.mul_comm (n * k) 60, Nat.mul_div_mul_left _ _ (by omega)]
    have hq : n * k / d ≤ n * k := Nat.div_le_self _ _
    unfold zq42.g zq42.o0
    rw [diAsked_eq hN, h.b, Option.bind_some, Bool.not_true, cond_false, ieqF (by omega), cond_false, ← Int.natCast_mul, w64n (by omega), tdivN, w64n (by omega), e]
theorem Hour_no {N : Nat} {h n d : Int} (hN : 10000000 ≤ N) (hb : timeB h n d = false) : zq4.g N h n d = some (0, false) ∧ zq42.g N h n d = some (0, false) := by
  constructor
  · unfold zq4.g zq4.o0
    rw [isTime_eq hN, hb]; rfl
  · unfold zq42.g zq42.o0
    rw [diAsked_eq hN, hb]; rfl
theorem Minute_yes {N k n d : Nat} (hN : 10000000 ≤ N) (h : Dial k n d) : zq7.g N k n d = some (((n * k * 60 / d % 60 : Nat) : Int), true) ∧ zq44.g N k n d = some (((n * k * 60 / d % 60 : Nat) : Int), true) := by
  have h1 := h.nk
  have h2 := h.p
  constructor
  · unfold zq7.g zq7.o0
    rw [isTime_eq hN, h.b, Option.bind_some, Bool.not_true, cond_false, split_eq hN h]; rfl
  · have hq : n * k * 60 / d ≤ n * k * 60 := Nat.div_le_self _ _
    have e : w64 (w64 ((n : Int) * (k : Int)) * 60) = ((n * k * 60 : Nat) : Int) := by
      rw [← Int.natCast_mul, w64n (by omega), w64s (by omega) (by omega)]; omega
    unfold zq44.g zq44.o0
    rw [diAsked_eq hN, h.b, Option.bind_some, Bool.not_true, cond_false, ieqF (by omega), cond_false, e, tdivN, w64n (by omega), show (60 : Int) = ((60 : Nat) : Int) from rfl, tmodN]
theorem Minute_no {N : Nat} {h n d : Int} (hN : 10000000 ≤ N) (hb : timeB h n d = false) : zq7.g N h n d = some (0, false) ∧ zq44.g N h n d = some (0, false) := by
  constructor
  · unfold zq7.g zq7.o0
    rw [isTime_eq hN, hb]; rfl
  · unfold zq44.g zq44.o0
    rw [diAsked_eq hN, hb]; rfl
theorem Second_yes {N k n d : Nat} (hN : 10000000 ≤ N) (h : Dial k n d) : zq9.g N k n d = some (r3 (pr (n * k * 60) d)) ∧ zq46.g N k n d = some (r3 (pr (n * k * 60) d)) := by
  have hk := h.k2
  constructor
  · unfold zq9.g zq9.o0
    rw [isTime_eq hN, h.b, Option.bind_some, Bool.not_true, cond_false, split_eq hN h]; rfl
  · have e : w64 (60 * (k : Int)) = ((60 * k : Nat) : Int) := by rw [w64s (by omega) (by omega)]; omega
    unfold zq46.g zq46.o0
    rw [diAsked_eq hN, h.b, Option.bind_some, Bool.not_true, cond_false, e, diTimes_eq hN h.t (by omega), show n * (60 * k) = n * k * 60 by rw [Nat.mul_assoc, Nat.mul_comm 60]]; rfl
theorem Second_no {N : Nat} {h n d : Int} (hN : 10000000 ≤ N) (hb : timeB h n d = false) : zq9.g N h n d = some (0, 0, false) ∧ zq46.g N h n d = some (0, 0, false) := by
  constructor
  · unfold zq9.g zq9.o0
    rw [isTime_eq hN, hb]; rfl
  · unfold zq46.g zq46.o0
    rw [diAsked_eq hN, hb]; rfl
/-! ### lists of turns -/
theorem idx_tot {N : Nat} (hN : 10000000 ≤ N) (l : List S25) (hl : l.length ≤ 1000000) : ∀ (j i m : Nat), i + j = l.length → j < m →
    Tot (zq37.l1 N m l l.length i) fun r => decide (r ≥ 0) = !((l.drop i).all fun t => turnB t.f0 t.f1)
  | 0, i, m+1, hi, hm => by
    unfold zq37.l1 zq37.d1 zq37.o1
    rw [dcF (by omega), cond_false, List.drop_eq_nil_of_le (by omega)]
    exact Tot.now rfl
  | j+1, i, m+1, hi, hm => by
    have hlt : i < l.length := by omega
    unfold zq37.l1 zq37.d1 zq37.o1 zq19.g zq19.o0
    rw [dcT (by omega), cond_true, dcT (by omega), cond_true, cond_true, Int.toNat_natCast, getAt hlt, IsTurn_eq hN, Option.bind_some, Option.bind_some, List.drop_eq_getElem_cons hlt, List.all_cons]
    cases hb : turnB l[i].f0 l[i].f1 with
    | false =>
      rw [Bool.not_false, cond_true]
      exact Tot.now (by simp)
    | true =>
      rw [Bool.not_true, cond_false, w1add (by omega), Bool.true_and]
      exact idx_tot hN l hl j (i + 1) m (by omega) (by omega)
  | _, _, 0, _, hm => by omega
theorem areTurns_eq {N : Nat} (hN : 10000000 ≤ N) (l : List S25) (hl : l.length ≤ 1000000) : zq18.g N l = some (l.all fun t => turnB t.f0 t.f1) := by
  obtain ⟨r, h1, h2⟩ := idx_tot hN l hl l.length 0 N (by omega) (by omega)
  unfold zq18.g zq18.o0 zq36.g zq36.o0 zq37.g zq37.o0
  dsimp only
  rw [show (zq37.l1 N N l (l.length : Int) 0) = some r from h1, Option.bind_some, h2, Option.bind_some, Bool.not_not, List.drop_zero]
theorem turnB_T {n d : Nat} (h : Turn n d) : turnB n d = true := turnB_iff.2 ⟨n, d, rfl, rfl, h⟩
/-- a time and the angle are the long hand -/
theorem Add_yes {N k n d : Nat} (hN : 1000000000000 < N) (h : Dial k n d) : zq2.g N n d ((pr (n * (k - 1)) d).1 : Int) ((pr (n * (k - 1)) d).2 : Int) = some (r3 (pr (n * k) d)) := by
  have ht := pr_Turn (n := n * (k - 1)) h.p h.t.le
  have hs := (pr_spec (n := n * (k - 1)) h.p).2.2.2
  have hd := Nat.mod_add_div (n * (k - 1)) d
  have hkk : n * k = n + n * (k - 1) := by
    obtain ⟨j, rfl⟩ : ∃ j, k = j + 1 := ⟨k - 1, by have := h.k1; omega⟩
    rw [Nat.add_sub_cancel, Nat.mul_succ, Nat.add_comm]
  generalize pr (n * (k - 1)) d = f at *
  generalize n * (k - 1) / d = z at *
  generalize n * (k - 1) % d = a at *
  have b1 := mulT h.t ht
  have b2 := mulT ht h.t
  have b3 : d * f.2 ≤ 1000000 * 1000000 := Nat.mul_le_mul h.t.le ht.le
  have hf := ht.lt
  have hdf : 0 < d * f.2 := Nat.mul_pos h.p (by omega)
  have key : pr (n * f.2 + f.1 * d) (d * f.2) = pr (n * k) d := by
    refine pr_eq z 0 hdf h.p ?_
    rw [hs, hkk, ← hd]
    simp only [Nat.add_mul, Nat.mul_add, Nat.mul_assoc, Nat.mul_comm, Nat.mul_left_comm, Nat.zero_mul, Nat.add_zero]
    omega
  unfold zq2.g zq2.o0
  rw [areTurns_eq (by omega) _ (by simp), Option.bind_some]
  simp only [List.all_cons, List.all_nil, turnB_T h.t, turnB_T ht, Bool.and_true, Bool.not_true, cond_false]
  unfold zq16.g zq16.o0 zq22.g zq22.o0
  have e1 : w64 (w64 ((n : Int) * (f.2 : Int)) + w64 ((f.1 : Int) * (d : Int))) = ((n * f.2 + f.1 * d : Nat) : Int) := by
    rw [← Int.natCast_mul, ← Int.natCast_mul, w64n (by omega), w64n (by omega), ← Int.natCast_add, w64n (by omega)]
  have e2 : w64 ((d : Int) * (f.2 : Int)) = ((d * f.2 : Nat) : Int) := by rw [← Int.natCast_mul, w64n (by omega)]
  rw [e1, e2, part_eq (by omega) (by omega) (by omega) (by omega), key, Option.bind_some, Option.bind_some]
  dsimp only
  rw [IsTurn_eq (by omega), turnB_T (pr_Turn h.p h.t.le), Option.bind_some]; rfl
/-! ### all times with a long hand -/
def sT (f : Nat × Nat) : S25 := ⟨(f.1 : Int), (f.2 : Int)⟩
def rt (n d k i : Nat) : Nat × Nat := pr (n + i * d) (d * k)
def rts (n d k i j : Nat) : List S25 := (List.range' i j).map fun x => sT (rt n d k x)
def okR (n d k i : Nat) : Bool := decide ((rt n d k i).2 ≤ 1000000)
theorem turnB_pr {n D : Nat} (hD : 0 < D) : turnB ((pr n D).1 : Int) ((pr n D).2 : Int) = decide ((pr n D).2 ≤ 1000000) := by
  have h := pr_spec (n := n) hD
  by_cases c : (pr n D).2 ≤ 1000000
  · rw [decide_eq_true c]
    exact turnB_T ⟨h.1, c, h.2.2.1⟩
  · rw [decide_eq_false c]
    cases hb : turnB ((pr n D).1 : Int) ((pr n D).2 : Int) with
    | false => rfl
    | true =>
      obtain ⟨a, b, h1, h2, h3⟩ := turnB_iff.1 hb
      have := h3.le
      omega
theorem rts_all {n d k : Nat} (hD : 0 < d * k) (i j : Nat) : ((rts n d k i j).all fun t => turnB t.f0 t.f1) = (List.range' i j).all (okR n d k) := by
  unfold rts
  rw [List.all_map]
  congr 1
  funext x
  exact turnB_pr hD
theorem rts_len (n d k i j : Nat) : (rts n d k i j).length = j := by unfold rts; rw [List.length_map, List.length_range']
theorem rts_succ (n d k i j : Nat) : rts n d k i (j + 1) = sT (rt n d k i) :: rts n d k (i + 1) j := rfl
theorem root_args {n d k i : Nat} (hd : d ≤ 1000000) (hn : n ≤ 1000000) (hk : k ≤ 24) (hi : i < k) : w64 ((n : Int) + w64 ((i : Int) * (d : Int))) = ((n + i * d : Nat) : Int) ∧ w64 ((d : Int) * (k : Int)) = ((d * k : Nat) : Int) ∧ n + i * d ≤ 100000000 ∧ d * k ≤ 100000000 := by
  have h1 := Nat.mul_le_mul (show i ≤ 24 by omega) hd
  have h2 := Nat.mul_le_mul hd hk
  refine ⟨?_, ?_, by omega, by omega⟩
  · rw [← Int.natCast_mul, w64n (by omega), ← Int.natCast_add, w64n (by omega)]
  · rw [← Int.natCast_mul, w64n (by omega)]
theorem roots_l {N : Nat} (hN : 100000000 < N) {n d k : Nat} (hd1 : 1 ≤ d) (hd : d ≤ 1000000) (hn : n ≤ 1000000) (hk : k ≤ 24) : ∀ (j i m : Nat) (acc : List S25), i + j = k → j < m → acc.length = i →
    zq28.l1 N m k acc k i n d = some (acc ++ rts n d k i j, (acc ++ rts n d k i j).all fun t => turnB t.f0 t.f1)
  | 0, i, m+1, acc, hi, hm, ha => by
    unfold zq28.l1 zq28.d1 zq28.o1
    rw [dcF (by omega), cond_false, areTurns_eq (by omega) _ (by omega), Option.bind_some]
    show _ = some (acc ++ [], (acc ++ []).all _)
    rw [List.append_nil]
  | j+1, i, m+1, acc, hi, hm, ha => by
    obtain ⟨e1, e2, e3, e4⟩ := root_args (n := n) hd hn hk (show i < k by omega)
    have hp : 1 ≤ d * k := Nat.mul_pos (by omega) (by omega)
    unfold zq28.l1 zq28.d1 zq28.o1
    rw [dcT (by omega), cond_true, e1, e2, part_eq (by omega) hp (by omega) (by omega), Option.bind_some, blT (by simp; omega), cond_true, w1add (by omega)]
    refine (roots_l hN hd1 hd hn hk j (i + 1) m (acc ++ [sT (rt n d k i)]) (by omega) (by omega) (by simp; omega)).trans ?_
    rw [rts_succ, List.append_assoc]; rfl
  | _, _, 0, _, _, hm, _ => by omega
def timesL (n d k : Nat) : List S25 × Bool := if (List.range' 0 k).all (okR n d k) = true then (rts n d k 0 k, true) else ([], false)
theorem ifRoots_eq {N : Nat} (hN : 100000000 < N) {n d k : Nat} (hd1 : 1 ≤ d) (hd : d ≤ 1000000) (hn : n ≤ 1000000) (hk1 : 1 ≤ k) (hk : k ≤ 24) :
    ((zq28.g N n d k).bind fun r2 => (zq23.g N r2.1 r2.2).bind fun r3 => some (r3.1, r3.2)) = some (timesL n d k) := by
  have hp : 0 < d * k := Nat.mul_pos (by omega) (by omega)
  have h := roots_l hN hd1 hd hn hk k 0 N [] (by omega) (by omega) rfl
  rw [List.nil_append, rts_all hp] at h
  unfold zq28.g zq28.o0 timesL
  dsimp only
  rw [show (zq28.l1 N N k ([] : List S25) k 0 n d) = _ from h, Option.bind_some]
  dsimp only
  unfold zq23.g zq23.o0 zq23.d1 zq23.o1
  cases hb : (List.range' 0 k).all (okR n d k) with
  | false => rw [if_neg (by simp)]; rfl
  | true =>
    rw [Bool.not_true, cond_false, areTurns_eq (by omega) _ (by rw [rts_len]; omega), rts_all hp, hb, if_pos rfl]; rfl
theorem slong_l2 {N : Nat} (hN : 100000000 < N) {n d k : Nat} (hd1 : 1 ≤ d) (hd : d ≤ 1000000) (hn : n ≤ 1000000) (hk : k ≤ 24) : ∀ (j i m : Nat) (acc : List S25), i + j = k → j < m → acc.length = i →
    zq50.l2 N m k acc i n d = some (if (List.range' i j).all (okR n d k) = true then (acc ++ rts n d k i j, true) else ([], false))
  | 0, i, m+1, acc, hi, hm, ha => by
    unfold zq50.l2 zq50.d2 zq50.o2
    rw [dcF (by omega), cond_false]
    show _ = some (acc ++ [], true)
    rw [List.append_nil]
  | j+1, i, m+1, acc, hi, hm, ha => by
    obtain ⟨e1, e2, e3, e4⟩ := root_args (n := n) hd hn hk (show i < k by omega)
    have hp : 1 ≤ d * k := Nat.mul_pos (by omega) (by omega)
    unfold zq50.l2 zq50.d2 zq50.o2
    rw [dcT (by omega), cond_true, e1, e2, make_eq (by omega) hp (by omega), Option.bind_some, List.range'_succ, List.all_cons]
    unfold mkV
    by_cases c : (rt n d k i).2 ≤ 1000000
    · have c' : (pr (n + i * d) (d * k)).2 ≤ 1000000 := c
      rw [if_pos c', show okR n d k i = true from decide_eq_true c, Bool.true_and, Bool.not_true, cond_false, blT (by simp; omega), cond_true, w1add (by omega)]
      refine (slong_l2 hN hd1 hd hn hk j (i + 1) m (acc ++ [sT (rt n d k i)]) (by omega) (by omega) (by simp; omega)).trans ?_
      rw [rts_succ, List.append_assoc]; rfl
    · have c' : ¬ (pr (n + i * d) (d * k)).2 ≤ 1000000 := c
      rw [if_neg c', show okR n d k i = false from decide_eq_false c, Bool.false_and, Bool.not_false, cond_true, if_neg (by simp)]
  | _, _, 0, _, _, hm, _ => by omega
theorem slong_l1 (N m : Nat) (a b c d : Int) : zq50.l1 N m a b c d = zq50.l2 N m a [] b c d := by
  cases m <;> rfl
theorem Times_yes {N k n d : Nat} (hN : 100000000 < N) (h : Dial k n d) : zq13.g N k n d = some (timesL n d k) ∧ zq50.g N k n d = some (timesL n d k) := by
  have h1 := h.k1; have h2 := h.k2; have h3 := h.p; have h4 := h.t.le; have h5 := h.t.lt
  constructor
  · unfold zq13.g zq13.o0
    rw [isTime_eq (by omega), h.b, Option.bind_some, Bool.not_true, cond_false]
    exact ifRoots_eq hN (by omega) h4 (by omega) (by omega) h2
  · have hl := slong_l2 hN (n := n) (show 1 ≤ d by omega) h4 (by omega) h2 k 0 N [] (by omega) (by omega) rfl
    rw [List.nil_append] at hl
    unfold zq50.g zq50.o0
    rw [diAsked_eq (by omega), h.b, Option.bind_some, Bool.not_true, cond_false]
    dsimp only
    rw [slong_l1]
    exact hl
theorem Times_no {N : Nat} {h n d : Int} (hN : 10000000 ≤ N) (hb : timeB h n d = false) : zq13.g N h n d = some ([], false) ∧ zq50.g N h n d = some ([], false) := by
  constructor
  · unfold zq13.g zq13.o0
    rw [isTime_eq hN, hb]; rfl
  · unfold zq50.g zq50.o0
    rw [diAsked_eq hN, hb]; rfl
/-! ### the text of a time -/
theorem itoa_eq (N : Nat) {n : Nat} (h1 : n ≤ 9223372036854775807) : zq78.g N (n : Int) = some (bsOf (Lib.decDigits n)) := by
  unfold zq78.g
  rw [dcT (by omega), dcT (by omega)]
  show some (⟨(Lib.itoa (n : Int)).toArray⟩ : ByteArray) = _
  have : Lib.itoa (n : Int) = Lib.decDigits n := by unfold Lib.itoa; rw [if_neg (by omega)]; simp
  rw [this]; rfl
def dd (v : Nat) : List UInt8 := [UInt8.ofNat (48 + v / 10), UInt8.ofNat (48 + v % 10)]
theorem hb {R : Type} {a : Nat} {x : Option R} (h : a ≤ 1000000) : (bif Nat.ble a 9223372036854775807 then x else none) = x := by
  rw [Nat.ble_eq_true_of_le (by omega), cond_true]
theorem lit48 : (⟨#[48]⟩ : ByteArray) = bsOf [48] := rfl
theorem lit58 : (⟨#[58]⟩ : ByteArray) = bsOf [58] := rfl
theorem lit43 : (⟨#[43]⟩ : ByteArray) = bsOf [43] := rfl
theorem lit47 : (⟨#[47]⟩ : ByteArray) = bsOf [47] := rfl
theorem dd_small {v : Nat} (h : v < 10) : dd v = [48] ++ Lib.decDigits v := by
  rw [dec_small h]; unfold dd
  rw [show v / 10 = 0 by omega, show v % 10 = v by omega]; rfl
theorem dd_big {v : Nat} (h1 : 10 ≤ v) (h2 : v < 100) : dd v = Lib.decDigits v := by
  rw [dec_big h1, dec_small (by omega)]; rfl
theorem two_eq {N v : Nat} (hN : 100 ≤ N) (h : v < 100) : zq30.g N v = some (bsOf (dd v)) ∧ zq62.g N v = some (bsOf (dd v)) := by
  have hl : (Lib.decDigits v).length ≤ 2 := dec_len 1 v (by simpa using h)
  by_cases c : v < 10
  · constructor
    · unfold zq30.g zq30.o0
      rw [dcT (by omega), cond_true, itoa_eq N (by omega), Option.bind_some, hb (by rw [lit48, bsOf_size, bsOf_size, List.length_singleton]; omega), lit48, bsOf_append, dd_small c]
    · unfold zq62.g zq62.o0
      rw [dcT (by omega), cond_true, num_eq hN (by omega), Option.bind_some, hb (by rw [lit48, bsOf_size, bsOf_size, List.length_singleton]; omega), lit48, bsOf_append, dd_small c]
  · constructor
    · unfold zq30.g zq30.o0
      rw [dcF (by omega), cond_false, itoa_eq N (by omega), Option.bind_some, dd_big (by omega) h]
    · unfold zq62.g zq62.o0
      rw [dcF (by omega), cond_false, num_eq hN (by omega), Option.bind_some, dd_big (by omega) h]
def tailL (f : Nat × Nat) : List UInt8 := if f.1 = 0 then [] else [43] ++ Lib.decDigits f.1 ++ [47] ++ Lib.decDigits f.2
/-- the text; M: minutes times d -/
def timeL (M d : Nat) : List UInt8 := dd (M / d / 60) ++ [58] ++ dd (M / d % 60) ++ [58] ++ dd (60 * (M % d) / d) ++ tailL (pr (60 * M) d)
theorem dd_len (v : Nat) : (dd v).length = 2 := rfl
theorem tail_len {f : Nat × Nat} (h : f.1 < f.2) (h2 : f.2 ≤ 999999) : (tailL f).length ≤ 14 := by
  have e : (10 : Nat) ^ 6 = 1000000 := by decide
  have h3 := dec_len 5 f.1 (by omega)
  have h4 := dec_len 5 f.2 (by omega)
  unfold tailL
  split
  · simp
  · simp only [List.length_append, List.length_singleton]; omega
theorem div60 {M d k n : Nat} (hM : M = n * k * 60) (hd : n < d) (hk : k ≤ 24) : M / d < 1440 := by
  subst hM
  refine Nat.div_lt_of_lt_mul ?_
  have : n * k ≤ n * 24 := Nat.mul_le_mul_left _ hk
  omega
theorem hms {S W s : Nat} (h : S = 60 * W + s) (h2 : s < 60) : S / 3600 = W / 60 ∧ S / 60 % 60 = W % 60 ∧ S % 60 = s := by omega
theorem text_yes {N k n d : Nat} (hN : 10000000 ≤ N) (h : Dial k n d) : zq12.g N k n d = some (bsOf (timeL (n * k * 60) d), true) ∧ zq49.g N k n d = some (bsOf (timeL (n * k * 60) d), true) ∧ zq59.g N k n d = some (bsOf (timeL (n * k * 60) d)) := by
  have h1 := h.nk; have h2 := h.p; have h3 := h.t.le; have h4 := h.k2; have h5 := h.t.lt
  have hW := div60 (M := n * k * 60) rfl h5 h4
  have hS := S_eq (M := n * k * 60) h2
  have hds := den_small (X := n * k) h2 h3
  have hm := more_eq (M := n * k * 60) h2
  have hse := sec_eq (M := n * k * 60) h2
  have hx := pr_spec (n := n * k * 60) h2
  rw [show 3600 * (n * k) = 60 * (n * k * 60) by omega] at hds
  have hf := pr_spec (n := 60 * (n * k * 60)) h2
  have hsplit := split_eq hN h
  have eM : w64 (w64 ((n : Int) * (k : Int)) * 3600) = ((60 * (n * k * 60) : Nat) : Int) := by
    rw [← Int.natCast_mul, w64n (by omega), w64s (by omega) (by omega)]; omega
  have eT : zq61.g N n d (w64 ((k : Int) * 3600)) = some (((pr (60 * (n * k * 60)) d).1 : Int), ((pr (60 * (n * k * 60)) d).2 : Int)) := by
    rw [show w64 ((k : Int) * 3600) = ((k * 3600 : Nat) : Int) by rw [w64s (by omega) (by omega)]; omega, diTimes_eq hN h.t (by omega), show n * (k * 3600) = 60 * (n * k * 60) by rw [← Nat.mul_assoc]; omega]
  have hM2 : 60 * (n * k * 60) / d ≤ 60 * (n * k * 60) := Nat.div_le_self _ _
  generalize n * k * 60 = M at *
  have tl := tail_len hf.1 hds
  have e6 : (10 : Nat) ^ 6 = 1000000 := by decide
  have l1 := dec_len 5 (pr (60 * M) d).1 (by omega)
  have l2 := dec_len 5 (pr (60 * M) d).2 (by omega)
  have tails : (pr (60 * M) d).1 ≠ 0 → tailL (pr (60 * M) d) = [43] ++ Lib.decDigits (pr (60 * M) d).1 ++ [47] ++ Lib.decDigits (pr (60 * M) d).2 := fun hh => by unfold tailL; rw [if_neg hh]
  have tail0 : (pr (60 * M) d).1 = 0 → tailL (pr (60 * M) d) = [] := fun hh => by unfold tailL; rw [if_pos hh]
  have impl : zq12.g N k n d = some (bsOf (timeL M d), true) := by
    unfold zq12.g zq12.o0
    rw [isTime_eq hN, h.b, Option.bind_some, Bool.not_true, cond_false, hsplit, Option.bind_some]
    dsimp only
    rw [(two_eq (by omega) (by omega)).1, Option.bind_some, hb (by simp [lit58, bsOf_size, dd_len]), (two_eq (by omega) (by omega)).1, Option.bind_some, hb (by simp [lit58, bsOf_size, bsOf_append, dd_len]), hb (by simp [lit58, bsOf_size, bsOf_append, dd_len]), ieqF (by omega), cond_false]
    have ex : w64 (((pr M d).1 : Int) * 60) = (((pr M d).1 * 60 : Nat) : Int) := by rw [w64s (by omega) (by omega)]; omega
    rw [ex, tdivN, hse, w64n (by omega), (two_eq (by omega) (by omega)).1, Option.bind_some, hb (by simp [lit58, bsOf_size, bsOf_append, dd_len]), part_eq (by omega) (by omega) (by omega) (by omega), hm, Option.bind_some]
    dsimp only
    unfold timeL zq12.d1 zq12.o1
    by_cases c : (pr (60 * M) d).1 = 0
    · rw [dcF (by omega), cond_false, tail0 c]
      simp only [lit58, bsOf_append, List.append_nil]
    · rw [dcT (by omega), cond_true, itoa_eq N (by omega), Option.bind_some, hb (by simp [lit43, bsOf_size]; omega), hb (by simp [lit43, lit47, bsOf_size, bsOf_append]; omega), itoa_eq N (by omega), Option.bind_some, hb (by simp [lit43, lit47, bsOf_size, bsOf_append]; omega), hb (by simp [lit43, lit47, lit58, bsOf_size, bsOf_append, dd_len]; omega), tails c]
      simp only [lit58, lit43, lit47, bsOf_append, List.append_assoc]
  have spec : zq59.g N k n d = some (bsOf (timeL M d)) := by
    unfold zq59.g zq59.o0
    obtain ⟨a1, a2, a3⟩ := hms hS.1 hS.2
    rw [ieqF (by omega), cond_false, eM, tdivN, w64n (by omega), show (3600 : Int) = ((3600 : Nat) : Int) from rfl, show (60 : Int) = ((60 : Nat) : Int) from rfl, tdivN, tdivN, tmodN, w64n (by omega), w64n (by omega), tmodN, a1, a2, a3]
    rw [(two_eq (by omega) (by omega)).2, Option.bind_some, hb (by simp [lit58, bsOf_size, dd_len]), (two_eq (by omega) (by omega)).2, Option.bind_some, hb (by simp [lit58, bsOf_size, bsOf_append, dd_len]), hb (by simp [lit58, bsOf_size, bsOf_append, dd_len])]
    rw [(two_eq (by omega) (by omega)).2, Option.bind_some, hb (by simp [lit58, bsOf_size, bsOf_append, dd_len]), show ((3600 : Nat) : Int) = 3600 from rfl, eT, Option.bind_some]
    dsimp only
    unfold timeL zq59.d1 zq59.o1
    by_cases c : (pr (60 * M) d).1 = 0
    · rw [dcF (by omega), cond_false, tail0 c]
      simp only [lit58, bsOf_append, List.append_nil]
    · rw [dcT (by omega), cond_true, num_eq (by omega) (by omega), Option.bind_some, hb (by simp [lit43, bsOf_size]; omega), hb (by simp [lit43, lit47, bsOf_size, bsOf_append]; omega), num_eq (by omega) (by omega), Option.bind_some, hb (by simp [lit43, lit47, bsOf_size, bsOf_append]; omega), hb (by simp [lit43, lit47, lit58, bsOf_size, bsOf_append, dd_len]; omega), tails c]
      simp only [lit58, lit43, lit47, bsOf_append, List.append_assoc]
  refine ⟨impl, ?_, spec⟩
  unfold zq49.g zq49.o0
  rw [diAsked_eq hN, h.b, Option.bind_some, Bool.not_true, cond_false, spec]; rfl
theorem text_no {N : Nat} {h n d : Int} (hN : 10000000 ≤ N) (hb : timeB h n d = false) : zq12.g N h n d = some (⟨#[]⟩, false) ∧ zq49.g N h n d = some (⟨#[]⟩, false) := by
  constructor
  · unfold zq12.g zq12.o0
    rw [isTime_eq hN, hb]; rfl
  · unfold zq49.g zq49.o0
    rw [diAsked_eq hN, hb]; rfl
/-! ### the reference reads a time -/
abbrev no3 : Option (Int × Int × Bool) := some (0, 0, false)
def isD (c : UInt8) : Prop := 48 ≤ c.toNat ∧ c.toNat ≤ 57
theorem bt_get {s : ByteArray} {l : List UInt8} (h : s.data.toList = l) {i : Nat} {c : UInt8} (hc : l[i]? = some c) : bt s (i : Int) = (c.toNat : Int) := by
  obtain ⟨h1, h2⟩ := List.getElem?_eq_some_iff.1 hc
  subst h
  rw [bt_at s i h1, h2]
theorem digW {c : UInt8} (h : isD c) : w64 ((IntKind.wrap .u8) ((c.toNat : Int) - 48)) = ((c.toNat - 48 : Nat) : Int) := by
  rw [wrap8 (by have := h.1; omega) (by have := h.2; omega), w64s (by have := h.1; omega) (by have := h.2; omega)]
  have := h.1; omega
theorem step0 {N m : Nat} {h a b : Int} {s : ByteArray} {c : UInt8} (hs : 0 < s.size) (hc : bt s 0 = (c.toNat : Int)) :
    (isD c → zq58.l2 N (m + 1) h s 0 a b = zq58.l6 N m h s [((10 * (c.toNat - 48) : Nat) : Int)] 1 a b) ∧ (¬ isD c → zq58.l2 N (m + 1) h s 0 a b = no3) := by
  have e1 : zq58.l2 N (m + 1) h s 0 a b = (bif (decide (((c.toNat : Int)) < 48)) then zq58.d4 N h s 0 true a b (fun w0 w1 w2 w3 w4 w5 => zq58.l6 N m w0 w1 w2 w3 w4 w5) else zq58.d4 N h s 0 (decide ((c.toNat : Int) > 57)) a b (fun w0 w1 w2 w3 w4 w5 => zq58.l6 N m w0 w1 w2 w3 w4 w5)) := by
    show zq58.d2 N h s 0 a b _ _ = _
    unfold zq58.d2 zq58.o2
    rw [dcT (by omega), cond_true, ieqF (by decide), cond_false, dcT (by omega), cond_true, dcT (show (0 : Int) < (s.size : Int) by omega), cond_true, cond_true, cond_true, hc]
  constructor
  · intro hd
    have h1 := hd.1; have h2 := hd.2
    rw [e1, dcF (by omega), cond_false, dcF (by omega)]
    unfold zq58.d4 zq58.o4 zq58.d5 zq58.o5
    rw [cond_false, ieqT (by decide), cond_true, dcT (by omega), cond_true, dcT (show (0 : Int) < (s.size : Int) by omega), cond_true, blT (by simp), cond_true, hc, digW hd]
    rw [show w64 (10 * ((c.toNat - 48 : Nat) : Int)) = ((10 * (c.toNat - 48) : Nat) : Int) by rw [w64s (by omega) (by omega)]; omega]
    rfl
  · intro hd
    rw [e1]
    by_cases c1 : (c.toNat : Int) < 48
    · rw [dcT c1, cond_true]; rfl
    · rw [dcF c1, cond_false, dcT (show (c.toNat : Int) > 57 by unfold isD at hd; omega)]; rfl
theorem stepC {N m i : Nat} {h a b : Int} {s : ByteArray} {v : List Int} {c : UInt8} (hi : i < 8) (h3 : i % 3 = 2) (hs : i < s.size) (hc : bt s (i : Int) = (c.toNat : Int)) :
    (c = 58 → zq58.l6 N (m + 1) h s v i a b = zq58.l6 N m h s v ((i + 1 : Nat) : Int) a b) ∧ (c ≠ 58 → zq58.l6 N (m + 1) h s v i a b = no3) := by
  have e1 : zq58.l6 N (m + 1) h s v i a b = (bif ((c.toNat : Int) != 58) then no3 else zq58.l6 N m h s v ((i + 1 : Nat) : Int) a b) := by
    show zq58.d6 N h s v i a b _ = _
    unfold zq58.d6 zq58.o6 zq58.d5 zq58.o5
    rw [dcT (by omega), cond_true, show (3 : Int) = ((3 : Nat) : Int) from rfl, tmodN, h3, ieqT (show ((2 : Nat) : Int) = 2 from rfl), cond_true, dcT (by omega), cond_true, dcT (show (i : Int) < (s.size : Int) by omega), cond_true, hc]
    dsimp only
    rw [w1add (by omega)]
  constructor
  · intro e
    subst e
    rw [e1, ineF (by decide)]; rfl
  · intro e
    rw [e1, ineT (fun hh => e (UInt8.toNat_inj.1 (by show c.toNat = 58; omega)))]; rfl
theorem stepT {N m i : Nat} {h a b : Int} {s : ByteArray} {v : List Int} {c : UInt8} (hi : i < 8) (h3 : i % 3 = 0) (hv : v.length ≤ 3) (hs : i < s.size) (hc : bt s (i : Int) = (c.toNat : Int)) :
    (isD c → zq58.l6 N (m + 1) h s v i a b = zq58.l6 N m h s (v ++ [((10 * (c.toNat - 48) : Nat) : Int)]) ((i + 1 : Nat) : Int) a b) ∧ (¬ isD c → zq58.l6 N (m + 1) h s v i a b = no3) := by
  have e1 : zq58.l6 N (m + 1) h s v i a b = (bif (decide (((c.toNat : Int)) < 48)) then zq58.d7 N h s v i true a b (fun w0 w1 w2 w3 w4 w5 => zq58.l6 N m w0 w1 w2 w3 w4 w5) else zq58.d7 N h s v i (decide ((c.toNat : Int) > 57)) a b (fun w0 w1 w2 w3 w4 w5 => zq58.l6 N m w0 w1 w2 w3 w4 w5)) := by
    show zq58.d6 N h s v i a b _ = _
    unfold zq58.d6 zq58.o6
    rw [dcT (by omega), cond_true, show (3 : Int) = ((3 : Nat) : Int) from rfl, tmodN, h3, ieqF (by decide), cond_false, dcT (by omega), cond_true, dcT (show (i : Int) < (s.size : Int) by omega), cond_true, cond_true, cond_true, hc]
  constructor
  · intro hd
    have h1 := hd.1; have h2 := hd.2
    rw [e1, dcF (by omega), cond_false, dcF (by omega)]
    unfold zq58.d7 zq58.o7 zq58.d5 zq58.o5
    rw [cond_false, show (3 : Int) = ((3 : Nat) : Int) from rfl, tmodN, h3, ieqT (show ((0 : Nat) : Int) = 0 from rfl), cond_true, dcT (by omega), cond_true, dcT (show (i : Int) < (s.size : Int) by omega), cond_true, blT (by simp; omega), cond_true, hc, digW hd]
    rw [show w64 (10 * ((c.toNat - 48 : Nat) : Int)) = ((10 * (c.toNat - 48) : Nat) : Int) by rw [w64s (by omega) (by omega)]; omega]
    dsimp only
    rw [w1add (by omega)]
  · intro hd
    rw [e1]
    by_cases c1 : (c.toNat : Int) < 48
    · rw [dcT c1, cond_true]; rfl
    · rw [dcF c1, cond_false, dcT (show (c.toNat : Int) > 57 by unfold isD at hd; omega)]; rfl
theorem stepU {N m i x : Nat} {h a b : Int} {s : ByteArray} {v : List Int} {c : UInt8} (hi : i < 8) (h3 : i % 3 = 1) (hv : v.length ≤ 3) (hx : x ≤ 1000) (hs : i < s.size) (hc : bt s (i : Int) = (c.toNat : Int)) :
    (isD c → zq58.l6 N (m + 1) h s (v ++ [(x : Int)]) i a b = zq58.l6 N m h s (v ++ [((x + (c.toNat - 48) : Nat) : Int)]) ((i + 1 : Nat) : Int) a b) ∧ (¬ isD c → zq58.l6 N (m + 1) h s (v ++ [(x : Int)]) i a b = no3) := by
  have e1 : zq58.l6 N (m + 1) h s (v ++ [(x : Int)]) i a b = (bif (decide (((c.toNat : Int)) < 48)) then zq58.d7 N h s (v ++ [(x : Int)]) i true a b (fun w0 w1 w2 w3 w4 w5 => zq58.l6 N m w0 w1 w2 w3 w4 w5) else zq58.d7 N h s (v ++ [(x : Int)]) i (decide ((c.toNat : Int) > 57)) a b (fun w0 w1 w2 w3 w4 w5 => zq58.l6 N m w0 w1 w2 w3 w4 w5)) := by
    show zq58.d6 N h s (v ++ [(x : Int)]) i a b _ = _
    unfold zq58.d6 zq58.o6
    rw [dcT (by omega), cond_true, show (3 : Int) = ((3 : Nat) : Int) from rfl, tmodN, h3, ieqF (by decide), cond_false, dcT (by omega), cond_true, dcT (show (i : Int) < (s.size : Int) by omega), cond_true, cond_true, cond_true, hc]
  constructor
  · intro hd
    have h1 := hd.1; have h2 := hd.2
    have hlen : (v ++ [(x : Int)]).length = v.length + 1 := by simp
    have hw : w64 ((((v ++ [(x : Int)]).length : Nat) : Int) - 1) = (v.length : Int) := by rw [hlen, w64s (by omega) (by omega)]; omega
    have hg : (v ++ [(x : Int)])[v.length]? = some (x : Int) := by rw [List.getElem?_append_right (by omega), Nat.sub_self]; rfl
    rw [e1, dcF (by omega), cond_false, dcF (by omega)]
    unfold zq58.d7 zq58.o7 zq58.d5 zq58.o5
    rw [cond_false, show (3 : Int) = ((3 : Nat) : Int) from rfl, tmodN, h3, ieqF (by decide), cond_false, blT (by omega), cond_true, hw, dcT (by omega), cond_true, dcT (show (v.length : Int) < ((v ++ [(x : Int)]).length : Int) by omega), cond_true, Int.toNat_natCast, hg, Option.bind_some, dcT (show (0 : Int) ≤ (i : Int) by omega), cond_true, dcT (show (i : Int) < (s.size : Int) by omega), cond_true, cond_true, cond_true, Option.bind_some, Nat.ble_eq_true_of_le (by rw [List.length_set]; exact Nat.le_refl _), cond_true, hc, digW hd]
    rw [show w64 ((x : Int) + ((c.toNat - 48 : Nat) : Int)) = ((x + (c.toNat - 48) : Nat) : Int) by rw [w64s (by omega) (by omega)]; omega]
    dsimp only
    rw [w1add (by omega)]
    have e2 : ((v ++ [(x : Int)]).set v.length ((x + (c.toNat - 48) : Nat) : Int)).take (v ++ [(x : Int)]).length = v ++ [((x + (c.toNat - 48) : Nat) : Int)] := by
      rw [List.take_of_length_le (by rw [List.length_set]; exact Nat.le_refl _), List.set_append_right _ _ (Nat.le_refl _), Nat.sub_self]; rfl
    rw [e2]
  · intro hd
    rw [e1]
    by_cases c1 : (c.toNat : Int) < 48
    · rw [dcT c1, cond_true]; rfl
    · rw [dcF c1, cond_false, dcT (show (c.toNat : Int) > 57 by unfold isD at hd; omega)]; rfl
def nn (c e : UInt8) : Nat := 10 * (c.toNat - 48) + (e.toNat - 48)
theorem stepE {N m x y z : Nat} {h a b : Int} {s : ByteArray} : zq58.l6 N (m + 1) h s [(x : Int), (y : Int), (z : Int)] 8 a b = if (x : Int) < h ∧ y ≤ 59 ∧ z ≤ 59 then zq58.d8 N h s [(x : Int), (y : Int), (z : Int)] false a b else no3 := by
  show zq58.d6 N h s _ 8 a b _ = _
  unfold zq58.d6 zq58.o6
  rw [dcF (by decide), cond_false, dcT (show (0 : Int) < (([(x : Int), (y : Int), (z : Int)] : List Int).length : Int) by simp), cond_true, show ([(x : Int), (y : Int), (z : Int)] : List Int)[(0 : Int).toNat]? = some (x : Int) from rfl, Option.bind_some, dcT (show (1 : Int) < (([(x : Int), (y : Int), (z : Int)] : List Int).length : Int) by simp), cond_true, show ([(x : Int), (y : Int), (z : Int)] : List Int)[(1 : Int).toNat]? = some (y : Int) from rfl, Option.bind_some, dcT (show (2 : Int) < (([(x : Int), (y : Int), (z : Int)] : List Int).length : Int) by simp), cond_true, show ([(x : Int), (y : Int), (z : Int)] : List Int)[(2 : Int).toNat]? = some (z : Int) from rfl, Option.bind_some]
  by_cases c1 : (x : Int) < h
  · rw [dcF (show ¬ (x : Int) ≥ h by omega), cond_false]
    by_cases c2 : y ≤ 59
    · rw [dcF (show ¬ (y : Int) > 59 by omega), cond_false]
      by_cases c3 : z ≤ 59
      · rw [dcF (show ¬ (z : Int) > 59 by omega), if_pos ⟨c1, c2, c3⟩]
      · rw [dcT (show (z : Int) > 59 by omega), if_neg (fun hh => c3 hh.2.2)]; rfl
    · rw [dcT (show (y : Int) > 59 by omega), cond_true, if_neg (fun hh => c2 hh.2.1)]; rfl
  · rw [dcT (show (x : Int) ≥ h by omega), cond_true, if_neg (fun hh => c1 hh.1)]; rfl
structure Form (c0 c1 c2 c3 c4 c5 c6 c7 : UInt8) : Prop where
  a0 : isD c0
  a1 : isD c1
  a2 : c2 = 58
  a3 : isD c3
  a4 : isD c4
  a5 : c5 = 58
  a6 : isD c6
  a7 : isD c7
theorem heads {N : Nat} (hN : 100 ≤ N) {h a b : Int} {s : ByteArray} {c0 c1 c2 c3 c4 c5 c6 c7 : UInt8} {r : List UInt8} (hl : s.data.toList = c0 :: c1 :: c2 :: c3 :: c4 :: c5 :: c6 :: c7 :: r) :
    (Form c0 c1 c2 c3 c4 c5 c6 c7 → zq58.l2 N N h s 0 a b = if (nn c0 c1 : Int) < h ∧ nn c3 c4 ≤ 59 ∧ nn c6 c7 ≤ 59 then zq58.d8 N h s [(nn c0 c1 : Int), (nn c3 c4 : Int), (nn c6 c7 : Int)] false a b else no3) ∧
    (¬ Form c0 c1 c2 c3 c4 c5 c6 c7 → zq58.l2 N N h s 0 a b = no3) := by
  have hsz : s.data.toList.length = s.size := Array.length_toList
  have h8 : 8 ≤ s.size := by rw [← hsz, hl]; simp
  obtain ⟨m, hm⟩ : ∃ m, N = m + 9 := ⟨N - 9, by omega⟩
  have e0 : zq58.l2 N N h s 0 a b = zq58.l2 N (m + 9) h s 0 a b := by rw [← hm]
  have b0 := bt_get hl (i := 0) (c := c0) rfl
  have b1 := bt_get hl (i := 1) (c := c1) rfl
  have b2 := bt_get hl (i := 2) (c := c2) rfl
  have b3 := bt_get hl (i := 3) (c := c3) rfl
  have b4 := bt_get hl (i := 4) (c := c4) rfl
  have b5 := bt_get hl (i := 5) (c := c5) rfl
  have b6 := bt_get hl (i := 6) (c := c6) rfl
  have b7 := bt_get hl (i := 7) (c := c7) rfl
  have q : ∀ {c : UInt8}, isD c → 10 * (c.toNat - 48) ≤ 1000 := fun hc => by have := hc.2; omega
  have s0 := step0 (N := N) (m := m + 8) (h := h) (a := a) (b := b) (by omega) b0
  rw [e0]
  by_cases f0 : isD c0
  case neg => exact ⟨fun F => absurd F.a0 f0, fun _ => s0.2 f0⟩
  rw [s0.1 f0]
  have s1 := stepU (N := N) (m := m + 7) (i := 1) (h := h) (a := a) (b := b) (v := []) (by omega) rfl (by simp) (q f0) (by omega) b1
  by_cases f1 : isD c1
  case neg => exact ⟨fun F => absurd F.a1 f1, fun _ => s1.2 f1⟩
  rw [show zq58.l6 N (m + 8) h s [((10 * (c0.toNat - 48) : Nat) : Int)] 1 a b = _ from s1.1 f1]
  have s2 := stepC (N := N) (m := m + 6) (i := 2) (h := h) (a := a) (b := b) (v := [] ++ [((10 * (c0.toNat - 48) + (c1.toNat - 48) : Nat) : Int)]) (by omega) rfl (by omega) b2
  by_cases f2 : c2 = 58
  case neg => exact ⟨fun F => absurd F.a2 f2, fun _ => s2.2 f2⟩
  rw [show zq58.l6 N (m + 7) h s _ ((1 + 1 : Nat) : Int) a b = _ from s2.1 f2]
  have s3 := stepT (N := N) (m := m + 5) (i := 3) (h := h) (a := a) (b := b) (v := [] ++ [((10 * (c0.toNat - 48) + (c1.toNat - 48) : Nat) : Int)]) (by omega) rfl (by simp) (by omega) b3
  by_cases f3 : isD c3
  case neg => exact ⟨fun F => absurd F.a3 f3, fun _ => s3.2 f3⟩
  rw [show zq58.l6 N (m + 6) h s _ ((2 + 1 : Nat) : Int) a b = _ from s3.1 f3]
  have s4 := stepU (N := N) (m := m + 4) (i := 4) (h := h) (a := a) (b := b) (v := [] ++ [((10 * (c0.toNat - 48) + (c1.toNat - 48) : Nat) : Int)]) (by omega) rfl (by simp) (q f3) (by omega) b4
  by_cases f4 : isD c4
  case neg => exact ⟨fun F => absurd F.a4 f4, fun _ => s4.2 f4⟩
  rw [show zq58.l6 N (m + 5) h s _ ((3 + 1 : Nat) : Int) a b = _ from s4.1 f4]
  have s5 := stepC (N := N) (m := m + 3) (i := 5) (h := h) (a := a) (b := b) (v := [] ++ [((10 * (c0.toNat - 48) + (c1.toNat - 48) : Nat) : Int)] ++ [((10 * (c3.toNat - 48) + (c4.toNat - 48) : Nat) : Int)]) (by omega) rfl (by omega) b5
  by_cases f5 : c5 = 58
  case neg => exact ⟨fun F => absurd F.a5 f5, fun _ => s5.2 f5⟩
  rw [show zq58.l6 N (m + 4) h s _ ((4 + 1 : Nat) : Int) a b = _ from s5.1 f5]
  have s6 := stepT (N := N) (m := m + 2) (i := 6) (h := h) (a := a) (b := b) (v := [] ++ [((10 * (c0.toNat - 48) + (c1.toNat - 48) : Nat) : Int)] ++ [((10 * (c3.toNat - 48) + (c4.toNat - 48) : Nat) : Int)]) (by omega) rfl (by simp) (by omega) b6
  by_cases f6 : isD c6
  case neg => exact ⟨fun F => absurd F.a6 f6, fun _ => s6.2 f6⟩
  rw [show zq58.l6 N (m + 3) h s _ ((5 + 1 : Nat) : Int) a b = _ from s6.1 f6]
  have s7 := stepU (N := N) (m := m + 1) (i := 7) (h := h) (a := a) (b := b) (v := [] ++ [((10 * (c0.toNat - 48) + (c1.toNat - 48) : Nat) : Int)] ++ [((10 * (c3.toNat - 48) + (c4.toNat - 48) : Nat) : Int)]) (by omega) rfl (by simp) (q f6) (by omega) b7
  by_cases f7 : isD c7
  case neg => exact ⟨fun F => absurd F.a7 f7, fun _ => s7.2 f7⟩
  rw [show zq58.l6 N (m + 2) h s _ ((6 + 1 : Nat) : Int) a b = _ from s7.1 f7]
  exact ⟨fun _ => stepE (x := nn c0 c1) (y := nn c3 c4) (z := nn c6 c7), fun hh => absurd ⟨f0, f1, f2, f3, f4, f5, f6, f7⟩ hh⟩
theorem den_mul {S num den : Nat} (hS : S ≤ 86399) (hnum : num ≤ 1000000) (hden : den ≤ 1000000) : w64 (w64 ((S : Int) * (den : Int)) + (num : Int)) = ((S * den + num : Nat) : Int) ∧ S * den + num ≤ 100000000000 := by
  have := Nat.mul_le_mul hS hden
  refine ⟨?_, by omega⟩
  rw [← Int.natCast_mul, w64n (by omega), ← Int.natCast_add, w64n (by omega)]
theorem dial_mul {k den : Nat} (hk : k ≤ 24) (hden : den ≤ 1000000) : w64 (w64 ((k : Int) * 3600) * (den : Int)) = ((k * 3600 * den : Nat) : Int) ∧ k * 3600 * den ≤ 100000000000 := by
  have := Nat.mul_le_mul (show k * 3600 ≤ 86400 by omega) hden
  refine ⟨?_, by omega⟩
  rw [show w64 ((k : Int) * 3600) = ((k * 3600 : Nat) : Int) by rw [w64s (by omega) (by omega)]; omega, ← Int.natCast_mul, w64n (by omega)]
theorem d10_eq {N k x y z num den : Nat} (hN : 1000000000000 < N) {a b : Int} (hk1 : 1 ≤ k) (hk : k ≤ 24) (hx : x ≤ 23) (hy : y ≤ 59) (hz : z ≤ 59) (hnum : num ≤ 1000000) (hd1 : 1 ≤ den) (hden : den ≤ 1000000) :
    zq58.d10 N k [(x : Int), (y : Int), (z : Int)] num den a b = some (mkV (pr ((x * 3600 + y * 60 + z) * den + num) (k * 3600 * den))) := by
  obtain ⟨e1, e2⟩ := den_mul (S := x * 3600 + y * 60 + z) (num := num) (den := den) (by omega) hnum hden
  obtain ⟨e3, e4⟩ := dial_mul hk hden
  have hp : 1 ≤ k * 3600 * den := Nat.mul_pos (by omega) (by omega)
  have e5 : w64 (w64 (w64 (w64 ((x : Int) * 60) + (y : Int)) * 60) + (z : Int)) = ((x * 3600 + y * 60 + z : Nat) : Int) := by
    rw [w64s (n := (x : Int) * 60) (by omega) (by omega), w64s (n := (x : Int) * 60 + (y : Int)) (by omega) (by omega), w64s (n := ((x : Int) * 60 + (y : Int)) * 60) (by omega) (by omega), w64s (by omega) (by omega)]; omega
  unfold zq58.d10 zq58.o10
  rw [dcT (show (0 : Int) < (([(x : Int), (y : Int), (z : Int)] : List Int).length : Int) by simp), cond_true, show ([(x : Int), (y : Int), (z : Int)] : List Int)[(0 : Int).toNat]? = some (x : Int) from rfl, Option.bind_some, dcT (show (1 : Int) < (([(x : Int), (y : Int), (z : Int)] : List Int).length : Int) by simp), cond_true, show ([(x : Int), (y : Int), (z : Int)] : List Int)[(1 : Int).toNat]? = some (y : Int) from rfl, Option.bind_some, dcT (show (2 : Int) < (([(x : Int), (y : Int), (z : Int)] : List Int).length : Int) by simp), cond_true, show ([(x : Int), (y : Int), (z : Int)] : List Int)[(2 : Int).toNat]? = some (z : Int) from rfl, Option.bind_some, e5, e1, e3, make_eq (by omega) hp (by omega)]
  rfl
theorem d9_eq {N k : Nat} (hN : 1000000000000 < N) {a b : Int} {v : List Int} (p0 p1 : ByteArray) :
    (∀ num den : Nat, readL p0 = num → readL p1 = den → 1 ≤ num → num < den → Nat.gcd num den = 1 → zq58.d9 N k v [p0, p1] false a b = zq58.d10 N k v num den a b) ∧
    ((¬ ∃ num den : Nat, readL p0 = num ∧ readL p1 = den ∧ 1 ≤ num ∧ num < den ∧ Nat.gcd num den = 1) → zq58.d9 N k v [p0, p1] false a b = no3) := by
  have sm : ∀ p : ByteArray, readL p < 1000000 := by
    intro p
    apply Classical.byContradiction
    intro hh
    have := (read_is (s := p) (n := readL p) rfl (by omega)).2
    omega
  have s0 := sm p0; have s1 := sm p1
  have e1 : zq58.d9 N k v [p0, p1] false a b = (bif (decide (readL p1 < 2)) then zq58.d11 N k v (readL p0) (readL p1) true a b else
     (zq71.g N (readL p0) 1 (w64 (readL p1 - 1))).bind fun r5 =>
     bif (!r5) then zq58.d11 N k v (readL p0) (readL p1) true a b else
     (zq52.g N (readL p0) (readL p1)).bind fun r6 => zq58.d11 N k v (readL p0) (readL p1) (r6 != 1) a b) := by
    unfold zq58.d9 zq58.o9
    rw [cond_false, dcT (show (0 : Int) < (([p0, p1] : List ByteArray).length : Int) by simp), cond_true, show ([p0, p1] : List ByteArray)[(0 : Int).toNat]? = some p0 from rfl, Option.bind_some, l1Read_eq (by omega), Option.bind_some, dcT (show (1 : Int) < (([p0, p1] : List ByteArray).length : Int) by simp), cond_true, show ([p0, p1] : List ByteArray)[(1 : Int).toNat]? = some p1 from rfl, Option.bind_some, l1Read_eq (by omega), Option.bind_some]
  constructor
  · intro num den h1 h2 h3 h4 h5
    rw [e1, h1, h2, dcF (by omega), cond_false, w64s (by omega) (by omega), l1In_eq, Option.bind_some, inB_iff.2 ⟨by omega, by omega⟩, Bool.not_true, cond_false, common_eq (by omega) (by omega) (by omega), Option.bind_some, h5, ineF (show ((1 : Nat) : Int) = 1 from rfl)]
    rfl
  · intro hh
    rw [e1]
    by_cases c1 : readL p1 < 2
    · rw [dcT c1, cond_true]; rfl
    · rw [dcF c1, cond_false, w64s (by omega) (by omega), l1In_eq, Option.bind_some]
      cases c2 : inB (readL p0) 1 (readL p1 - 1) with
      | false => rw [Bool.not_false, cond_true]; rfl
      | true =>
        have c2' := inB_iff.1 c2
        obtain ⟨num, hn⟩ := Int.eq_ofNat_of_zero_le (show 0 ≤ readL p0 by omega)
        obtain ⟨den, hd⟩ := Int.eq_ofNat_of_zero_le (show 0 ≤ readL p1 by omega)
        rw [Bool.not_true, cond_false, hn, hd, common_eq (by omega) (by omega) (by omega), Option.bind_some, ineT (fun hg => hh ⟨num, den, hn, hd, by omega, by omega, by omega⟩)]
        rfl
theorem d8_none {N k : Nat} {a b : Int} {v : List Int} {s : ByteArray} (hs : s.size = 8) : zq58.d8 N k s v false a b = zq58.d10 N k v 0 1 a b := by
  unfold zq58.d8 zq58.o8
  rw [cond_false, dcF (by omega), cond_false]
theorem d8_some {N k : Nat} (hN : 1000000000000 < N) {a b : Int} {v : List Int} {s : ByteArray} {c0 c1 c2 c3 c4 c5 c6 c7 c8 : UInt8} {r : List UInt8} (hl : s.data.toList = c0 :: c1 :: c2 :: c3 :: c4 :: c5 :: c6 :: c7 :: c8 :: r) (hsz : s.size ≤ 1048576) :
    (∀ p0 p1, c8 = 43 → splitL 47 r = [p0, p1] → zq58.d8 N k s v false a b = zq58.d9 N k v [bsOf p0, bsOf p1] false a b) ∧
    ((¬ ∃ p0 p1, c8 = 43 ∧ splitL 47 r = [p0, p1]) → zq58.d8 N k s v false a b = no3) := by
  have hlen : s.data.toList.length = s.size := Array.length_toList
  have h9 : 9 ≤ s.size := by rw [← hlen, hl]; simp
  have b8 := bt_get hl (i := 8) (c := c8) rfl
  have hx : (s.extract (9 : Int).toNat ((s.size : Int) : Int).toNat).data.toList = r := by
    rw [extract_list, Int.toNat_natCast, ← hlen, hl]
    simp
  have hxs : (s.extract (9 : Int).toNat ((s.size : Int) : Int).toNat).size ≤ s.size := by rw [ByteArray.size_extract]; omega
  have hp : zq76.g N (s.extract (9 : Int).toNat ((s.size : Int) : Int).toNat) 47 = some ((splitL 47 r).map bsOf) := by
    have := l1Split_eq (N := N) (s.extract (9 : Int).toNat ((s.size : Int) : Int).toNat) 47 (by omega) (by omega)
    unfold pieces at this
    rw [hx] at this
    exact this
  have e1 : zq58.d8 N k s v false a b = (bif ((c8.toNat : Int) != 43) then zq58.d9 N k v ((splitL 47 r).map bsOf) true a b else zq58.d9 N k v ((splitL 47 r).map bsOf) ((((splitL 47 r).map bsOf).length : Int) != 2) a b) := by
    unfold zq58.d8 zq58.o8
    rw [cond_false, dcT (show (s.size : Int) > 8 by omega), cond_true, dcT (by omega), cond_true, dcT (show (s.size : Int) ≤ (s.size : Int) by omega), cond_true, dcT (show (9 : Int) ≤ (s.size : Int) by omega), cond_true, hp, Option.bind_some, cond_true, show bt s 8 = (c8.toNat : Int) from b8]
  constructor
  · intro p0 p1 h1 h2
    subst h1
    rw [e1, ineF (by decide), cond_false, h2]; rfl
  · intro hh
    rw [e1]
    by_cases c : c8 = 43
    · subst c
      have : (splitL 47 r).length ≠ 2 := by
        intro h2
        match hr : splitL 47 r, h2 with
        | [p0, p1], _ => exact hh ⟨p0, p1, rfl, hr⟩
      rw [ineF (by decide), cond_false, ineT (by rw [List.length_map]; omega)]; rfl
    · rw [ineT (fun h => c (UInt8.toNat_inj.1 (by show c8.toNat = 43; omega))), cond_true]; rfl
/-! ### what is read is the time with the text -/
theorem time_list {k n d x y z num den : Nat} (hd : 0 < d) (hy : y ≤ 59) (hz : z ≤ 59) (h1 : 3600 * (n * k) / d = x * 3600 + y * 60 + z) (h2 : pr (3600 * (n * k)) d = (num, den)) :
    timeL (n * k * 60) d = dd x ++ [58] ++ dd y ++ [58] ++ dd z ++ tailL (num, den) := by
  have e : 3600 * (n * k) = 60 * (n * k * 60) := by omega
  rw [e] at h1 h2
  have hS := S_eq (M := n * k * 60) hd
  obtain ⟨a1, a2, a3⟩ := hms hS.1 hS.2
  unfold timeL
  rw [← a1, ← a2, ← a3, h1, h2, show (x * 3600 + y * 60 + z) / 3600 = x by omega, show (x * 3600 + y * 60 + z) / 60 % 60 = y by omega, show (x * 3600 + y * 60 + z) % 60 = z by omega]
theorem nn_dd {c e : UInt8} (hc : isD c) (he : isD e) : dd (nn c e) = [c, e] := by
  have h1 := hc.1; have h2 := hc.2; have h3 := he.1; have h4 := he.2
  unfold dd nn
  rw [show 48 + (10 * (c.toNat - 48) + (e.toNat - 48)) / 10 = c.toNat by omega, show 48 + (10 * (c.toNat - 48) + (e.toNat - 48)) % 10 = e.toNat by omega, UInt8.ofNat_toNat, UInt8.ofNat_toNat]
theorem dd_nn {v : Nat} (h : v < 100) : isD (UInt8.ofNat (48 + v / 10)) ∧ isD (UInt8.ofNat (48 + v % 10)) ∧ nn (UInt8.ofNat (48 + v / 10)) (UInt8.ofNat (48 + v % 10)) = v := by
  unfold isD nn
  rw [dig_nat (by omega), dig_nat (by omega)]
  omega
def Reads (h : Int) (s : ByteArray) (r : Int × Int × Bool) : Prop := r = (0, 0, false) ∨ ∃ k n d : Nat, h = k ∧ Dial k n d ∧ s = bsOf (timeL (n * k * 60) d) ∧ r = ((n : Int), (d : Int), true)
theorem reads_mk {k x y z num den : Nat} {s : ByteArray} (hk1 : 2 ≤ k) (hk : k ≤ 24) (hx : x < k) (hy : y ≤ 59) (hz : z ≤ 59) (hn : num < den) (hg : Nat.gcd num den = 1)
    (hs : s.data.toList = dd x ++ [58] ++ dd y ++ [58] ++ dd z ++ tailL (num, den)) : Reads k s (mkV (pr ((x * 3600 + y * 60 + z) * den + num) (k * 3600 * den))) := by
  have hD : 0 < k * 3600 * den := Nat.mul_pos (by omega) (by omega)
  have hp := pr_spec (n := (x * 3600 + y * 60 + z) * den + num) hD
  have ht := told (n := (pr ((x * 3600 + y * 60 + z) * den + num) (k * 3600 * den)).1) (d := (pr ((x * 3600 + y * 60 + z) * den + num) (k * 3600 * den)).2) (show 0 < k by omega) hn hg (show x * 3600 + y * 60 + z < 3600 * k by omega) rfl
  generalize pr ((x * 3600 + y * 60 + z) * den + num) (k * 3600 * den) = f at *
  unfold mkV
  by_cases c : f.2 ≤ 1000000
  · rw [if_pos c]
    refine .inr ⟨k, f.1, f.2, rfl, ⟨hk1, hk, hp.1, c, hp.2.2.1⟩, ?_, rfl⟩
    apply bs_ext
    rw [bsOf_list, hs, time_list (by have := hp.1; omega) hy hz ht.1 ht.2]
  · rw [if_neg c]; exact .inl rfl
theorem spec_tot {N : Nat} (hN : 1000000000000 < N) (h : Int) (s : ByteArray) (hsz : s.size ≤ 1048576) : Tot (zq45.g N h s) (Reads h s) := by
  have no : ∀ {x : Option (Int × Int × Bool)}, x = no3 → Tot x (Reads h s) := fun e => by rw [e]; exact Tot.now (.inl rfl)
  unfold zq45.g zq45.o0
  rw [diHours_eq, Option.bind_some]
  cases hb : inB h 2 24 with
  | false => exact no rfl
  | true =>
    have hb' := inB_iff.1 hb
    obtain ⟨k, rfl⟩ := Int.eq_ofNat_of_zero_le (show 0 ≤ h by omega)
    rw [Bool.not_true, cond_false]
    refine Tot.bind (P := Reads k s) ?_ (fun r hr => Tot.now hr)
    unfold zq58.g zq58.o0 zq58.d1 zq58.o1
    by_cases c1 : s.size < 8
    · rw [dcT (by omega), cond_true]; exact no rfl
    rw [dcF (by omega), cond_false]
    by_cases c2 : 22 < s.size
    · rw [dcT (by omega)]; exact no rfl
    rw [dcF (by omega)]
    dsimp only
    rw [cond_false]
    have hlen : s.data.toList.length = s.size := Array.length_toList
    match hl : s.data.toList, hlen with
    | c0 :: c1 :: c2 :: c3 :: c4 :: c5 :: c6 :: c7 :: r, hlen =>
      have H := heads (N := N) (by omega) (h := (k : Int)) (a := 0) (b := 0) hl
      by_cases F : Form c0 c1 c2 c3 c4 c5 c6 c7
      case neg => exact no (H.2 F)
      rw [H.1 F]
      by_cases B : (nn c0 c1 : Int) < (k : Int) ∧ nn c3 c4 ≤ 59 ∧ nn c6 c7 ≤ 59
      case neg => rw [if_neg B]; exact no rfl
      rw [if_pos B]
      obtain ⟨B1, B2, B3⟩ := B
      have L8 : ∀ t, s.data.toList = c0 :: c1 :: c2 :: c3 :: c4 :: c5 :: c6 :: c7 :: t → s.data.toList = dd (nn c0 c1) ++ [58] ++ dd (nn c3 c4) ++ [58] ++ dd (nn c6 c7) ++ t := by
        intro t ht
        rw [nn_dd F.a0 F.a1, nn_dd F.a3 F.a4, nn_dd F.a6 F.a7, ht, F.a2, F.a5]; rfl
      match r, hl, hlen with
      | [], hl, hlen =>
        rw [d8_none (by simpa using hlen.symm), show (0 : Int) = ((0 : Nat) : Int) from rfl, show (1 : Int) = ((1 : Nat) : Int) from rfl, d10_eq hN (by omega) (by omega) (by omega) B2 B3 (by omega) (by omega) (by omega)]
        exact Tot.now (reads_mk (by omega) (by omega) (by omega) B2 B3 (by omega) (by decide) (L8 [] hl))
      | c8 :: r, hl, hlen =>
        have H8 := d8_some (N := N) (k := k) hN (a := 0) (b := 0) (v := [(nn c0 c1 : Int), (nn c3 c4 : Int), (nn c6 c7 : Int)]) hl hsz
        by_cases E : ∃ p0 p1, c8 = 43 ∧ splitL 47 r = [p0, p1]
        case neg => exact no (H8.2 E)
        obtain ⟨p0, p1, E1, E2⟩ := E
        rw [H8.1 p0 p1 E1 E2]
        have H9 := d9_eq (N := N) (k := k) hN (a := 0) (b := 0) (v := [(nn c0 c1 : Int), (nn c3 c4 : Int), (nn c6 c7 : Int)]) (bsOf p0) (bsOf p1)
        by_cases G : ∃ num den : Nat, readL (bsOf p0) = num ∧ readL (bsOf p1) = den ∧ 1 ≤ num ∧ num < den ∧ Nat.gcd num den = 1
        case neg => exact no (H9.2 G)
        obtain ⟨num, den, G1, G2, G3, G4, G5⟩ := G
        have r1 := read_is G1 (by omega)
        have r2 := read_is G2 (by omega)
        rw [Int.toNat_natCast] at r1 r2
        rw [H9.1 num den G1 G2 G3 G4 G5, d10_eq hN (by omega) (by omega) (by omega) B2 B3 (by omega) (by omega) (by omega)]
        refine Tot.now (reads_mk (by omega) (by omega) (by omega) B2 B3 G4 G5 ?_)
        rw [L8 _ hl]
        congr 1
        have q0 : p0 = Lib.decDigits num := by have := congrArg (fun x : ByteArray => x.data.toList) r1.1; simpa [bsOf_list] using this
        have q1 : p1 = Lib.decDigits den := by have := congrArg (fun x : ByteArray => x.data.toList) r2.1; simpa [bsOf_list] using this
        unfold tailL
        rw [if_neg (by show ¬ num = 0; omega), E1, two_split E2, q0, q1]
        simp
    | [], hlen => simp at hlen; omega
    | [_], hlen => simp at hlen; omega
    | [_, _], hlen => simp at hlen; omega
    | [_, _, _], hlen => simp at hlen; omega
    | [_, _, _, _], hlen => simp at hlen; omega
    | [_, _, _, _, _], hlen => simp at hlen; omega
    | [_, _, _, _, _, _], hlen => simp at hlen; omega
    | [_, _, _, _, _, _, _], hlen => simp at hlen; omega
theorem no47 (n : Nat) : (47 : UInt8) ∉ Lib.decDigits n := fun h => by
  have := (dec_digits n _ h).1
  exact absurd this (by decide)
/-- the text of a time is read -/
theorem spec_read {N k n d : Nat} (hN : 1000000000000 < N) (h : Dial k n d) : zq45.g N k (bsOf (timeL (n * k * 60) d)) = some ((n : Int), (d : Int), true) := by
  have h2 := h.p; have h3 := h.t.le; have h4 := h.k2; have h5 := h.t.lt; have h6 := h.k1
  have hW := div60 (M := n * k * 60) rfl h5 h4
  have hW2 : n * k * 60 / d < 60 * k := by
    refine Nat.div_lt_of_lt_mul ?_
    have : n * k < d * k := Nat.mul_lt_mul_of_pos_right h5 (by omega)
    rw [Nat.mul_left_comm]; omega
  have hS := S_eq (M := n * k * 60) h2
  obtain ⟨a1, a2, a3⟩ := hms hS.1 hS.2
  have hds := den_small (X := n * k) h2 h3
  have hf := pr_spec (n := 60 * (n * k * 60)) h2
  have e36 : 3600 * (n * k) = 60 * (n * k * 60) := by omega
  rw [e36] at hds
  have tl := tail_len hf.1 hds
  have key : ∀ num den : Nat, (num, den) = pr (60 * (n * k * 60)) d → mkV (pr ((n * k * 60 / d / 60 * 3600 + n * k * 60 / d % 60 * 60 + 60 * (n * k * 60 % d) / d) * den + num) (k * 3600 * den)) = ((n : Int), (d : Int), true) := by
    intro num den e
    have := tell (S := n * k * 60 / d / 60 * 3600 + n * k * 60 / d % 60 * 60 + 60 * (n * k * 60 % d) / d) (h := k) (num := num) (den := den) h5 h.t.cop (by omega) (by rw [e36, ← a1, ← a2, ← a3]; omega) (by rw [e36]; exact e)
    rw [this]
    exact mkV_ok h3
  unfold zq45.g zq45.o0
  rw [diHours_eq, Option.bind_some, inB_iff.2 ⟨by omega, by omega⟩, Bool.not_true, cond_false]
  generalize hx : n * k * 60 / d / 60 = x at *
  generalize hy : n * k * 60 / d % 60 = y at *
  generalize hz : 60 * (n * k * 60 % d) / d = z at *
  have hL : timeL (n * k * 60) d = UInt8.ofNat (48 + x / 10) :: UInt8.ofNat (48 + x % 10) :: 58 :: UInt8.ofNat (48 + y / 10) :: UInt8.ofNat (48 + y % 10) :: 58 :: UInt8.ofNat (48 + z / 10) :: UInt8.ofNat (48 + z % 10) :: tailL (pr (60 * (n * k * 60)) d) := by
    unfold timeL
    rw [hx, hy, hz]; rfl
  have hl : (bsOf (timeL (n * k * 60) d)).data.toList = _ := (bsOf_list _).trans hL
  have hsz : (bsOf (timeL (n * k * 60) d)).size = 8 + (tailL (pr (60 * (n * k * 60)) d)).length := by rw [bsOf_size, hL]; simp; omega
  have dx := dd_nn (v := x) (by omega)
  have dy := dd_nn (v := y) (by omega)
  have dz := dd_nn (v := z) (by omega)
  have H := heads (N := N) (by omega) (h := (k : Int)) (a := 0) (b := 0) hl
  unfold zq58.g zq58.o0 zq58.d1 zq58.o1
  rw [dcF (by omega), cond_false, dcF (by omega)]
  dsimp only
  rw [cond_false, H.1 ⟨dx.1, dx.2.1, rfl, dy.1, dy.2.1, rfl, dz.1, dz.2.1⟩, dx.2.2, dy.2.2, dz.2.2, if_pos ⟨by omega, by omega, by omega⟩]
  by_cases c : (pr (60 * (n * k * 60)) d).1 = 0
  · have hden : (pr (60 * (n * k * 60)) d).2 = 1 := by have := hf.2.2.1; rw [c, Nat.gcd_zero_left] at this; exact this
    have ht : tailL (pr (60 * (n * k * 60)) d) = [] := by unfold tailL; rw [if_pos c]
    rw [ht] at hsz
    rw [d8_none (by simpa using hsz), show (0 : Int) = ((0 : Nat) : Int) from rfl, show (1 : Int) = ((1 : Nat) : Int) from rfl, d10_eq hN (by omega) h4 (by omega) (by omega) (by omega) (by omega) (by omega) (by omega), key 0 1 (by rw [← c, ← hden]), Option.bind_some]
  · have ht : tailL (pr (60 * (n * k * 60)) d) = 43 :: (Lib.decDigits (pr (60 * (n * k * 60)) d).1 ++ 47 :: Lib.decDigits (pr (60 * (n * k * 60)) d).2) := by unfold tailL; rw [if_neg c]; simp
    rw [ht] at hl
    have H8 := d8_some (N := N) (k := k) hN (a := 0) (b := 0) (v := [(x : Int), (y : Int), (z : Int)]) hl (by omega)
    rw [H8.1 _ _ rfl (split_two (no47 _) (no47 _))]
    have H9 := d9_eq (N := N) (k := k) hN (a := 0) (b := 0) (v := [(x : Int), (y : Int), (z : Int)]) (bsOf (Lib.decDigits (pr (60 * (n * k * 60)) d).1)) (bsOf (Lib.decDigits (pr (60 * (n * k * 60)) d).2))
    rw [H9.1 _ _ (read_dec (by omega)) (read_dec (by omega)) (by omega) hf.1 hf.2.2.1, d10_eq hN (by omega) h4 (by omega) (by omega) (by omega) (by omega) (by omega) (by omega), key (pr (60 * (n * k * 60)) d).1 (pr (60 * (n * k * 60)) d).2 rfl, Option.bind_some]
/-! ### the program reads a time -/
theorem bs_toList (a : ByteArray) : a.toList = a.data.toList := Lib.toList_data a
noncomputable def AT (p : ByteArray) : Int × Bool := zq77.v p
theorem AT_eq (N : Nat) {p : ByteArray} (h : p.size ≤ 281474976710656) : zq77.g N p = some (AT p) := by
  unfold zq77.g
  rw [dcT h]; rfl
noncomputable def RN (p : ByteArray) : Int × Bool := zq27.v p 1000000
theorem RN_eq (N : Nat) {p : ByteArray} (h : p.size ≤ 281474976710656) : zq27.g N p 1000000 = some (RN p) := by
  unfold zq27.g
  rw [dcT h, dcT (by omega)]; rfl
theorem RN_range {p : ByteArray} (h : (RN p).2 = true) : 0 ≤ (RN p).1 ∧ (RN p).1 ≤ 1000000 := by
  unfold RN zq27.v at h ⊢
  rcases ha : Lib.atoiAll p.data.toList with v | _ | _
  · rw [ha] at h
    simp only at h ⊢
    by_cases c : 0 ≤ v ∧ v ≤ 1000000
    · rw [if_pos c] at h ⊢
      by_cases c2 : Lib.itoa v = p.toList
      · rw [if_pos c2]; exact c
      · rw [if_neg c2] at h; cases h
    · rw [if_neg c] at h; cases h
  · rw [ha] at h; cases h
  · rw [ha] at h; cases h
theorem RN_dec {n : Nat} (hn : n ≤ 1000000) : RN (bsOf (Lib.decDigits n)) = ((n : Int), true) := by
  unfold RN zq27.v
  rw [bsOf_list, atoi_dec (by omega)]
  show (if 0 ≤ (n : Int) ∧ (n : Int) ≤ 1000000 then (if Lib.itoa n = (bsOf (Lib.decDigits n)).toList then ((n : Int), true) else (0, false)) else (0, false)) = _
  rw [if_pos ⟨by omega, by omega⟩, if_pos]
  rw [bs_toList, bsOf_list]
  unfold Lib.itoa
  rw [if_neg (by omega)]; simp
theorem dd_atoi : ((List.range 100).all fun n => match Lib.atoiAll (dd n) with | .ok v => v == (n : Int) | _ => false) = true := by decide +kernel
theorem AT_dd {p : ByteArray} {v : Nat} (hv : v < 100) (hp : p.data.toList = dd v) : AT p = ((v : Int), true) := by
  have := List.all_eq_true.1 dd_atoi v (List.mem_range.2 hv)
  unfold AT zq77.v
  rw [hp]
  revert this
  rcases Lib.atoiAll (dd v) with u | _ | _
  · intro h
    have : u = (v : Int) := by simpa using h
    rw [this]
  · intro h; cases h
  · intro h; cases h
/-- behind the three numbers -/
theorem pd5_eq {N k x y z num den : Nat} (hN : 1000000000000 < N) {a b : Int} {s : ByteArray} (hk1 : 2 ≤ k) (hk : k ≤ 24) (hx : x < k) (hy : y ≤ 59) (hz : z ≤ 59) (hnum : num ≤ 1000000) (hd1 : 1 ≤ den) (hden : den ≤ 1000000)
    {f : Nat × Nat} (hf : pr ((x * 3600 + y * 60 + z) * den + num) (k * 3600 * den) = f) :
    (f.2 ≤ 1000000 → s = bsOf (timeL (f.1 * k * 60) f.2) → zq8.d5 N k s num den [(x : Int), (y : Int), (z : Int)] false a b = some (r3 f)) ∧
    (¬ (f.2 ≤ 1000000 ∧ s = bsOf (timeL (f.1 * k * 60) f.2)) → zq8.d5 N k s num den [(x : Int), (y : Int), (z : Int)] false a b = no3) := by
  obtain ⟨e1, e2⟩ := den_mul (S := x * 3600 + y * 60 + z) (num := num) (den := den) (by omega) hnum hden
  obtain ⟨e3, e4⟩ := dial_mul hk hden
  have hp : 1 ≤ k * 3600 * den := Nat.mul_pos (by omega) (by omega)
  have e5 : w64 (w64 (w64 ((x : Int) * 3600) + w64 ((y : Int) * 60)) + (z : Int)) = ((x * 3600 + y * 60 + z : Nat) : Int) := by
    rw [w64s (n := (x : Int) * 3600) (by omega) (by omega), w64s (n := (y : Int) * 60) (by omega) (by omega), w64s (n := (x : Int) * 3600 + (y : Int) * 60) (by omega) (by omega), w64s (by omega) (by omega)]; omega
  have hsp := pr_spec (n := (x * 3600 + y * 60 + z) * den + num) hp
  rw [hf] at hsp
  have e6 : zq8.d5 N k s num den [(x : Int), (y : Int), (z : Int)] false a b = (zq12.g N k (f.1 : Int) (f.2 : Int)).bind fun r5 => bif (!r5.2) then zq8.d6 N true a b f.1 f.2 else zq8.d6 N (!(r5.1.toList == s.toList)) a b f.1 f.2 := by
    unfold zq8.d5 zq8.o5
    rw [cond_false, dcT (show (0 : Int) < (([(x : Int), (y : Int), (z : Int)] : List Int).length : Int) by simp), cond_true, show ([(x : Int), (y : Int), (z : Int)] : List Int)[(0 : Int).toNat]? = some (x : Int) from rfl, Option.bind_some, dcT (show (1 : Int) < (([(x : Int), (y : Int), (z : Int)] : List Int).length : Int) by simp), cond_true, show ([(x : Int), (y : Int), (z : Int)] : List Int)[(1 : Int).toNat]? = some (y : Int) from rfl, Option.bind_some, dcT (show (2 : Int) < (([(x : Int), (y : Int), (z : Int)] : List Int).length : Int) by simp), cond_true, show ([(x : Int), (y : Int), (z : Int)] : List Int)[(2 : Int).toNat]? = some (z : Int) from rfl, Option.bind_some, e5, e1, e3, part_eq (by omega) hp (by omega) (by omega), hf, Option.bind_some]
  rw [e6]
  by_cases c : f.2 ≤ 1000000
  · have hD : Dial k f.1 f.2 := ⟨hk1, hk, hsp.1, c, hsp.2.2.1⟩
    rw [(text_yes (by omega) hD).1, Option.bind_some]
    dsimp only
    rw [Bool.not_true, cond_false, bs_toList, bs_toList, bsOf_list]
    constructor
    · intro _ hs
      rw [hs, bsOf_list, beq_self_eq_true]; rfl
    · intro hh
      have : ¬ timeL (f.1 * k * 60) f.2 = s.data.toList := fun e => hh ⟨c, bs_ext (by rw [bsOf_list, e])⟩
      rw [beq_eq_false_iff_ne.mpr this]; rfl
  · have hb : timeB k f.1 f.2 = false := by
      cases h : timeB k f.1 f.2 with
      | false => rfl
      | true =>
        obtain ⟨_, a', b', _, _, _, _, h6, h7⟩ := timeB_iff.1 h
        have := h7.le
        omega
    rw [(text_no (by omega) hb).1]
    exact ⟨fun hh => absurd hh c, fun _ => rfl⟩
theorem pd3_step {N m : Nat} {h n d a b : Int} {s : ByteArray} {v : List Int} {ps : List ByteArray} {i : Nat} (hi : i < ps.length) (hl : ps.length ≤ 3) (hv : v.length ≤ 3) (hs : ∀ p ∈ ps, p.size ≤ 281474976710656) :
    zq8.l4 N (m + 1) h s n d v ps ps.length i a b = bif !(AT ps[i]).2 then no3 else zq8.l4 N m h s n d (v ++ [(AT ps[i]).1]) ps ps.length ((i + 1 : Nat) : Int) a b := by
  show zq8.d4 N h s n d v ps ps.length i a b _ = _
  unfold zq8.d4 zq8.o4
  rw [dcT (by omega), cond_true, dcT (show (0 : Int) ≤ (i : Int) by omega), cond_true, cond_true, Int.toNat_natCast, getAt hi, AT_eq N (hs _ (List.getElem_mem hi)), Option.bind_some, blT (by simp; omega), cond_true, w1add (by omega)]
theorem pd3_end {N m k : Nat} {n d a b : Int} {s : ByteArray} {ps : List ByteArray} (hk : k ≤ 24) (hl : ps.length = 3) {x y z : Int} :
    zq8.l4 N (m + 1) k s n d [x, y, z] ps ps.length ((3 : Nat) : Int) a b = if (0 ≤ x ∧ x ≤ (k : Int) - 1) ∧ (0 ≤ y ∧ y ≤ 59) ∧ (0 ≤ z ∧ z ≤ 59) then zq8.d5 N k s n d [x, y, z] false a b else no3 := by
  show zq8.d4 N k s n d [x, y, z] ps ps.length ((3 : Nat) : Int) a b _ = _
  unfold zq8.d4 zq8.o4
  rw [dcF (by omega), cond_false, dcT (show (0 : Int) < (([x, y, z] : List Int).length : Int) by simp), cond_true, show ([x, y, z] : List Int)[(0 : Int).toNat]? = some x from rfl, Option.bind_some, w64s (by omega) (by omega), within_eq, Option.bind_some]
  have un : ∀ v, zq8.d5 N k s n d v true a b = no3 := fun v => rfl
  cases c1 : inB x 0 ((k : Int) - 1) with
  | false => rw [if_neg (fun hh => inB_not.1 c1 hh.1), Bool.not_false, cond_true]; exact un _
  | true =>
    rw [Bool.not_true, cond_false, dcT (show (1 : Int) < (([x, y, z] : List Int).length : Int) by simp), cond_true, show ([x, y, z] : List Int)[(1 : Int).toNat]? = some y from rfl, Option.bind_some, within_eq, Option.bind_some]
    cases c2 : inB y 0 59 with
    | false => rw [if_neg (fun hh => inB_not.1 c2 hh.2.1), Bool.not_false, cond_true]; exact un _
    | true =>
      rw [Bool.not_true, cond_false, dcT (show (2 : Int) < (([x, y, z] : List Int).length : Int) by simp), cond_true, show ([x, y, z] : List Int)[(2 : Int).toNat]? = some z from rfl, Option.bind_some, within_eq, Option.bind_some]
      cases c3 : inB z 0 59 with
      | false => rw [if_neg (fun hh => inB_not.1 c3 hh.2.2), Bool.not_false]; exact un _
      | true => rw [if_pos ⟨inB_iff.1 c1, inB_iff.1 c2, inB_iff.1 c3⟩, Bool.not_true]
theorem pd3_eq {N k : Nat} (hN : 100 ≤ N) {n d a b : Int} {s : ByteArray} (hk : k ≤ 24) (h8 : 8 ≤ s.size) (hsz : s.size ≤ 1048576) :
    zq8.d3 N k s n d a b = if ((AT (s.extract 0 2)).2 = true ∧ (AT (s.extract 3 5)).2 = true ∧ (AT (s.extract 6 8)).2 = true) ∧ (0 ≤ (AT (s.extract 0 2)).1 ∧ (AT (s.extract 0 2)).1 ≤ (k : Int) - 1) ∧ (0 ≤ (AT (s.extract 3 5)).1 ∧ (AT (s.extract 3 5)).1 ≤ 59) ∧ (0 ≤ (AT (s.extract 6 8)).1 ∧ (AT (s.extract 6 8)).1 ≤ 59)
      then zq8.d5 N k s n d [(AT (s.extract 0 2)).1, (AT (s.extract 3 5)).1, (AT (s.extract 6 8)).1] false a b else no3 := by
  obtain ⟨m, hm⟩ : ∃ m, N = m + 4 := ⟨N - 4, by omega⟩
  have hps : ∀ p ∈ [s.extract 0 2, s.extract 3 5, s.extract 6 8], p.size ≤ 281474976710656 := by
    intro p hp
    simp only [List.mem_cons, List.not_mem_nil, or_false] at hp
    rcases hp with rfl | rfl | rfl <;> (rw [ByteArray.size_extract]; omega)
  have e0 : zq8.d3 N k s n d a b = zq8.l4 N (m + 4) k s n d [] [s.extract 0 2, s.extract 3 5, s.extract 6 8] ([s.extract 0 2, s.extract 3 5, s.extract 6 8] : List ByteArray).length ((0 : Nat) : Int) a b := by
    unfold zq8.d3 zq8.o3
    rw [dcT (show (2 : Int) ≤ (s.size : Int) by omega), cond_true, dcT (show (5 : Int) ≤ (s.size : Int) by omega), cond_true, dcT (show (8 : Int) ≤ (s.size : Int) by omega), cond_true]
    dsimp only
    rw [show zq8.l4 N N = zq8.l4 N (m + 4) from congrArg _ hm]; rfl
  rw [e0, pd3_step (i := 0) (by simp) (by simp) (by simp) hps]
  show (bif !(AT (s.extract 0 2)).2 then no3 else zq8.l4 N (m + 3) k s n d ([(AT (s.extract 0 2)).1]) [s.extract 0 2, s.extract 3 5, s.extract 6 8] ([s.extract 0 2, s.extract 3 5, s.extract 6 8] : List ByteArray).length ((1 : Nat) : Int) a b) = _
  cases c0 : (AT (s.extract 0 2)).2 with
  | false => rw [Bool.not_false, cond_true, if_neg (fun hh => by cases hh.1.1)]
  | true =>
    rw [Bool.not_true, cond_false, pd3_step (i := 1) (by simp) (by simp) (by simp) hps]
    show (bif !(AT (s.extract 3 5)).2 then no3 else zq8.l4 N (m + 2) k s n d ([(AT (s.extract 0 2)).1, (AT (s.extract 3 5)).1]) [s.extract 0 2, s.extract 3 5, s.extract 6 8] ([s.extract 0 2, s.extract 3 5, s.extract 6 8] : List ByteArray).length ((2 : Nat) : Int) a b) = _
    cases c1 : (AT (s.extract 3 5)).2 with
    | false => rw [Bool.not_false, cond_true, if_neg (fun hh => by cases hh.1.2.1)]
    | true =>
      rw [Bool.not_true, cond_false, pd3_step (i := 2) (by simp) (by simp) (by simp) hps]
      show (bif !(AT (s.extract 6 8)).2 then no3 else zq8.l4 N (m + 1) k s n d ([(AT (s.extract 0 2)).1, (AT (s.extract 3 5)).1, (AT (s.extract 6 8)).1]) [s.extract 0 2, s.extract 3 5, s.extract 6 8] ([s.extract 0 2, s.extract 3 5, s.extract 6 8] : List ByteArray).length ((3 : Nat) : Int) a b) = _
      cases c2 : (AT (s.extract 6 8)).2 with
      | false => rw [Bool.not_false, cond_true, if_neg (fun hh => by cases hh.1.2.2)]
      | true =>
        rw [Bool.not_true, cond_false, pd3_end hk rfl]
        by_cases c : (0 ≤ (AT (s.extract 0 2)).1 ∧ (AT (s.extract 0 2)).1 ≤ (k : Int) - 1) ∧ (0 ≤ (AT (s.extract 3 5)).1 ∧ (AT (s.extract 3 5)).1 ≤ 59) ∧ (0 ≤ (AT (s.extract 6 8)).1 ∧ (AT (s.extract 6 8)).1 ≤ 59)
        · rw [if_pos c, if_pos ⟨⟨rfl, rfl, rfl⟩, c⟩]
        · rw [if_neg c, if_neg (fun hh => c hh.2)]
theorem pd3_tot {N k num den : Nat} (hN : 1000000000000 < N) {a b : Int} {s : ByteArray} (hk1 : 2 ≤ k) (hk : k ≤ 24) (h8 : 8 ≤ s.size) (hsz : s.size ≤ 1048576) (hnum : num ≤ 1000000) (hd1 : 1 ≤ den) (hden : den ≤ 1000000) :
    Tot (zq8.d3 N k s num den a b) (Reads k s) := by
  rw [pd3_eq (by omega) hk h8 hsz]
  split
  · rename_i c
    obtain ⟨_, c1, c2, c3⟩ := c
    obtain ⟨x, hx⟩ := Int.eq_ofNat_of_zero_le c1.1
    obtain ⟨y, hy⟩ := Int.eq_ofNat_of_zero_le c2.1
    obtain ⟨z, hz⟩ := Int.eq_ofNat_of_zero_le c3.1
    rw [hx] at c1 ⊢
    rw [hy] at c2 ⊢
    rw [hz] at c3 ⊢
    have hp : 1 ≤ k * 3600 * den := Nat.mul_pos (by omega) (by omega)
    have hsp := pr_spec (n := (x * 3600 + y * 60 + z) * den + num) hp
    have H := pd5_eq (N := N) (num := num) (den := den) hN (a := a) (b := b) (s := s) hk1 hk (show x < k by omega) (show y ≤ 59 by omega) (show z ≤ 59 by omega) hnum hd1 hden rfl
    generalize pr ((x * 3600 + y * 60 + z) * den + num) (k * 3600 * den) = f at *
    by_cases c : f.2 ≤ 1000000 ∧ s = bsOf (timeL (f.1 * k * 60) f.2)
    · rw [H.1 c.1 c.2]
      exact Tot.now (.inr ⟨k, f.1, f.2, rfl, ⟨hk1, hk, hsp.1, c.1, hsp.2.2.1⟩, c.2, rfl⟩)
    · rw [H.2 c]; exact Tot.now (.inl rfl)
  · exact Tot.now (.inl rfl)
/-- what stands behind the eighth byte and the next -/
theorem ext_rest {s : ByteArray} (h : 9 ≤ s.size) : ((s.extract 8 s.size).extract 1 (s.extract 8 s.size).size).data.toList = s.data.toList.drop 9 := by
  have hlen : s.data.toList.length = s.size := Array.length_toList
  rw [extract_list, extract_list, ByteArray.size_extract, List.take_of_length_le (by rw [List.length_drop, List.length_take]; omega), List.take_of_length_le (by omega), List.drop_drop]
noncomputable def cutB (s : ByteArray) : ByteArray × ByteArray := if Lib.indexByte s.data.toList 47 < 0 then (s, ⟨#[]⟩) else (s.extract 0 (Lib.indexByte s.data.toList 47).toNat, s.extract ((Lib.indexByte s.data.toList 47).toNat + 1) s.size)
theorem cut_eq (N : Nat) (s : ByteArray) (hs : s.size ≤ 1048576) : ∃ b, zq79.g N s (⟨#[47]⟩ : ByteArray) = some ((cutB s).1, (cutB s).2, b) := by
  have h2 : zq79.g N s (⟨#[47]⟩ : ByteArray) = (bif decide (s.size < 4294967281) then some (if Lib.indexByte s.data.toList 47 < 0 then (s, ⟨#[]⟩, false) else (s.extract 0 (Lib.indexByte s.data.toList 47).toNat, s.extract ((Lib.indexByte s.data.toList 47).toNat + 1) s.size, true)) else none) := rfl
  rw [h2, dcT (by omega), cond_true]
  unfold cutB
  by_cases c : Lib.indexByte s.data.toList 47 < 0
  · rw [if_pos c, if_pos c]; exact ⟨_, rfl⟩
  · rw [if_neg c, if_neg c]; exact ⟨_, rfl⟩
theorem cutB_size (s : ByteArray) : (cutB s).1.size ≤ s.size ∧ (cutB s).2.size ≤ s.size := by
  unfold cutB
  split
  · exact ⟨Nat.le_refl _, Nat.zero_le _⟩
  · rw [ByteArray.size_extract, ByteArray.size_extract]; omega
theorem indexByte_sep (c : UInt8) (r : List UInt8) : ∀ a : List UInt8, c ∉ a → Lib.indexByte (a ++ c :: r) c = (a.length : Int)
  | [], _ => by simp [Lib.indexByte]
  | b :: a, h => by
    rw [List.mem_cons, not_or] at h
    have ih := indexByte_sep c r a h.2
    rw [List.cons_append]
    unfold Lib.indexByte
    have hb : (b == c) = false := by rw [beq_eq_false_iff_ne]; exact fun e => h.1 e.symm
    simp only [hb, ih, List.length_cons]
    simp
theorem cut_sep {s : ByteArray} {x y : List UInt8} (h : s.data.toList = x ++ 47 :: y) (hx : (47 : UInt8) ∉ x) : cutB s = (bsOf x, bsOf y) := by
  have hlen : s.data.toList.length = s.size := Array.length_toList
  have hi := indexByte_sep 47 y x hx
  unfold cutB
  rw [h, hi, if_neg (by omega), Int.toNat_natCast]
  refine Prod.ext ?_ ?_
  · apply bs_ext
    rw [extract_list, bsOf_list, h]; simp
  · apply bs_ext
    rw [extract_list, bsOf_list, List.take_of_length_le (by omega), h]
    rw [show x ++ 47 :: y = (x ++ [47]) ++ y by simp, List.drop_left' (by simp)]
theorem top_eq {N k : Nat} (hN : 1000000000000 < N) {s : ByteArray} (hk1 : 2 ≤ k) (hk : k ≤ 24) (h8 : 8 ≤ s.size) (hsz : s.size ≤ 1048576) :
    zq8.g N k s = if s.size = 8 then zq8.d3 N k s 0 1 0 0 else
      (let Q := (s.extract 8 s.size).extract 1 (s.extract 8 s.size).size
       if (RN (cutB Q).1).2 = true ∧ (RN (cutB Q).2).2 = true ∧ (RN (cutB Q).2).1 ≠ 0 then zq8.d3 N k s (RN (cutB Q).1).1 (RN (cutB Q).2).1 0 0 else no3) := by
  have hlen : s.data.toList.length = s.size := Array.length_toList
  unfold zq8.g zq8.o0 zq8.d1 zq8.o1
  rw [isDial_eq, Option.bind_some, inB_iff.2 ⟨by omega, by omega⟩, Bool.not_true, cond_false, dcF (show ¬ (s.size : Int) < 8 by omega)]
  dsimp only
  rw [cond_false, dcT (show (0 : Int) ≤ (s.size : Int) by omega), cond_true, dcT (show (s.size : Int) ≤ (s.size : Int) by omega), cond_true, dcT (show (8 : Int) ≤ (s.size : Int) by omega), cond_true, Int.toNat_natCast, show (8 : Int).toNat = 8 from rfl, show (1 : Int).toNat = 1 from rfl, bs_toList, bs_toList]
  have hR : (s.extract 8 s.size).data.toList = s.data.toList.drop 8 := by rw [extract_list, List.take_of_length_le (by omega)]
  have hRs : (s.extract 8 s.size).size = s.size - 8 := by rw [ByteArray.size_extract]; omega
  by_cases c : s.size = 8
  · rw [if_pos c, hR, List.drop_eq_nil_of_le (by omega)]; rfl
  · have hne : ((s.extract 8 s.size).data.toList == (⟨#[]⟩ : ByteArray).data.toList) = false := by
      rw [beq_eq_false_iff_ne, hR]
      intro e
      have := congrArg List.length e
      rw [List.length_drop] at this
      simp at this
      omega
    rw [if_neg c, hne, Bool.not_false, cond_true, dcT (by omega), cond_true, dcT (Int.le_refl _), cond_true, dcT (show (1 : Int) ≤ ((s.extract 8 s.size).size : Int) by omega), cond_true, Int.toNat_natCast]
    have hQs : ((s.extract 8 s.size).extract 1 (s.extract 8 s.size).size).size ≤ 1048576 := by rw [ByteArray.size_extract]; omega
    generalize (s.extract 8 s.size).extract 1 (s.extract 8 s.size).size = Q at *
    obtain ⟨b, hc⟩ := cut_eq N Q hQs
    have hz := cutB_size Q
    rw [hc, Option.bind_some]
    dsimp only
    rw [RN_eq N (by omega), Option.bind_some, RN_eq N (by omega), Option.bind_some]
    cases c1 : (RN (cutB Q).1).2 with
    | false => rw [Bool.not_false, cond_true, if_neg (fun hh => by cases hh.1)]; rfl
    | true =>
      rw [Bool.not_true, cond_false]
      cases c2 : (RN (cutB Q).2).2 with
      | false => rw [Bool.not_false, cond_true, if_neg (fun hh => by cases hh.2.1)]; rfl
      | true =>
        rw [Bool.not_true, cond_false]
        by_cases c3 : (RN (cutB Q).2).1 = 0
        · rw [ieqT c3, if_neg (fun hh => hh.2.2 c3)]; rfl
        · rw [ieqF c3, if_pos ⟨rfl, rfl, c3⟩]; rfl
theorem impl_tot {N : Nat} (hN : 1000000000000 < N) (h : Int) (s : ByteArray) (hsz : s.size ≤ 1048576) : Tot (zq8.g N h s) (Reads h s) := by
  have no : ∀ {x : Option (Int × Int × Bool)}, x = no3 → Tot x (Reads h s) := fun e => by rw [e]; exact Tot.now (.inl rfl)
  cases hb : inB h 2 24 with
  | false =>
    refine no ?_
    unfold zq8.g zq8.o0
    rw [isDial_eq, hb]; rfl
  | true =>
    have hb' := inB_iff.1 hb
    obtain ⟨k, rfl⟩ := Int.eq_ofNat_of_zero_le (show 0 ≤ h by omega)
    by_cases c1 : s.size < 8
    · refine no ?_
      unfold zq8.g zq8.o0
      rw [isDial_eq, hb, Option.bind_some, Bool.not_true, cond_false, dcT (by omega)]; rfl
    · rw [top_eq hN (by omega) (by omega) (by omega) hsz]
      by_cases c2 : s.size = 8
      · rw [if_pos c2]
        exact pd3_tot (num := 0) (den := 1) hN (by omega) (by omega) (by omega) hsz (by omega) (by omega) (by omega)
      · rw [if_neg c2]
        dsimp only
        generalize (s.extract 8 s.size).extract 1 (s.extract 8 s.size).size = Q at *
        split
        · rename_i c
          have r1 := RN_range c.1
          have r2 := RN_range c.2.1
          have r3 := c.2.2
          obtain ⟨num, hn⟩ := Int.eq_ofNat_of_zero_le r1.1
          obtain ⟨den, hd⟩ := Int.eq_ofNat_of_zero_le r2.1
          rw [hn, hd]
          exact pd3_tot hN (by omega) (by omega) (by omega) hsz (by omega) (by omega) (by omega)
        · exact no rfl
theorem impl_read {N k n d : Nat} (hN : 1000000000000 < N) (h : Dial k n d) : zq8.g N k (bsOf (timeL (n * k * 60) d)) = some ((n : Int), (d : Int), true) := by
  have h2 := h.p; have h3 := h.t.le; have h4 := h.k2; have h5 := h.t.lt; have h6 := h.k1
  have hW := div60 (M := n * k * 60) rfl h5 h4
  have hW2 : n * k * 60 / d < 60 * k := by
    refine Nat.div_lt_of_lt_mul ?_
    have : n * k < d * k := Nat.mul_lt_mul_of_pos_right h5 (by omega)
    rw [Nat.mul_left_comm]; omega
  have hS := S_eq (M := n * k * 60) h2
  obtain ⟨a1, a2, a3⟩ := hms hS.1 hS.2
  have hds := den_small (X := n * k) h2 h3
  have hf := pr_spec (n := 60 * (n * k * 60)) h2
  have e36 : 3600 * (n * k) = 60 * (n * k * 60) := by omega
  rw [e36] at hds
  have tl := tail_len hf.1 hds
  have key : ∀ num den : Nat, (num, den) = pr (60 * (n * k * 60)) d → pr ((n * k * 60 / d / 60 * 3600 + n * k * 60 / d % 60 * 60 + 60 * (n * k * 60 % d) / d) * den + num) (k * 3600 * den) = (n, d) := by
    intro num den e
    exact tell (S := n * k * 60 / d / 60 * 3600 + n * k * 60 / d % 60 * 60 + 60 * (n * k * 60 % d) / d) (h := k) (num := num) (den := den) h5 h.t.cop (by omega) (by rw [e36, ← a1, ← a2, ← a3]; omega) (by rw [e36]; exact e)
  generalize hx : n * k * 60 / d / 60 = x at *
  generalize hy : n * k * 60 / d % 60 = y at *
  generalize hz : 60 * (n * k * 60 % d) / d = z at *
  have hL : timeL (n * k * 60) d = UInt8.ofNat (48 + x / 10) :: UInt8.ofNat (48 + x % 10) :: 58 :: UInt8.ofNat (48 + y / 10) :: UInt8.ofNat (48 + y % 10) :: 58 :: UInt8.ofNat (48 + z / 10) :: UInt8.ofNat (48 + z % 10) :: tailL (pr (60 * (n * k * 60)) d) := by
    unfold timeL
    rw [hx, hy, hz]; rfl
  have hl : (bsOf (timeL (n * k * 60) d)).data.toList = _ := (bsOf_list _).trans hL
  have hsz : (bsOf (timeL (n * k * 60) d)).size = 8 + (tailL (pr (60 * (n * k * 60)) d)).length := by rw [bsOf_size, hL]; simp; omega
  have fin : ∀ num den : Nat, (num, den) = pr (60 * (n * k * 60)) d → num ≤ 1000000 → 1 ≤ den → den ≤ 1000000 → zq8.d3 N k (bsOf (timeL (n * k * 60) d)) num den 0 0 = some ((n : Int), (d : Int), true) := by
    intro num den e q1 q2 q3
    have A0 : AT ((bsOf (timeL (n * k * 60) d)).extract 0 2) = ((x : Int), true) := AT_dd (by omega) (by rw [extract_list, hl]; rfl)
    have A1 : AT ((bsOf (timeL (n * k * 60) d)).extract 3 5) = ((y : Int), true) := AT_dd (by omega) (by rw [extract_list, hl]; rfl)
    have A2 : AT ((bsOf (timeL (n * k * 60) d)).extract 6 8) = ((z : Int), true) := AT_dd (by omega) (by rw [extract_list, hl]; rfl)
    rw [pd3_eq (by omega) h4 (by omega) (by omega), A0, A1, A2, if_pos ⟨⟨rfl, rfl, rfl⟩, ⟨by show (0 : Int) ≤ (x : Int); omega, by show (x : Int) ≤ _; omega⟩, ⟨by show (0 : Int) ≤ (y : Int); omega, by show (y : Int) ≤ _; omega⟩, ⟨by show (0 : Int) ≤ (z : Int); omega, by show (z : Int) ≤ _; omega⟩⟩]
    exact (pd5_eq hN h6 h4 (by omega) (by omega) (by omega) q1 q2 q3 (key num den e)).1 h3 rfl
  rw [top_eq hN h6 h4 (by omega) (by omega)]
  by_cases c : (pr (60 * (n * k * 60)) d).1 = 0
  · have hden : (pr (60 * (n * k * 60)) d).2 = 1 := by have := hf.2.2.1; rw [c, Nat.gcd_zero_left] at this; exact this
    have ht : tailL (pr (60 * (n * k * 60)) d) = [] := by unfold tailL; rw [if_pos c]
    rw [ht] at hsz
    rw [if_pos (by simpa using hsz)]
    exact fin 0 1 (by rw [← c, ← hden]) (by omega) (by omega) (by omega)
  · have ht : tailL (pr (60 * (n * k * 60)) d) = 43 :: (Lib.decDigits (pr (60 * (n * k * 60)) d).1 ++ 47 :: Lib.decDigits (pr (60 * (n * k * 60)) d).2) := by unfold tailL; rw [if_neg c]; simp
    rw [if_neg (by rw [hsz, ht]; simp)]
    have hQ := ext_rest (s := bsOf (timeL (n * k * 60) d)) (by rw [hsz, ht]; simp; omega)
    dsimp only
    generalize ((bsOf (timeL (n * k * 60) d)).extract 8 (bsOf (timeL (n * k * 60) d)).size).extract 1 ((bsOf (timeL (n * k * 60) d)).extract 8 (bsOf (timeL (n * k * 60) d)).size).size = Q at *
    rw [hl, ht] at hQ
    have hc := cut_sep (x := Lib.decDigits (pr (60 * (n * k * 60)) d).1) (y := Lib.decDigits (pr (60 * (n * k * 60)) d).2) hQ (no47 _)
    rw [hc]
    dsimp only
    rw [RN_dec (by omega), RN_dec (by omega), if_pos ⟨rfl, rfl, by show ¬ (((pr (60 * (n * k * 60)) d).2 : Nat) : Int) = 0; omega⟩]
    exact fin (pr (60 * (n * k * 60)) d).1 (pr (60 * (n * k * 60)) d).2 rfl (by omega) (by omega) (by omega)
/-- both read the same -/
theorem parse_eq {N : Nat} (hN : 1000000000000 < N) (h : Int) (s : ByteArray) (hsz : s.size ≤ 1048576) : ∃ r, zq8.g N h s = some r ∧ zq45.g N h s = some r ∧ Reads h s r := by
  obtain ⟨r, h1, h2⟩ := impl_tot hN h s hsz
  obtain ⟨r', h3, h4⟩ := spec_tot hN h s hsz
  refine ⟨r, h1, ?_, h2⟩
  rw [h3]
  rcases h2 with h2 | ⟨k, n, d, e1, e2, e3, e4⟩
  · rcases h4 with h4 | ⟨k, n, d, e1, e2, e3, e4⟩
    · rw [h2, h4]
    · subst e1 e3
      rw [impl_read hN e2] at h1
      rw [e4]; exact h1
  · subst e1 e3
    rw [spec_read hN e2] at h3
    rw [e4, ← h3]
end Go.Proofs.YtccjoegnkiaibaaGreatDoor.M
namespace Go.Proofs.YtccjoegnkiaibaaGreatDoor.M
open Go Go.PM
set_option linter.unusedVariables false
set_option linter.unusedSimpArgs false
theorem and255 (x : Int) : 0 ≤ w64 (andK .u64 x 255) ∧ w64 (andK .u64 x 255) ≤ 255 := by
  have e : (BitVec.ofInt IntKind.u64.bits x &&& BitVec.ofInt IntKind.u64.bits 255).toNat ≤ 255 := by
    rw [BitVec.toNat_and]
    exact Nat.le_trans Nat.and_le_right (by decide)
  unfold andK
  generalize (BitVec.ofInt IntKind.u64.bits x &&& BitVec.ofInt IntKind.u64.bits 255).toNat = n at e
  have e1 : IntKind.wrap .u64 (n : Int) = n := by
    unfold IntKind.wrap
    have : (n : Int) % (2 ^ IntKind.u64.bits : Int) = n := by
      show (n : Int) % (18446744073709551616 : Int) = n
      omega
    rw [this]
    rfl
  rw [e1, w64s (by omega) (by omega)]
  omega
/-- bytes -/
def Bs (code : List Int) : Prop := code.length ≤ 1048576 ∧ ∀ x ∈ code, 0 ≤ x ∧ x ≤ 255
theorem next_tot (N : Nat) {code : List Int} (hc : Bs code) {pos : Int} (h1 : 0 ≤ pos) (h2 : pos ≤ 1000000000) (seed : Int) :
    Tot (zq65.g N code pos seed) fun r => (0 ≤ r.1 ∧ r.1 ≤ 255) ∧ r.2.1 = code ∧ 0 ≤ r.2.2.1 ∧ r.2.2.1 ≤ pos + 1 := by
  have key : ∀ b, 0 ≤ b → b ≤ 255 → Tot (zq65.d1 N b code pos seed) fun r => (0 ≤ r.1 ∧ r.1 ≤ 255) ∧ r.2.1 = code ∧ 0 ≤ r.2.2.1 ∧ r.2.2.1 ≤ pos + 1 := by
    intro b hb1 hb2
    unfold zq65.d1 zq65.o1
    rw [w64s (n := pos + 1) (by omega) (by omega)]
    refine Tot.bif (fun _ => Tot.now ⟨⟨hb1, hb2⟩, rfl, ?_, ?_⟩) (fun _ => Tot.now ⟨and255 _, rfl, ?_, ?_⟩)
    all_goals (dsimp only; omega)
  unfold zq65.g zq65.o0
  dsimp only
  refine Tot.dif (fun hlt => ?_) (fun hlt => key 0 (by omega) (by omega))
  have hl : pos.toNat < code.length := by omega
  rw [dcT h1, cond_true, dcT hlt, cond_true, getAt hl]
  have := hc.2 code[pos.toNat] (List.getElem_mem hl)
  rw [w64s (by omega) (by omega)]
  exact key _ this.1 this.2
theorem pick_tot (N : Nat) {code : List Int} (hc : Bs code) (n : Int) {pos : Int} (h1 : 0 ≤ pos) (h2 : pos ≤ 1000000) (seed : Int) :
    Tot (zq67.g N n code pos seed) fun r => (0 ≤ r.1 ∧ (r.1 < n ∨ r.1 = 0)) ∧ r.2.1 = code ∧ 0 ≤ r.2.2.1 ∧ r.2.2.1 ≤ pos + 2 := by
  have key : ∀ x p s, 1 < n → 0 ≤ x → 0 ≤ p → p ≤ pos + 2 → Tot (zq67.d1 N n x code p s) fun r => (0 ≤ r.1 ∧ (r.1 < n ∨ r.1 = 0)) ∧ r.2.1 = code ∧ 0 ≤ r.2.2.1 ∧ r.2.2.1 ≤ pos + 2 := by
    intro x p s hn hx hp1 hp2
    unfold zq67.d1 zq67.o1
    rw [ieqF (by omega), cond_false]
    refine Tot.now ⟨⟨Int.tmod_nonneg _ hx, .inl ?_⟩, rfl, hp1, hp2⟩
    exact Int.tmod_lt_of_pos _ (by omega)
  unfold zq67.g zq67.o0
  dsimp only
  refine Tot.dif (fun hlt => Tot.now ⟨⟨by dsimp only; omega, .inr rfl⟩, rfl, h1, by dsimp only; omega⟩) (fun hlt => ?_)
  refine Tot.bind (next_tot N hc h1 (by omega) seed) ?_
  rintro ⟨x, c, p, s⟩ ⟨⟨x1, x2⟩, rfl, p1, p2⟩
  dsimp only at x1 x2 p1 p2 ⊢
  refine Tot.dif (fun hgt => ?_) (fun hgt => ?_)
  · refine Tot.bind (next_tot N hc p1 (by omega) s) ?_
    rintro ⟨y, c, q, t⟩ ⟨⟨y1, y2⟩, rfl, q1, q2⟩
    dsimp only at y1 y2 q1 q2 ⊢
    rw [w64s (n := x * 256) (by omega) (by omega), w64s (by omega) (by omega)]
    exact key _ _ _ (by omega) (by omega) q1 (by omega)
  · exact key _ _ _ (by omega) x1 p1 (by omega)
theorem one_tot (N : Nat) {code : List Int} (hc : Bs code) (n : Int) {pos : Int} (h1 : 0 ≤ pos) (h2 : pos ≤ 1000000) (seed : Int) :
    Tot (zq66.g N n code pos seed) fun r => r.2.1 = code ∧ 0 ≤ r.2.2.1 ∧ r.2.2.1 ≤ pos + 2 := by
  unfold zq66.g zq66.o0
  refine Tot.bind (pick_tot N hc n h1 h2 seed) ?_
  rintro ⟨x, c, p, s⟩ ⟨⟨x1, x2⟩, rfl, p1, p2⟩
  exact Tot.now ⟨rfl, p1, p2⟩
theorem among_tot (N : Nat) {code : List Int} (hc : Bs code) (l : List Int) (hl : 0 < l.length) {pos : Int} (h1 : 0 ≤ pos) (h2 : pos ≤ 1000000) (seed : Int) :
    Tot (zq63.g N l code pos seed) fun r => r.1 ∈ l ∧ r.2.1 = code ∧ 0 ≤ r.2.2.1 ∧ r.2.2.1 ≤ pos + 2 := by
  unfold zq63.g zq63.o0
  refine Tot.bind (pick_tot N hc _ h1 h2 seed) ?_
  rintro ⟨x, c, p, s⟩ ⟨⟨x1, x2⟩, rfl, p1, p2⟩
  dsimp only at x1 x2 p1 p2 ⊢
  have hx : x.toNat < l.length := by omega
  rw [dcT x1, cond_true, dcT (by omega), cond_true, getAt hx]
  exact Tot.now ⟨List.getElem_mem hx, rfl, p1, p2⟩
end Go.Proofs.YtccjoegnkiaibaaGreatDoor.M
namespace Go.Proofs.YtccjoegnkiaibaaGreatDoor.M
open Go Go.PM Go.Proofs.YtccjoegnkiaibaaGreatDoor.P
set_option linter.unusedVariables false
set_option linter.unusedSimpArgs false
set_option maxRecDepth 100000
/-! ### draws -/
theorem hours_tot (N : Nat) {code : List Int} (hc : Bs code) {pos : Int} (h1 : 0 ≤ pos) (h2 : pos ≤ 1000000) (seed : Int) :
    Tot (zq64.g N code pos seed) fun r => r.2.1 = code ∧ 0 ≤ r.2.2.1 ∧ r.2.2.1 ≤ pos + 2 := by
  unfold zq64.g zq64.o0
  refine Tot.bind (among_tot N hc _ (by simp) h1 h2 seed) ?_
  rintro ⟨x, c, p, s⟩ ⟨_, rfl, p1, p2⟩
  exact Tot.now ⟨rfl, p1, p2⟩
theorem sure_tot {N : Nat} (hN : 10000000 ≤ N) {code : List Int} (hc : Bs code) {pos : Int} (h1 : 0 ≤ pos) (h2 : pos ≤ 100000) (seed : Int) :
    Tot (zq69.g N code pos seed) fun r => (∃ a b : Nat, r.1 = a ∧ r.2.1 = b ∧ Turn a b) ∧ r.2.2.1 = code ∧ 0 ≤ r.2.2.2.1 ∧ r.2.2.2.1 ≤ pos + 4 := by
  unfold zq69.g zq69.o0
  refine Tot.bind (pick_tot N hc _ h1 (by omega) seed) ?_
  rintro ⟨x, c, p, s⟩ ⟨⟨x1, x2⟩, rfl, p1, p2⟩
  dsimp only at x1 x2 p1 p2 ⊢
  have hl : (([1, 2, 3, 4, 6, 8, 11, 12, 13, 24, 60, 143, 720, 719, 7, 5] : List Int).length : Int) = 16 := rfl
  rw [hl] at x2
  have hx : x.toNat < ([1, 2, 3, 4, 6, 8, 11, 12, 13, 24, 60, 143, 720, 719, 7, 5] : List Int).length := by show x.toNat < 16; omega
  rw [dcT x1, cond_true, dcT (by rw [hl]; omega), cond_true, getAt hx]
  have hy := List.getElem_mem hx
  generalize ([1, 2, 3, 4, 6, 8, 11, 12, 13, 24, 60, 143, 720, 719, 7, 5] : List Int)[x.toNat] = y at *
  have hy2 : 1 ≤ y ∧ y ≤ 720 := by
    simp only [List.mem_cons, List.not_mem_nil, or_false] at hy
    omega
  obtain ⟨D, rfl⟩ := Int.eq_ofNat_of_zero_le (show 0 ≤ y by omega)
  refine Tot.bind (pick_tot N hc _ p1 (by omega) s) ?_
  rintro ⟨u, c', q, t⟩ ⟨⟨u1, u2⟩, hcc, q1, q2⟩
  dsimp only at u1 u2 hcc q1 q2 ⊢
  obtain ⟨m, rfl⟩ := Int.eq_ofNat_of_zero_le u1
  have hsp := pr_spec (n := m) (d := D) (by omega)
  rw [make_eq (by omega) (by omega) (by omega), mkV_ok (by omega), Option.bind_some]
  exact Tot.now ⟨⟨(pr m D).1, (pr m D).2, rfl, rfl, hsp.1, by omega, hsp.2.2.1⟩, hcc, q1, by dsimp only; omega⟩
theorem turn_tot {N : Nat} (hN : 10000000 ≤ N) {code : List Int} (hc : Bs code) {pos : Int} (h1 : 0 ≤ pos) (h2 : pos ≤ 10000) (seed : Int) :
    Tot (zq70.g N code pos seed) fun r => r.2.2.1 = code ∧ 0 ≤ r.2.2.2.1 ∧ r.2.2.2.1 ≤ pos + 6 := by
  unfold zq70.g zq70.o0
  refine Tot.bind (pick_tot N hc 16 h1 (by omega) seed) ?_
  rintro ⟨x, c, p, s⟩ ⟨⟨x1, x2⟩, rfl, p1, p2⟩
  dsimp only at x1 x2 p1 p2 ⊢
  refine Tot.bif (fun _ => ?_) (fun _ => Tot.bif (fun _ => ?_) (fun _ => Tot.bif (fun _ => ?_) (fun _ => ?_)))
  · refine Tot.bind (among_tot N hc _ (by simp) p1 (by omega) s) ?_
    rintro ⟨y, c', q, t⟩ ⟨_, hcc, q1, q2⟩
    dsimp only at hcc q1 q2 ⊢
    subst hcc
    refine Tot.bind (among_tot N hc _ (by simp) q1 (by omega) t) ?_
    rintro ⟨z, c'', q', t'⟩ ⟨_, hcc, q1', q2'⟩
    exact Tot.now ⟨hcc, q1', by dsimp only at q2' ⊢; omega⟩
  · refine Tot.bind (among_tot N hc _ (by simp) p1 (by omega) s) ?_
    rintro ⟨y, c', q, t⟩ ⟨_, hcc, q1, q2⟩
    exact Tot.now ⟨hcc, q1, by dsimp only at q2 ⊢; omega⟩
  · refine Tot.bind (pick_tot N hc _ p1 (by omega) s) ?_
    rintro ⟨y, c', q, t⟩ ⟨_, hcc, q1, q2⟩
    exact Tot.now ⟨hcc, q1, by dsimp only at q2 ⊢; omega⟩
  · refine Tot.bind (sure_tot hN hc p1 (by omega) s) ?_
    rintro ⟨y, y', c', q, t⟩ ⟨_, hcc, q1, q2⟩
    exact Tot.now ⟨hcc, q1, by dsimp only at q2 ⊢; omega⟩
theorem drawLong {N : Nat} (hN : 10000000 ≤ N) {code : List Int} (hc : Bs code) : ∃ r, zq39.g N code = some r := by
  have : Tot (zq39.g N code) fun _ => True := by
    unfold zq39.g zq39.o0
    refine Tot.bind (hours_tot N hc (by omega) (by omega) 0) ?_
    rintro ⟨x, c, p, s⟩ ⟨rfl, p1, p2⟩
    dsimp only at p1 p2 ⊢
    refine Tot.bind (turn_tot hN hc p1 (by omega) s) ?_
    rintro r _
    exact Tot.now trivial
  obtain ⟨r, h, _⟩ := this
  exact ⟨r, h⟩
theorem drawTime {N : Nat} (hN : 10000000 ≤ N) {code : List Int} (hc : Bs code) : ∃ r, zq41.g N code = some r := by
  have : Tot (zq41.g N code) fun _ => True := by
    unfold zq41.g zq41.o0
    refine Tot.bind (hours_tot N hc (by omega) (by omega) 0) ?_
    rintro ⟨x, c, p, s⟩ ⟨rfl, p1, p2⟩
    dsimp only at p1 p2 ⊢
    refine Tot.bind (among_tot N hc _ (by simp) p1 (by omega) s) ?_
    rintro ⟨y, c', q, t⟩ ⟨_, hcc, q1, q2⟩
    dsimp only at hcc q1 q2 ⊢
    subst hcc
    refine Tot.bind (among_tot N hc _ (by simp) q1 (by omega) t) ?_
    rintro ⟨y, c', q', t'⟩ ⟨_, hcc, q1', q2'⟩
    dsimp only at hcc q1' q2' ⊢
    subst hcc
    refine Tot.bind (among_tot N hc _ (by simp) q1' (by omega) t') ?_
    rintro r _
    exact Tot.now trivial
  obtain ⟨r, h, _⟩ := this
  exact ⟨r, h⟩
theorem nums1 (x : Int) : (strOfNums [x]).size = 1 := rfl
theorem ext_size (s : ByteArray) (a b : Nat) (h : b ≤ s.size) : (s.extract a b).size = b - a := by
  rw [ByteArray.size_extract, Nat.min_eq_left h]
theorem spoilt_tot {N : Nat} (hN : 100 ≤ N) {code : List Int} (hc : Bs code) (u : ByteArray) (hu : u.size = 8) : ∀ (k n : Nat) (s : ByteArray) (pos seed : Int), k < n → s.size ≤ 1000 + 2 * (5 - k) → k ≤ 5 → 0 ≤ pos → pos + 6 * k ≤ 100000 → Tot (zq68.l1 N n s u (k : Int) code pos seed) fun r => r.1.size ≤ 1100
  | 0, n+1, s, pos, seed, hn, hs, hk, h1, h2 => by
    unfold zq68.l1 zq68.d1 zq68.o1
    rw [dcF (by omega), cond_false]
    exact Tot.now (by dsimp only; omega)
  | k+1, n+1, s, pos, seed, hn, hs, hk, h1, h2 => by
    have next : ∀ (s' : ByteArray) (p q : Int), s'.size ≤ 1000 + 2 * (5 - k) → 0 ≤ p → p + 6 * k ≤ 100000 → Tot (zq68.d3 N s' u ((k + 1 : Nat) : Int) code p q (fun w0 w1 w2 w3 w4 w5 => zq68.l1 N n w0 w1 w2 w3 w4 w5)) fun r => r.1.size ≤ 1100 := by
      intro s' p q a1 a2 a3
      unfold zq68.d3 zq68.o3
      dsimp only
      rw [w64s (by omega) (by omega), show ((k + 1 : Nat) : Int) - 1 = (k : Int) by omega]
      exact spoilt_tot hN hc u hu k n s' p q (by omega) a1 (by omega) a2 a3
    unfold zq68.l1 zq68.d1 zq68.o1
    rw [dcT (by omega), cond_true]
    refine Tot.dif (fun hp => ?_) (fun _ => Tot.now (by dsimp only; omega))
    unfold zq68.d2 zq68.o2
    dsimp only
    refine Tot.bind (pick_tot N hc _ h1 (by omega) seed) ?_
    rintro ⟨x, c, p, q⟩ ⟨⟨x1, x2⟩, hcc, p1, p2⟩
    dsimp only at x1 x2 hcc p1 p2 ⊢
    subst hcc
    refine Tot.bind (pick_tot N hc _ p1 (by omega) q) ?_
    rintro ⟨y, c', p', q'⟩ ⟨⟨y1, y2⟩, hcc, p1', p2'⟩
    dsimp only at y1 y2 hcc p1' p2' ⊢
    subst hcc
    rw [dcT y1, cond_true, dcT (show y < (u.size : Int) by omega), cond_true, numsO_all, Option.bind_some]
    refine Tot.bind (pick_tot N hc 3 p1' (by omega) q') ?_
    rintro ⟨z, c', p'', q''⟩ ⟨-, hcc, p1'', p2''⟩
    dsimp only at hcc p1'' p2'' ⊢
    subst hcc
    obtain ⟨x, rfl⟩ := Int.eq_ofNat_of_zero_le x1
    have hx : x < s.size := by omega
    have e1 : (s.extract (0 : Int).toNat ((x : Int)).toNat).size = x := by rw [Int.toNat_natCast, ext_size _ _ _ (by omega)]; rfl
    have e2 : (s.extract ((x : Int)).toNat ((s.size : Int)).toNat).size = s.size - x := by rw [Int.toNat_natCast, Int.toNat_natCast, ext_size _ _ _ (by omega)]
    have e3 : (s.extract (((x + 1 : Nat) : Int)).toNat ((s.size : Int)).toNat).size = s.size - (x + 1) := by rw [Int.toNat_natCast, Int.toNat_natCast, ext_size _ _ _ (by omega)]
    rw [w1add (by omega), dcT (show 0 ≤ (x : Int) by omega), dcT (show (x : Int) ≤ (s.size : Int) by omega), dcT (show 0 ≤ (s.size : Int) by omega), dcT (show (s.size : Int) ≤ (s.size : Int) by omega), dcT (show 0 ≤ ((x + 1 : Nat) : Int) by omega), dcT (show ((x + 1 : Nat) : Int) ≤ (s.size : Int) by omega)]
    simp only [cond_true]
    refine Tot.bif (fun _ => ?_) (fun _ => Tot.bif (fun _ => ?_) (fun _ => ?_))
    · rw [show Nat.ble _ _ = true from Nat.ble_eq_true_of_le (by rw [e1, nums1]; omega), cond_true, show Nat.ble _ _ = true from Nat.ble_eq_true_of_le (by rw [ByteArray.size_append, e1, e2, nums1]; omega), cond_true]
      exact next _ _ _ (by rw [ByteArray.size_append, ByteArray.size_append, e1, e2, nums1]; omega) p1'' (by omega)
    · rw [show Nat.ble _ _ = true from Nat.ble_eq_true_of_le (by rw [e1, nums1]; omega), cond_true, show Nat.ble _ _ = true from Nat.ble_eq_true_of_le (by rw [ByteArray.size_append, e1, e3, nums1]; omega), cond_true]
      exact next _ _ _ (by rw [ByteArray.size_append, ByteArray.size_append, e1, e3, nums1]; omega) p1'' (by omega)
    · rw [show Nat.ble _ _ = true from Nat.ble_eq_true_of_le (by rw [e1, e3]; omega), cond_true]
      exact next _ _ _ (by rw [ByteArray.size_append, e1, e3]; omega) p1'' (by omega)
  | _, 0, _, _, _, hn, _, _, _, _ => by omega
theorem text_size {k n d : Nat} (h : Dial k n d) : (bsOf (timeL (n * k * 60) d)).size ≤ 22 := by
  have hds := den_small (X := n * k) h.p h.t.le
  have hf := pr_spec (n := 60 * (n * k * 60)) h.p
  rw [show 3600 * (n * k) = 60 * (n * k * 60) by omega] at hds
  have tl := tail_len hf.1 hds
  rw [bsOf_size]
  unfold timeL
  simp only [List.length_append, List.length_singleton, dd_len]
  omega
theorem drawParse {N : Nat} (hN : 10000000 ≤ N) {code : List Int} (hc : Bs code) : ∃ h s, zq40.g N code = some (h, s) ∧ s.size ≤ 1048576 := by
  have key : Tot (zq40.g N code) fun r => r.2.size ≤ 1048576 := by
    unfold zq40.g zq40.o0
    refine Tot.bind (hours_tot N hc (by omega) (by omega) 0) ?_
    rintro ⟨h, c, p, s⟩ ⟨rfl, p1, p2⟩
    dsimp only at p1 p2 ⊢
    refine Tot.bind (sure_tot hN hc p1 (by omega) s) ?_
    rintro ⟨n, d, c', q, t⟩ ⟨⟨a, b, e1, e2, hT⟩, hcc, q1, q2⟩
    dsimp only at e1 e2 hcc q1 q2 ⊢
    subst hcc e1 e2
    rw [diHours_eq, Option.bind_some]
    cases hb : inB h 2 24 with
    | false => rw [Bool.not_false, cond_true]; exact Tot.now (by show (8 : Nat) ≤ 1048576; omega)
    | true =>
      have hb' := inB_iff.1 hb
      obtain ⟨k, rfl⟩ := Int.eq_ofNat_of_zero_le (show 0 ≤ h by omega)
      have hD : Dial k a b := ⟨by omega, by omega, hT⟩
      have hz := text_size hD
      rw [Bool.not_true, cond_false, (text_yes hN hD).2.2, Option.bind_some]
      refine Tot.bind (one_tot N hc 3 q1 (by omega) t) ?_
      rintro ⟨o, c', p', s'⟩ ⟨hcc, p1', p2'⟩
      dsimp only at hcc p1' p2' ⊢
      subst hcc
      refine Tot.bif (fun _ => ?_) (fun _ => Tot.now (by dsimp only; omega))
      unfold zq68.g zq68.o0
      dsimp only
      refine Tot.bind (P := fun r => r.1.size ≤ 1100) ?_ (fun r hr => Tot.now (by dsimp only; omega))
      refine Tot.bind (pick_tot N hc 2 p1' (by omega) s') ?_
      rintro ⟨x, c', p'', s''⟩ ⟨⟨x1, x2⟩, hcc, p1'', p2''⟩
      dsimp only at x1 x2 hcc p1'' p2'' ⊢
      subst hcc
      obtain ⟨x, rfl⟩ := Int.eq_ofNat_of_zero_le x1
      rw [show w64 (1 + (x : Int)) = ((x + 1 : Nat) : Int) by rw [w64s (by omega) (by omega)]; omega]
      exact spoilt_tot (by omega) hc _ rfl (x + 1) N _ p'' s'' (by omega) (by omega) (by omega) p1'' (by omega)
  obtain ⟨⟨h, s⟩, e1, e2⟩ := key
  exact ⟨h, s, e1, e2⟩
/-! ### the time that is told -/
theorem TimeOf_eq {N : Nat} (hN : 10000000 ≤ N) (g a b c : Int) : ∃ r, zq11.g N g a b c = some r ∧ zq48.g N g a b c = some r ∧ (r = (0, 0, false) ∨
    ∃ k x y z : Nat, g = k ∧ a = x ∧ b = y ∧ c = z ∧ 2 ≤ k ∧ k ≤ 24 ∧ x < k ∧ y ≤ 59 ∧ z ≤ 59 ∧ r = r3 (pr (x * 3600 + y * 60 + z) (k * 3600))) := by
  unfold zq11.g zq11.o0 zq48.g zq48.o0
  rw [isDial_eq, diHours_eq, Option.bind_some, Option.bind_some]
  cases c1 : inB g 2 24 with
  | false => exact ⟨_, rfl, rfl, .inl rfl⟩
  | true =>
    have h1 := inB_iff.1 c1
    rw [Bool.not_true, cond_false, cond_false, w64s (by omega) (by omega), within_eq, l1In_eq, Option.bind_some, Option.bind_some]
    cases c2 : inB a 0 (g - 1) with
    | false => exact ⟨_, rfl, rfl, .inl rfl⟩
    | true =>
      have h2 := inB_iff.1 c2
      rw [Bool.not_true, cond_false, cond_false, within_eq, l1In_eq, Option.bind_some, Option.bind_some]
      cases c3 : inB b 0 59 with
      | false => exact ⟨_, rfl, rfl, .inl rfl⟩
      | true =>
        have h3 := inB_iff.1 c3
        rw [Bool.not_true, cond_false, cond_false, within_eq, l1In_eq, Option.bind_some, Option.bind_some]
        cases c4 : inB c 0 59 with
        | false => exact ⟨_, rfl, rfl, .inl rfl⟩
        | true =>
          have h4 := inB_iff.1 c4
          obtain ⟨k, rfl⟩ := Int.eq_ofNat_of_zero_le (show 0 ≤ g by omega)
          obtain ⟨x, rfl⟩ := Int.eq_ofNat_of_zero_le h2.1
          obtain ⟨y, rfl⟩ := Int.eq_ofNat_of_zero_le h3.1
          obtain ⟨z, rfl⟩ := Int.eq_ofNat_of_zero_le h4.1
          have hp := (pr_spec (n := x * 3600 + y * 60 + z) (d := k * 3600) (by omega)).2.1
          refine ⟨r3 (pr (x * 3600 + y * 60 + z) (k * 3600)), ?_, ?_, .inr ⟨k, x, y, z, rfl, rfl, rfl, rfl, by omega, by omega, by omega, by omega, by omega, rfl⟩⟩
          · dsimp only
            unfold zq11.d1 zq11.o1
            rw [Bool.not_true, cond_false, show w64 (w64 (w64 ((x : Int) * 3600) + w64 ((y : Int) * 60)) + (z : Int)) = ((x * 3600 + y * 60 + z : Nat) : Int) by
              rw [w64s (n := (x : Int) * 3600) (by omega) (by omega), w64s (n := (y : Int) * 60) (by omega) (by omega), w64s (n := (x : Int) * 3600 + (y : Int) * 60) (by omega) (by omega), w64s (by omega) (by omega)]; omega,
              show w64 ((k : Int) * 3600) = ((k * 3600 : Nat) : Int) by rw [w64s (by omega) (by omega)]; omega, part_eq (by omega) (by omega) (by omega) (by omega)]; rfl
          · dsimp only
            unfold zq48.d1 zq48.o1 zq60.g zq60.o0
            rw [Bool.not_true, cond_false, show w64 (w64 (w64 (w64 ((x : Int) * 60) + (y : Int)) * 60) + (z : Int)) = ((x * 3600 + y * 60 + z : Nat) : Int) by
              rw [w64s (n := (x : Int) * 60) (by omega) (by omega), w64s (n := (x : Int) * 60 + (y : Int)) (by omega) (by omega), w64s (n := ((x : Int) * 60 + (y : Int)) * 60) (by omega) (by omega), w64s (by omega) (by omega)]; omega,
              show w64 ((k : Int) * 3600) = ((k * 3600 : Nat) : Int) by rw [w64s (by omega) (by omega)]; omega, make_eq (by omega) (by omega) (by omega), mkV_ok (by omega)]; rfl
/-- hours, minutes and seconds of the time that is told -/
theorem TimeOf_back {k x y z : Nat} (h1 : 2 ≤ k) (h2 : k ≤ 24) (hx : x < k) (hy : y ≤ 59) (hz : z ≤ 59) {f : Nat × Nat} (hf : pr (x * 3600 + y * 60 + z) (k * 3600) = f) :
    Dial k f.1 f.2 ∧ f.1 * k * 60 / f.2 / 60 = x ∧ f.1 * k * 60 / f.2 % 60 = y ∧ (pr (f.1 * k * 60) f.2).1 * 60 = z * (pr (f.1 * k * 60) f.2).2 := by
  have hp := pr_spec (n := x * 3600 + y * 60 + z) (d := k * 3600) (by omega)
  have hl := pr_lt (n := x * 3600 + y * 60 + z) (d := k * 3600) (by omega) (by omega)
  rw [hf] at hp hl
  have hpos : 0 < f.2 := by have := hp.1; omega
  have e : f.1 * k * 60 * 60 = (x * 3600 + y * 60 + z) * f.2 := by rw [← hl, Nat.mul_assoc, Nat.mul_assoc]
  have hW : f.1 * k * 60 / f.2 = x * 60 + y := by
    rw [← div_mul_self' (n := f.1 * k * 60) (d := f.2) (show 0 < 60 by omega), e, Nat.mul_comm f.2 60, div_mul_self' hpos]
    omega
  refine ⟨⟨h1, h2, hp.1, by omega, hp.2.2.1⟩, by rw [hW]; omega, by rw [hW]; omega, ?_⟩
  have e2 : pr (f.1 * k * 60) f.2 = pr z 60 := by
    rw [pr_eq0 hpos (show 0 < 60 by omega) e, show x * 3600 + y * 60 + z = z + (x * 60 + y) * 60 by omega, pr_add]
  rw [e2]
  exact pr_lt (by omega) (by omega)
/-! ### lists -/
theorem wTurns_l (N : Nat) (l : List S25) (hs : l.length < 1000000000) : ∀ (d i n : Nat), i + d = l.length → d < n → zq35.l1 N n l l l.length i = some true
  | 0, i, n+1, hi, hn => by
    unfold zq35.l1 zq35.d1 zq35.o1
    rw [dcF (by omega), cond_false]
  | d+1, i, n+1, hi, hn => by
    unfold zq35.l1 zq35.d1 zq35.o1
    have hlt : i < l.length := by omega
    simp (disch := omega) only [dcT, cond_true, Int.toNat_natCast, getAt, beq_self_eq_true, Bool.and_self, Bool.not_true, cond_false, w1add]
    exact wTurns_l N l hs d (i+1) n (by omega) (by omega)
  | _, _, 0, _, hn => by omega
theorem wTurns_self {N : Nat} (l : List S25) (hs : l.length < 1000000000) (hN : l.length < N) : zq35.g N l l = some true := by
  unfold zq35.g zq35.o0
  rw [ineF rfl, cond_false]
  exact wTurns_l N l hs l.length 0 N (by omega) hN
theorem rts_get {n d k i j x : Nat} (h : x < (rts n d k i j).length) : (rts n d k i j)[x] = sT (rt n d k (i + x)) := by
  unfold rts at h ⊢
  rw [List.getElem_map, List.getElem_range', Nat.one_mul]
/-- rising -/
theorem rt_rise {n d k i : Nat} (hn : n < d) (hi : i + 1 < k) : (rt n d k i).1 * (rt n d k (i + 1)).2 < (rt n d k (i + 1)).1 * (rt n d k i).2 := by
  have hp : 0 < d * k := Nat.mul_pos (by omega) (by omega)
  have lt : ∀ x, x < k → n + x * d < d * k := by
    intro x hx
    have : (x + 1) * d ≤ k * d := Nat.mul_le_mul_right _ hx
    rw [Nat.add_mul, Nat.one_mul] at this
    rw [Nat.mul_comm d k]; omega
  have h1 := pr_lt hp (lt i (by omega))
  have h2 := pr_lt hp (lt (i + 1) hi)
  have q1 := pr_pos (n := n + i * d) hp
  have q2 := pr_pos (n := n + (i + 1) * d) hp
  unfold rt
  generalize pr (n + i * d) (d * k) = f at *
  generalize pr (n + (i + 1) * d) (d * k) = g at *
  refine Nat.lt_of_mul_lt_mul_right (a := d * k) ?_
  have e1 : f.1 * g.2 * (d * k) = (n + i * d) * (f.2 * g.2) := by rw [Nat.mul_right_comm, h1, Nat.mul_assoc]
  have e2 : g.1 * f.2 * (d * k) = (n + (i + 1) * d) * (f.2 * g.2) := by rw [Nat.mul_right_comm, h2, Nat.mul_assoc, Nat.mul_comm g.2]
  rw [e1, e2]
  refine Nat.mul_lt_mul_of_pos_right ?_ (Nat.mul_pos q1 q2)
  rw [Nat.add_mul]; omega
theorem rises_l {N : Nat} {n d k : Nat} (hn : n < d) (hd : d ≤ 1000000) (hk : k ≤ 24) (hok : (List.range' 0 k).all (okR n d k) = true) : ∀ (j i m : Nat), 1 ≤ i → i + j = k → j < m →
    zq34.l1 N m (rts n d k 0 k) i = some true
  | 0, i, m+1, h1, hi, hm => by
    unfold zq34.l1 zq34.d1 zq34.o1
    rw [dcF (by rw [rts_len]; omega), cond_false]
  | j+1, i, m+1, h1, hi, hm => by
    obtain ⟨i, rfl⟩ : ∃ u, i = u + 1 := ⟨i - 1, by omega⟩
    have hl := rts_len n d k 0 k
    have ok : ∀ x, x < k → (rt n d k x).2 ≤ 1000000 := fun x hx => of_decide_eq_true (List.all_eq_true.1 hok x (by rw [List.mem_range'_1]; omega))
    have lt : ∀ x, x < k → (rt n d k x).1 < (rt n d k x).2 := fun x hx => (pr_spec (Nat.mul_pos (by omega) (by omega))).1
    have g1 : (rts n d k 0 k)[i]'(by omega) = sT (rt n d k i) := by rw [rts_get]; congr 2; omega
    have g2 : (rts n d k 0 k)[i + 1]'(by omega) = sT (rt n d k (i + 1)) := by rw [rts_get]; congr 2; omega
    have hr := rt_rise (k := k) (i := i) hn (by omega)
    have o1 := ok i (by omega); have o2 := ok (i + 1) (by omega)
    have l1 := lt i (by omega); have l2 := lt (i + 1) (by omega)
    unfold zq34.l1 zq34.d1 zq34.o1
    rw [show w64 (((i + 1 : Nat) : Int) - 1) = (i : Int) by rw [w64s (by omega) (by omega)]; omega]
    rw [dcT (show ((i + 1 : Nat) : Int) < ((rts n d k 0 k).length : Int) by omega), dcT (show (0 : Int) ≤ (i : Int) by omega), dcT (show (i : Int) < ((rts n d k 0 k).length : Int) by omega), dcT (show (0 : Int) ≤ ((i + 1 : Nat) : Int) by omega)]
    simp only [cond_true, Int.toNat_natCast]
    rw [getAt (show i < (rts n d k 0 k).length by omega), getAt (show i + 1 < (rts n d k 0 k).length by omega), getAt (show i + 1 < (rts n d k 0 k).length by omega), getAt (show i < (rts n d k 0 k).length by omega), g1, g2]
    have m1 : (rt n d k i).1 * (rt n d k (i + 1)).2 ≤ 1000000 * 1000000 := Nat.mul_le_mul (by omega) o2
    have m2 : (rt n d k (i + 1)).1 * (rt n d k i).2 ≤ 1000000 * 1000000 := Nat.mul_le_mul (by omega) o1
    have w1 : w64 ((sT (rt n d k i)).f0 * (sT (rt n d k (i + 1))).f1) = (((rt n d k i).1 * (rt n d k (i + 1)).2 : Nat) : Int) := by
      show w64 (((rt n d k i).1 : Int) * ((rt n d k (i + 1)).2 : Int)) = _
      rw [← Int.natCast_mul, w64n (by omega)]
    have w2 : w64 ((sT (rt n d k (i + 1))).f0 * (sT (rt n d k i)).f1) = (((rt n d k (i + 1)).1 * (rt n d k i).2 : Nat) : Int) := by
      show w64 (((rt n d k (i + 1)).1 : Int) * ((rt n d k i).2 : Int)) = _
      rw [← Int.natCast_mul, w64n (by omega)]
    rw [w1, w2, dcF (by omega), cond_false, w1add (by omega)]
    exact rises_l hn hd hk hok j (i + 1 + 1) m (by omega) (by omega) (by omega)
  | _, _, 0, _, _, hm => by omega
theorem rises_eq {N : Nat} (hN : 100 ≤ N) {n d k : Nat} (hn : n < d) (hd : d ≤ 1000000) (hk1 : 1 ≤ k) (hk : k ≤ 24) (hok : (List.range' 0 k).all (okR n d k) = true) : zq34.g N (rts n d k 0 k) = some true := by
  obtain ⟨j, rfl⟩ : ∃ j, k = 1 + j := ⟨k - 1, by omega⟩
  exact rises_l hn hd hk hok j 1 N (by omega) rfl (by omega)
/-- the long hand of each of the times -/
theorem rt_long {n d k i : Nat} (h : Dial k n d) (hi : i < k) : pr ((rt n d k i).1 * k) (rt n d k i).2 = (n, d) := by
  have hk := h.k1
  have hp : 0 < d * k := Nat.mul_pos h.p (by omega)
  have hlt : n + i * d < d * k := by
    have h7 := h.t.lt
    have : (i + 1) * d ≤ k * d := Nat.mul_le_mul_right _ hi
    rw [Nat.add_mul, Nat.one_mul] at this
    rw [Nat.mul_comm d k]; omega
  have h1 := pr_lt hp hlt
  have q1 := pr_pos (n := n + i * d) hp
  unfold rt
  generalize pr (n + i * d) (d * k) = f at *
  have e : f.1 * k * d = (n + i * d) * f.2 := by rw [← h1, Nat.mul_assoc, Nat.mul_comm k d]
  rw [pr_eq0 q1 h.p e, pr_add, pr_low h.t.lt h.t.cop]
/-! ### the law's second half -/
theorem hs_d10 {N : Nat} (hN : 1000000000000 < N) (h : Int) (s : ByteArray) {r : Int × Int × Bool} (hr : Reads h s r) : zq32.d10 N h s r.2.2 r.1 r.2.1 = some true := by
  unfold zq32.d10 zq32.o10
  rcases hr with rfl | ⟨k, n, d, rfl, hD, hs, rfl⟩
  · rfl
  · dsimp only
    rw [cond_true, (text_yes (by omega) hD).1, Option.bind_some]
    dsimp only
    rw [cond_true, hs, bs_toList, beq_self_eq_true]
theorem hs_d5 {N : Nat} (hN : 1000000000000 < N) {code : List Int} (hc : Bs code) : zq32.d5 N code = some true := by
  obtain ⟨⟨g, a, b, c⟩, e1⟩ := drawTime (N := N) (by omega) hc
  obtain ⟨h, s, e2, e3⟩ := drawParse (N := N) (by omega) hc
  obtain ⟨t, t1, t2, t3⟩ := TimeOf_eq (N := N) (by omega) g a b c
  obtain ⟨r, r1, r2, r3'⟩ := parse_eq hN h s e3
  have fin := hs_d10 hN h s r3'
  unfold zq32.d5 zq32.o5
  rw [e1, Option.bind_some]
  dsimp only
  rw [t1, Option.bind_some, t2, Option.bind_some, e2, Option.bind_some]
  dsimp only
  rw [r1, Option.bind_some, r2, Option.bind_some]
  simp only [beq_self_eq_true, Bool.and_self, Bool.not_true, cond_false]
  unfold zq32.d7 zq32.o7
  rw [cond_false]
  rcases t3 with rfl | ⟨k, x, y, z, rfl, rfl, rfl, rfl, h1, h2, h3, h4, h5, rfl⟩
  · dsimp only
    rw [cond_false]; exact fin
  · obtain ⟨hD, q1, q2, q3⟩ := TimeOf_back (x := x) (y := y) (z := z) h1 h2 h3 h4 h5 rfl
    generalize pr (x * 3600 + y * 60 + z) (k * 3600) = f at *
    have hse := (pr_spec (n := f.1 * k * 60) hD.p)
    have hle := hD.t.le
    unfold r3
    dsimp only
    rw [cond_true, (Hour_yes (by omega) hD).1, Option.bind_some, (Minute_yes (by omega) hD).1, Option.bind_some, (Second_yes (by omega) hD).1, Option.bind_some, q1, q2]
    unfold r3
    dsimp only
    have m1 : w64 (((pr (f.1 * k * 60) f.2).1 : Int) * 60) = w64 ((z : Int) * ((pr (f.1 * k * 60) f.2).2 : Int)) := by
      congr 1
      exact_mod_cast q3
    rw [m1]
    simp only [Bool.not_true, cond_false, bne_self_eq_false]
    unfold zq32.d9 zq32.o9
    rw [cond_false]; exact fin
/-! ### the times with a long hand -/
theorem hs_l6 {N : Nat} (hN : 1000000000000 < N) {code : List Int} (hc : Bs code) {k n d : Nat} (h : Dial k n d) (hok : (List.range' 0 k).all (okR n d k) = true) : ∀ (j i m : Nat), i + j = k → j < m →
    zq32.l6 N m code k (rts n d k 0 k) ((rts n d k 0 k).length : Int) i n d = some true
  | 0, i, m+1, hi, hm => by
    have hl := rts_len n d k 0 k
    unfold zq32.l6 zq32.d6 zq32.o6
    rw [dcF (by omega), cond_false]
    exact hs_d5 hN hc
  | j+1, i, m+1, hi, hm => by
    have hl := rts_len n d k 0 k
    have hk := h.k2
    have hk1 := h.k1
    have ok : (rt n d k i).2 ≤ 1000000 := of_decide_eq_true (List.all_eq_true.1 hok i (by rw [List.mem_range'_1]; omega))
    have hsp := pr_spec (n := n + i * d) (d := d * k) (Nat.mul_pos h.p (by omega))
    have hD : Dial k (rt n d k i).1 (rt n d k i).2 := ⟨hk1, hk, hsp.1, ok, hsp.2.2.1⟩
    have g1 : (rts n d k 0 k)[i]'(by omega) = sT (rt n d k i) := by rw [rts_get]; congr 2; omega
    unfold zq32.l6 zq32.d6 zq32.o6
    rw [dcT (by omega), cond_true, dcT (by omega), cond_true, cond_true, Int.toNat_natCast, getAt (show i < (rts n d k 0 k).length by omega), g1]
    unfold sT
    dsimp only
    rw [(Long_yes (by omega) hD).1, Option.bind_some, rt_long h (by omega)]
    unfold r3
    simp only [Bool.not_true, cond_false, beq_self_eq_true, Bool.and_self]
    unfold zq32.d8 zq32.o8
    rw [cond_false, w1add (by omega)]
    exact hs_l6 hN hc h hok j (i + 1) m (by omega) (by omega)
  | _, _, 0, _, hm => by omega
/-- the whole minutes and the part of one are the time -/
theorem gone_eq {k n d : Nat} (h : Dial k n d) :
    w64 ((w64 ((w64 ((w64 ((w64 ((w64 (((n * k * 60 / d / 60 : Nat) : Int) * 60)) + ((n * k * 60 / d % 60 : Nat) : Int))) * ((pr (n * k * 60) d).2 : Int))) * (d : Int))) + (w64 (((pr (n * k * 60) d).1 : Int) * (d : Int))))) * 1) = w64 ((w64 ((w64 ((n : Int) * (k : Int))) * 60)) * ((pr (n * k * 60) d).2 : Int)) := by
  have h1 := h.nk; have h2 := h.p; have h3 := h.t.le; have h4 := h.k2; have h5 := h.t.lt
  have hW := div60 (M := n * k * 60) rfl h5 h4
  have hx := pr_spec (n := n * k * 60) h2
  have hM := Nat.mod_add_div (n * k * 60) d
  have eM : w64 (w64 ((n : Int) * (k : Int)) * 60) = ((n * k * 60 : Nat) : Int) := by
    rw [← Int.natCast_mul, w64n (by omega), w64s (by omega) (by omega)]; omega
  rw [eM]
  have hMle : n * k * 60 ≤ 1440000000 := by omega
  generalize n * k * 60 = M at *
  generalize M / d = W at *
  generalize pr M d = f at *
  have b1 : W * f.2 ≤ 1440 * 1000000 := Nat.mul_le_mul (by omega) (by omega)
  have b2 : W * f.2 * d ≤ 1440000000 * 1000000 := Nat.mul_le_mul (by omega) h3
  have b3 : f.1 * d ≤ 1000000 * 1000000 := Nat.mul_le_mul (by omega) h3
  have b4 : M * f.2 ≤ 1440000000 * 1000000 := Nat.mul_le_mul hMle (by omega)
  have e1 : w64 (w64 (((W / 60 : Nat) : Int) * 60) + ((W % 60 : Nat) : Int)) = (W : Int) := by
    rw [w64s (n := ((W / 60 : Nat) : Int) * 60) (by omega) (by omega), w64s (by omega) (by omega)]; omega
  have key : W * f.2 * d + f.1 * d = M * f.2 := by
    have e9 : M * f.2 = (M % d + d * W) * f.2 := by rw [hM]
    have e10 : W * f.2 * d = d * W * f.2 := by rw [Nat.mul_right_comm, Nat.mul_comm d W]
    rw [e9, Nat.add_mul, hx.2.2.2, e10]; omega
  rw [e1, ← Int.natCast_mul, w64n (by omega), ← Int.natCast_mul, w64n (by omega), ← Int.natCast_mul, w64n (by omega), ← Int.natCast_add, w64n (by omega), ← Int.natCast_mul, w64n (by omega), Int.mul_one, w64n (by omega), key]
theorem hs_d3 {N : Nat} (hN : 1000000000000 < N) {code : List Int} (hc : Bs code) {k n d : Nat} (h : Dial k n d) : zq32.d3 N code k (timesL n d k).1 (timesL n d k).2 n d = some true := by
  have hk := h.k2
  have hk1 := h.k1
  unfold zq32.d3 zq32.o3 timesL
  by_cases hok : (List.range' 0 k).all (okR n d k) = true
  · have hl := rts_len n d k 0 k
    rw [if_pos hok]
    dsimp only
    rw [cond_true, ineF (by omega), cond_false, rises_eq (by omega) h.t.lt h.t.le (by omega) hk hok, Option.bind_some]
    unfold zq32.d4 zq32.o4
    rw [Bool.not_true, cond_false]
    exact hs_l6 hN hc h hok k 0 N (by omega) (by omega)
  · rw [if_neg hok]
    dsimp only
    rw [cond_false]
    exact hs_d5 hN hc
theorem law_yes {N : Nat} (hN : 1000000000000 < N) {z s : List Int} (hc : Bs s) {k n d : Nat} (h : Dial k n d) (hb : zq33.g N z s = some false) (hd : zq39.g N z = some ((k : Int), (n : Int), (d : Int))) : zq32.g N z s = some true := by
  have hk := h.k2
  have hk1 := h.k1
  have fin := hs_d3 hN hc h
  have hg := gone_eq h
  have hsm : 2 * (smallV (pr (n * (k - 1)) d)).1 ≤ (smallV (pr (n * (k - 1)) d)).2 := small_le (pr_Turn (n := n * (k - 1)) h.p h.t.le)
  have hW : n * k * 60 / d < 60 * k := by
    refine Nat.div_lt_of_lt_mul ?_
    have : n * k < d * k := Nat.mul_lt_mul_of_pos_right h.t.lt (by omega)
    rw [Nat.mul_left_comm]; omega
  have hT : (timesL n d k).1.length < 1000000000 := by
    unfold timesL
    split
    · rw [rts_len]; omega
    · simp
  have hsl : (smallV (pr (n * (k - 1)) d)).2 ≤ 1000000 := by
    have ht := pr_Turn (n := n * (k - 1)) h.p h.t.le
    have h1 := ht.lt
    have h2 := ht.le
    unfold smallV
    split
    · have := (pr_spec (n := (pr (n * (k - 1)) d).2 - (pr (n * (k - 1)) d).1) (d := (pr (n * (k - 1)) d).2) (by omega)).2.1
      omega
    · exact h2
  have g1 : zq32.d1 N s k true ((n * k * 60 / d / 60 : Nat) : Int) ((n * k * 60 / d % 60 : Nat) : Int) (timesL n d k).1 (timesL n d k).2 (bsOf (timeL (n * k * 60) d)) false n d (pr (n * k) d).1 (pr (n * k) d).2 (pr (n * (k - 1)) d).1 (pr (n * (k - 1)) d).2 (smallV (pr (n * (k - 1)) d)).1 (smallV (pr (n * (k - 1)) d)).2 (pr (n * k * 60) d).1 (pr (n * k * 60) d).2 = some true := by
    unfold zq32.d1 zq32.o1
    rw [cond_false, cond_true, Add_yes hN h, Option.bind_some, impl_read hN h, Option.bind_some]
    unfold r3
    have c1 : ¬ (w64 (2 * ((smallV (pr (n * (k - 1)) d)).1 : Int)) > ((smallV (pr (n * (k - 1)) d)).2 : Int)) := by
      rw [w64s (by omega) (by omega)]; omega
    simp only [cond_true, beq_self_eq_true, Bool.and_self, Bool.not_true, cond_false]
    have q : ∀ W : Nat, W < 60 * k → (¬ (((W / 60 : Nat) : Int) < 0) ∧ ¬ (((W / 60 : Nat) : Int) ≥ (k : Int))) ∧ ¬ (((W % 60 : Nat) : Int) < 0) ∧ ¬ (((W % 60 : Nat) : Int) > 59) := fun W hh => by omega
    obtain ⟨⟨q1, q2⟩, q3, q4⟩ := q _ hW
    rw [dcF c1, cond_false, dcF q1, cond_false, dcF q2, cond_false, dcF q3, cond_false, dcF q4, cond_false]
    unfold zq32.d2 zq32.o2
    rw [cond_false, hg, bne_self_eq_false, cond_false]
    exact fin
  unfold zq32.g zq32.o0
  rw [hb, Option.bind_some, cond_false, hd, Option.bind_some]
  dsimp only
  rw [(Long_yes (by omega) h).1, Option.bind_some, (Long_yes (by omega) h).2, Option.bind_some, (Angle_yes (by omega) h).1, Option.bind_some, (Angle_yes (by omega) h).2, Option.bind_some, (small_yes (by omega) h).1, Option.bind_some, (small_yes (by omega) h).2, Option.bind_some, (Hour_yes (by omega) h).1, Option.bind_some, (Hour_yes (by omega) h).2, Option.bind_some, (Minute_yes (by omega) h).1, Option.bind_some, (Minute_yes (by omega) h).2, Option.bind_some, (Second_yes (by omega) h).1, Option.bind_some, (Second_yes (by omega) h).2, Option.bind_some, (Times_yes (by omega) h).1, Option.bind_some, (Times_yes (by omega) h).2, Option.bind_some, (text_yes (by omega) h).1, Option.bind_some, (text_yes (by omega) h).2.1, Option.bind_some, wTurns_self _ hT (by omega)]
  unfold r3
  simp only [beq_self_eq_true, Bool.and_self, Bool.not_true, cond_false, Option.bind_some, bne_self_eq_false]
  cases hb2 : (timesL n d k).2 with
  | false => rw [hb2] at g1; exact g1
  | true => rw [hb2] at g1; exact g1
theorem law_no {N : Nat} (hN : 1000000000000 < N) {z s : List Int} (hc : Bs s) {h n d : Int} (hf : timeB h n d = false) (hb : zq33.g N z s = some false) (hd : zq39.g N z = some (h, n, d)) : zq32.g N z s = some true := by
  have fin := hs_d5 hN hc
  unfold zq32.g zq32.o0
  rw [hb, Option.bind_some, cond_false, hd, Option.bind_some]
  dsimp only
  rw [(Long_no (by omega) hf).1, Option.bind_some, (Long_no (by omega) hf).2, Option.bind_some, (Angle_no (by omega) hf).1, Option.bind_some, (Angle_no (by omega) hf).2, Option.bind_some, (small_no (by omega) hf).1, Option.bind_some, (small_no (by omega) hf).2, Option.bind_some, (Hour_no (by omega) hf).1, Option.bind_some, (Hour_no (by omega) hf).2, Option.bind_some, (Minute_no (by omega) hf).1, Option.bind_some, (Minute_no (by omega) hf).2, Option.bind_some, (Second_no (by omega) hf).1, Option.bind_some, (Second_no (by omega) hf).2, Option.bind_some, (Times_no (by omega) hf).1, Option.bind_some, (Times_no (by omega) hf).2, Option.bind_some, (text_no (by omega) hf).1, Option.bind_some, (text_no (by omega) hf).2, Option.bind_some, wTurns_self _ (by simp) (by simp; omega)]
  simp only [beq_self_eq_true, Bool.and_self, Bool.not_true, cond_false, Option.bind_some, bne_self_eq_false]
  exact fin
theorem FnHandsStand.pure : FnHandsStand.Pure := by
  intro z s hz hs
  refine ⟨2000000000000, ?_⟩
  have big : zq33.g 2000000000000 z s = some (decide ((z.length : Int) > 1048576 ∨ (s.length : Int) > 1048576 - (z.length : Int))) := by
    unfold zq33.g zq33.o0
    by_cases c : (z.length : Int) > 1048576
    · rw [dcT c, dcT (Or.inl c : (z.length : Int) > 1048576 ∨ (s.length : Int) > 1048576 - (z.length : Int))]; rfl
    · rw [dcF c, w64s (by omega) (by omega), cond_false]
      congr 1
      apply decide_eq_decide.2
      constructor
      · exact .inr
      · intro h; exact h.resolve_left c
  by_cases c : (z.length : Int) > 1048576 ∨ (s.length : Int) > 1048576 - (z.length : Int)
  · unfold zq32.g zq32.o0
    rw [big, dcT c]; rfl
  · rw [dcF c] at big
    have u8 : ∀ x : Int, (Lit.int .u8 x).wf = true → 0 ≤ x ∧ x ≤ 255 := fun x hx => by simpa [Lit.wf, IntKind.min, IntKind.max, IntKind.signed, IntKind.bits] using hx
    have hz' : Bs z := ⟨by omega, fun x hx => u8 x (hz.2.2 x hx)⟩
    have hs' : Bs s := ⟨by omega, fun x hx => u8 x (hs.2.2 x hx)⟩
    obtain ⟨⟨h, n, d⟩, ed⟩ := drawLong (N := 2000000000000) (by omega) hz'
    cases hb : timeB h n d with
    | false => exact law_no (by omega) hs' hb big ed
    | true =>
      obtain ⟨k, a, b, rfl, h1, h2, rfl, rfl, h3⟩ := timeB_iff.1 hb
      exact law_yes (by omega) hs' ⟨h1, h2, h3⟩ big ed
end Go.Proofs.YtccjoegnkiaibaaGreatDoor.M
