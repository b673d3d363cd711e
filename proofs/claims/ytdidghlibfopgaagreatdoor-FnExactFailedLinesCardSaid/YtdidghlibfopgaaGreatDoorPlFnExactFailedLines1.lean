/- Plain lemmas about what the functions compute (part 1). No conditions but those stated. -/
import Derived.Test.YtdidghlibfopgaaGreatDoorFnFnExactFailedLines4
import Derived.Lib.Join
namespace Go.Proofs.YtdidghlibfopgaaGreatDoor.M
open Go Go.PM Go.Proofs.YtdidghlibfopgaaGreatDoor.P
set_option linter.unusedVariables false
set_option linter.unusedSimpArgs false
def inB (a lo hi : Int) : Bool := decide (lo ≤ a) && decide (a ≤ hi)
theorem inB_iff {a lo hi : Int} : inB a lo hi = true ↔ lo ≤ a ∧ a ≤ hi := by simp [inB]
theorem inB_not {a lo hi : Int} : inB a lo hi = false ↔ ¬ (lo ≤ a ∧ a ≤ hi) := by rw [← inB_iff]; simp
theorem within_eq (N : Nat) (a b c : Int) : zq81.g N a b c = some (inB a b c) := by
 unfold zq81.g zq81.o0 inB
 by_cases h : b ≤ a
 ·rw [dcT (show a ≥ b from h)]; rfl
 ·rw [dcF (show ¬ a ≥ b from h)]; rfl
theorem l1In_eq (N : Nat) (a b c : Int) : zq173.g N a b c = some (inB a b c) := by
 unfold zq173.g zq173.o0 inB
 by_cases h : b ≤ a
 ·rw [dcT (show a ≥ b from h)]; rfl
 ·rw [dcF (show ¬ a ≥ b from h)]; rfl
theorem isDial_eq (N : Nat) (a : Int) : zq58.g N a = some (inB a 2 24) := by
 unfold zq58.g zq58.o0; rw [within_eq]; rfl
theorem diHours_eq (N : Nat) (a : Int) : zq150.g N a = some (inB a 2 24) := by
 unfold zq150.g zq150.o0; rw [l1In_eq]; rfl
theorem tmodN (a b : Nat) : Int.tmod (a : Int) (b : Int) = ((a % b : Nat) : Int) := (Int.ofNat_tmod a b).symm
theorem tdivN (a b : Nat) : Int.tdiv (a : Int) (b : Int) = ((a / b : Nat) : Int) := (Int.ofNat_tdiv a b).symm
theorem w2add {a b : Nat} (h : a + b < 9000000000000000000) : w64 ((a : Int) + (b : Int)) = ((a + b : Nat) : Int) := by rw [w64s (by omega) (by omega)]; omega
theorem w1add {a : Nat} (h : a < 9000000000000000000) : w64 ((a : Int) + 1) = ((a + 1 : Nat) : Int) := by rw [w64s (by omega) (by omega)]; omega
def bsOf (l : List UInt8) : ByteArray := ⟨l.toArray⟩
theorem bsOf_list (l : List UInt8) : (bsOf l).data.toList = l := by simp [bsOf]
theorem bs_ext {a b : ByteArray} (h : a.data.toList = b.data.toList) : a = b := by
 cases a; cases b
 congr
 exact Array.toList_inj.1 h
theorem bsOf_eq (a : ByteArray) : bsOf a.data.toList = a := bs_ext (bsOf_list _)
theorem bsOf_size (l : List UInt8) : (bsOf l).size = l.length := by simp [bsOf, ByteArray.size]
theorem extract_list (s : ByteArray) (a b : Nat) : (s.extract a b).data.toList = (s.data.toList.take b).drop a := by
 simp [ByteArray.data_extract, List.drop_take]
theorem map_data_inj : ∀ {a b : List ByteArray}, a.map (·.data.toList) = b.map (·.data.toList) → a = b
 | [], [], _ => rfl
 | [], _ :: _, h => by simp at h
 | _ :: _, [], h => by simp at h
 | x :: a, y :: b, h => by
  simp only [List.map_cons, List.cons.injEq] at h
  rw [bs_ext h.1, map_data_inj h.2]
theorem bt_at (s : ByteArray) (i : Nat) (h : i < s.data.toList.length) : bt s i = (s.data.toList[i].toNat : Int) := by
 have hs : i < s.size := by rw [Array.length_toList] at h; exact h
 unfold bt
 rw [dif_pos (by simpa using hs)]
 simp only [tN]
 rfl
theorem sum_mem {α : Type} (f : α → Nat) : ∀ {l : List α} {x : α}, x ∈ l → f x ≤ (l.map f).sum
 | y :: l, x, h => by
  simp only [List.map_cons, List.sum_cons]
  rcases List.mem_cons.1 h with rfl | h
  ·omega
  ·have := sum_mem f h; omega
theorem bsOf_append (a b : List UInt8) : bsOf a ++ bsOf b = bsOf (a ++ b) := by
 apply bs_ext
 rw [bsOf_list, ByteArray.data_append, Array.toList_append]
 rfl
theorem bsOf_lit (a : ByteArray) : a = bsOf a.data.toList := (bsOf_eq a).symm

def onHead (pre : List UInt8) : List (List UInt8) → List (List UInt8)
 | [] => []
 | h :: t => (pre ++ h) :: t
def splitL (c : UInt8) : List UInt8 → List (List UInt8)
 | [] => [[]]
 | b :: l => if b = c then [] :: splitL c l else onHead [b] (splitL c l)
theorem splitL_ne (c : UInt8) : ∀ l, splitL c l ≠ []
 | [] => by simp [splitL]
 | b :: l => by
  have ih := splitL_ne c l
  unfold splitL
  split
  ·simp
  ·cases h : splitL c l with
   | nil => exact absurd h ih
   | cons x t => simp [onHead]
theorem onHead_nil (L : List (List UInt8)) : onHead [] L = L := by cases L <;> rfl
theorem onHead_onHead (p q : List UInt8) (L : List (List UInt8)) : onHead p (onHead q L) = onHead (p ++ q) L := by
 cases L <;> simp [onHead]
theorem onHead_sum (p : List UInt8) {L : List (List UInt8)} (h : L ≠ []) : ((onHead p L).map List.length).sum = p.length + (L.map List.length).sum ∧ (onHead p L).length = L.length := by
 cases L with
 | nil => exact absurd rfl h
 | cons x t => simp [onHead]; omega
theorem splitL_sum (c : UInt8) : ∀ l, ((splitL c l).map List.length).sum + (splitL c l).length = l.length + 1
 | [] => by simp [splitL]
 | b :: l => by
  have ih := splitL_sum c l
  have h := onHead_sum [b] (splitL_ne c l)
  unfold splitL
  split
  ·simp; omega
  ·rw [h.1, h.2]; simp; omega
def pieces (c : UInt8) (s : ByteArray) : List ByteArray := (splitL c s.data.toList).map bsOf
theorem pieces_sum (c : UInt8) (s : ByteArray) : ((pieces c s).map (·.size)).sum + (pieces c s).length = s.size + 1 := by
 have h := splitL_sum c s.data.toList
 have hl : s.data.toList.length = s.size := Array.length_toList
 unfold pieces
 rw [List.map_map, List.length_map, show ((fun x : ByteArray => x.size) ∘ bsOf) = List.length from funext bsOf_size]
 omega
theorem pieces_size (c : UInt8) (s : ByteArray) : ∀ x ∈ pieces c s, x.size ≤ s.size := by
 intro x hx
 have := sum_mem (fun x : ByteArray => x.size) hx
 have h := pieces_sum c s
 have hne : (pieces c s).length ≠ 0 := by
  have := splitL_ne c s.data.toList
  unfold pieces
  rw [List.length_map]
  exact fun e => this (List.eq_nil_of_length_eq_zero e)
 omega
theorem l1Split_l (N : Nat) (s : ByteArray) (c : UInt8) (hs : s.size ≤ 1000000000) : ∀ (d i f n : Nat) (acc : List ByteArray), i + d = s.size → f ≤ i → acc.length ≤ i → d < n →
  zq178.l4 N n s (c.toNat : Int) acc f i = some (acc ++ (onHead ((s.data.toList.take i).drop f) (splitL c (s.data.toList.drop i))).map bsOf)
 | 0, i, f, n+1, acc, hi, hf, ha, hn => by
  have hl : s.data.toList.length = s.size := Array.length_toList
  unfold zq178.l4 zq178.d4 zq178.o4
  rw [dcF (show ¬ (i : Int) < (s.size : Int) by omega), cF, dcT (show 0 ≤ (s.size : Int) by omega), cT, dcT (show (s.size : Int) ≤ (s.size : Int) by omega), cT, dcT (show 0 ≤ (f : Int) by omega), cT, dcT (show (f : Int) ≤ (s.size : Int) by omega), cT, blT (by simp; omega), cT]
  rw [List.drop_eq_nil_of_le (by omega : s.data.toList.length ≤ i)]
  simp only [splitL, onHead, List.append_nil, List.map_cons, List.map_nil]
  congr 3
  apply bs_ext
  rw [extract_list, bsOf_list, tN, tN, show i = s.size by omega]
 | d+1, i, f, n+1, acc, hi, hf, ha, hn => by
  have hl : s.data.toList.length = s.size := Array.length_toList
  have hlt : i < s.data.toList.length := by omega
  unfold zq178.l4 zq178.d4 zq178.o4
  rw [dcT (show (i : Int) < (s.size : Int) by omega), cT, dcT (show 0 ≤ (i : Int) by omega), cT, cT, bt_at s i hlt, List.drop_eq_getElem_cons hlt]
  unfold splitL
  by_cases e : s.data.toList[i] = c
  ·rw [if_pos e, ieqT (by rw [e]), cT, cT, dcT (show (i : Int) ≤ (s.size : Int) by omega), cT, dcT (show 0 ≤ (f : Int) by omega), cT, dcT (show (f : Int) ≤ (i : Int) by omega), cT, blT (by simp; omega), cT]
   unfold zq178.d2 zq178.o2
   dsimp only
   rw [w1add (by omega)]
   have := l1Split_l N s c hs d (i + 1) (i + 1) n (acc ++ [s.extract (f : Int).toNat (i : Int).toNat]) (by omega) (by omega) (by simp; omega) (by omega)
   rw [List.drop_eq_nil_of_le (by simp; omega : (s.data.toList.take (i + 1)).length ≤ i + 1), onHead_nil] at this
   simp only [onHead, List.append_nil, List.map_cons]
   rw [List.append_assoc] at this
   have e2 : bsOf ((s.data.toList.take i).drop f) = s.extract (f : Int).toNat (i : Int).toNat := by
    apply bs_ext
    rw [extract_list, bsOf_list, tN, tN]
   rw [e2]
   exact this
  ·rw [if_neg e, ieqF (fun z => e (UInt8.toNat_inj.1 (by omega))), cF]
   unfold zq178.d2 zq178.o2
   dsimp only
   rw [w1add (by omega)]
   have := l1Split_l N s c hs d (i + 1) f n acc (by omega) (by omega) (by omega) (by omega)
   rw [onHead_onHead]
   have e2 : (s.data.toList.take i).drop f ++ [s.data.toList[i]] = (s.data.toList.take (i + 1)).drop f := by
    rw [List.take_succ_eq_append_getElem hlt, List.drop_append_of_le_length (by simp; omega)]
   rw [e2]
   exact this
 | _, _, _, 0, _, _, _, _, hn => by omega
theorem l1Split_l1 (N : Nat) (s : ByteArray) (c : UInt8) (hs : s.size ≤ 1000000000) : ∀ (d i n : Nat), i + d = s.size → d < n →
  zq178.l1 N n s (c.toNat : Int) 0 i = some ((onHead (s.data.toList.take i) (splitL c (s.data.toList.drop i))).map bsOf)
 | 0, i, n+1, hi, hn => by
  have hl : s.data.toList.length = s.size := Array.length_toList
  unfold zq178.l1 zq178.d1 zq178.o1
  rw [dcF (show ¬ (i : Int) < (s.size : Int) by omega), cF, dcT (show 0 ≤ (s.size : Int) by omega), cT, dcT (show (s.size : Int) ≤ (s.size : Int) by omega), cT, dcT (show (0 : Int) ≤ 0 by omega), cT, cT, blT (by simp), cT]
  rw [List.drop_eq_nil_of_le (by omega : s.data.toList.length ≤ i)]
  simp only [splitL, onHead, List.append_nil, List.map_cons, List.map_nil, List.nil_append]
  congr 2
  apply bs_ext
  rw [extract_list, bsOf_list, tN, show i = s.size by omega]; rfl
 | d+1, i, n+1, hi, hn => by
  have hl : s.data.toList.length = s.size := Array.length_toList
  have hlt : i < s.data.toList.length := by omega
  unfold zq178.l1 zq178.d1 zq178.o1
  rw [dcT (show (i : Int) < (s.size : Int) by omega), cT, dcT (show 0 ≤ (i : Int) by omega), cT, cT, bt_at s i hlt, List.drop_eq_getElem_cons hlt]
  unfold splitL
  by_cases e : s.data.toList[i] = c
  ·rw [if_pos e, ieqT (by rw [e]), cT, cT, dcT (show (i : Int) ≤ (s.size : Int) by omega), cT, dcT (show (0 : Int) ≤ 0 by omega), cT, cT, blT (by simp), cT]
   unfold zq178.d2 zq178.o2
   dsimp only
   rw [w1add (by omega)]
   have := l1Split_l N s c hs d (i + 1) (i + 1) n [s.extract (0 : Int).toNat (i : Int).toNat] (by omega) (by omega) (by simp) (by omega)
   rw [List.drop_eq_nil_of_le (by simp; omega : (s.data.toList.take (i + 1)).length ≤ i + 1), onHead_nil] at this
   simp only [onHead, List.append_nil, List.map_cons, List.nil_append]
   have e2 : bsOf (s.data.toList.take i) = s.extract (0 : Int).toNat (i : Int).toNat := by
    apply bs_ext
    rw [extract_list, bsOf_list, tN]; rfl
   rw [e2]
   exact this
  ·rw [if_neg e, ieqF (fun z => e (UInt8.toNat_inj.1 (by omega))), cF]
   unfold zq178.d3 zq178.o3
   dsimp only
   rw [w1add (by omega)]
   have := l1Split_l1 N s c hs d (i + 1) n (by omega) (by omega)
   rw [onHead_onHead]
   have e2 : s.data.toList.take i ++ [s.data.toList[i]] = s.data.toList.take (i + 1) := by
    rw [List.take_succ_eq_append_getElem hlt]
   rw [e2]
   exact this
 | _, _, 0, _, hn => by omega
theorem l1Split_eq {N : Nat} (s : ByteArray) (c : UInt8) (hs : s.size ≤ 1000000000) (hN : s.size < N) : zq178.g N s (c.toNat : Int) = some (pieces c s) := by
 have := l1Split_l1 N s c hs s.size 0 N (by omega) (by omega)
 simp only [List.take_zero, List.drop_zero, onHead_nil] at this
 exact this
def glue (c : UInt8) : List (List UInt8) → List UInt8
 | [] => []
 | [x] => x
 | x :: y :: t => x ++ c :: glue c (y :: t)
theorem glue_onHead (c : UInt8) (p x : List UInt8) (t : List (List UInt8)) : glue c (onHead p (x :: t)) = p ++ glue c (x :: t) := by
 cases t with
 | nil => rfl
 | cons y t => show (p ++ x) ++ _ = p ++ (x ++ _); rw [List.append_assoc]
theorem glue_split (c : UInt8) : ∀ l, glue c (splitL c l) = l
 | [] => rfl
 | b :: l => by
  have ih := glue_split c l
  have ne := splitL_ne c l
  unfold splitL
  cases h : splitL c l with
  | nil => exact absurd h ne
  | cons x t =>
   rw [h] at ih
   split
   ·rename_i e
    subst e
    show [] ++ b :: glue b (x :: t) = _
    rw [ih]; rfl
   ·rw [glue_onHead, ih]; rfl
theorem splitL_pre (c : UInt8) : ∀ (x l : List UInt8), c ∉ x → splitL c (x ++ l) = onHead x (splitL c l)
 | [], l, _ => (onHead_nil _).symm
 | b :: x, l, h => by
  rw [List.mem_cons, not_or] at h
  have e1 : splitL c (b :: x ++ l) = onHead [b] (splitL c (x ++ l)) := by
   show (if b = c then _ else _) = _
   rw [if_neg fun e => h.1 e.symm]; rfl
  rw [e1, splitL_pre c x l h.2, onHead_onHead]; rfl
theorem split_two {c : UInt8} {x y : List UInt8} (hx : c ∉ x) (hy : c ∉ y) : splitL c (x ++ c :: y) = [x, y] := by
 rw [splitL_pre c x _ hx]
 have e : splitL c (c :: y) = [] :: splitL c y := by
  show (if c = c then _ else _) = _
  rw [if_pos rfl]
 have e2 : splitL c y = [y] := by
  have := splitL_pre c y [] hy
  rw [List.append_nil] at this
  rw [this]; show [y ++ []] = _; rw [List.append_nil]
 rw [e, e2]; show [x ++ []] ++ [y] = _; rw [List.append_nil]; rfl
theorem two_split {c : UInt8} {l x y : List UInt8} (h : splitL c l = [x, y]) : l = x ++ c :: y := by
 have := glue_split c l
 rw [h] at this
 exact this.symm
end Go.Proofs.YtdidghlibfopgaaGreatDoor.M
namespace Go.Proofs.YtdidghlibfopgaaGreatDoor.M
open Go Go.PM
set_option linter.unusedVariables false
set_option linter.unusedSimpArgs false
def pr (n d : Nat) : Nat × Nat := (n % d / Nat.gcd (n % d) d, d / Nat.gcd (n % d) d)
theorem pr_scale {k n d : Nat} (hk : 0 < k) : pr (k * n) (k * d) = pr n d := by
 unfold pr
 rw [Nat.mul_mod_mul_left, Nat.gcd_mul_left, Nat.mul_div_mul_left _ _ hk, Nat.mul_div_mul_left _ _ hk]
theorem pr_add (n k d : Nat) : pr (n + k * d) d = pr n d := by
 unfold pr; rw [Nat.add_mul_mod_self_right]
theorem pr_mod (n d : Nat) : pr (n % d) d = pr n d := by
 unfold pr; rw [Nat.mod_mod]
theorem pr_eq {n d n' d' : Nat} (j k : Nat) (hd : 0 < d) (hd' : 0 < d') (h : n * d' + j * (d * d') = n' * d + k * (d * d')) : pr n d = pr n' d' := by
 have h1 : pr n d = pr (d' * n) (d' * d) := (pr_scale hd').symm
 have h2 : pr n' d' = pr (d * n') (d * d') := (pr_scale hd).symm
 rw [h1, h2, Nat.mul_comm d' d, ← pr_add (d' * n) j (d * d'), ← pr_add (d * n') k (d * d'), Nat.mul_comm d' n, Nat.mul_comm d n', h]
theorem pr_eq0 {n d n' d' : Nat} (hd : 0 < d) (hd' : 0 < d') (h : n * d' = n' * d) : pr n d = pr n' d' := pr_eq 0 0 hd hd' (by omega)
theorem pr_low {n d : Nat} (h : n < d) (hg : Nat.gcd n d = 1) : pr n d = (n, d) := by
 unfold pr; rw [Nat.mod_eq_of_lt h, hg, Nat.div_one, Nat.div_one]
theorem pr_spec {n d : Nat} (hd : 0 < d) : (pr n d).1 < (pr n d).2 ∧ (pr n d).2 ≤ d ∧ Nat.gcd (pr n d).1 (pr n d).2 = 1 ∧ (pr n d).1 * d = n % d * (pr n d).2 := by
 have hlt : n % d < d := Nat.mod_lt _ hd
 unfold pr
 generalize n % d = a at *
 have hg : 0 < Nat.gcd a d := Nat.gcd_pos_of_pos_right _ hd
 have hc := Nat.coprime_div_gcd_div_gcd hg
 obtain ⟨x, hx⟩ := Nat.gcd_dvd_left a d
 obtain ⟨y, hy⟩ := Nat.gcd_dvd_right a d
 have ex : a / Nat.gcd a d = x := Nat.div_eq_of_eq_mul_right hg hx
 have ey : d / Nat.gcd a d = y := Nat.div_eq_of_eq_mul_right hg hy
 have hle : d / Nat.gcd a d ≤ d := Nat.div_le_self _ _
 refine ⟨?_, hle, hc, ?_⟩
 ·rw [ex, ey]
  refine Nat.lt_of_mul_lt_mul_left (a := Nat.gcd a d) ?_
  rw [← hx, ← hy]; exact hlt
 ·show a / Nat.gcd a d * d = a * (d / Nat.gcd a d)
  rw [ex, ey]
  generalize Nat.gcd a d = g at *
  subst hx hy
  simp only [Nat.mul_assoc, Nat.mul_comm, Nat.mul_left_comm]
theorem pr_lt {n d : Nat} (hd : 0 < d) (h : n < d) : (pr n d).1 * d = n * (pr n d).2 := by
 have := (pr_spec (n := n) hd).2.2.2
 rw [Nat.mod_eq_of_lt h] at this
 exact this
theorem pr_pos {n d : Nat} (hd : 0 < d) : 0 < (pr n d).2 := Nat.lt_of_le_of_lt (Nat.zero_le _) (pr_spec (n := n) hd).1
theorem pr_is {n d p q : Nat} (hd : 0 < d) (hq : p < q) (hg : Nat.gcd p q = 1) (h : n * q = p * d) : pr n d = (p, q) :=
 (pr_eq0 hd (by omega) h).trans (pr_low hq hg)
theorem div_mul_self' {n k d : Nat} (hk : 0 < k) : (n * k) / (d * k) = n / d := Nat.mul_div_mul_right _ _ hk
theorem sec_eq {M d : Nat} (hd : 0 < d) : (pr M d).1 * 60 / (pr M d).2 = 60 * (M % d) / d := by
 have h := (pr_spec (n := M) hd).2.2.2
 have hy := pr_pos (n := M) hd
 rw [← div_mul_self' (n := (pr M d).1 * 60) hd, ← div_mul_self' (n := 60 * (M % d)) hy, Nat.mul_comm d (pr M d).2]
 congr 1
 rw [Nat.mul_right_comm, h, Nat.mul_assoc 60, Nat.mul_comm 60]
theorem more_eq {M d : Nat} (hd : 0 < d) : pr ((pr M d).1 * 60) (pr M d).2 = pr (60 * M) d := by
 have h := (pr_spec (n := M) hd).2.2.2
 have hy := pr_pos (n := M) hd
 have h1 : pr (60 * M) d = pr (60 * (M % d)) d := by
  have : 60 * M = 60 * (M % d) + 60 * (M / d) * d := by
   have := Nat.mod_add_div M d
   rw [Nat.mul_assoc, Nat.mul_comm (M / d) d, ← Nat.mul_add, this]
  rw [this, pr_add]
 rw [h1]
 refine pr_eq0 hy hd ?_
 rw [Nat.mul_right_comm, h, Nat.mul_assoc 60, Nat.mul_comm 60]
theorem S_eq {M d : Nat} (hd : 0 < d) : 60 * M / d = 60 * (M / d) + 60 * (M % d) / d ∧ 60 * (M % d) / d < 60 := by
 have hlt : M % d < d := Nat.mod_lt _ hd
 have h2 : 60 * (M % d) / d < 60 := Nat.div_lt_of_lt_mul (by omega)
 refine ⟨?_, h2⟩
 have : 60 * M = 60 * (M % d) + d * (60 * (M / d)) := by
  have := Nat.mod_add_div M d
  have e : d * (60 * (M / d)) = 60 * (d * (M / d)) := by rw [Nat.mul_left_comm]
  omega
 rw [this, Nat.add_mul_div_left _ _ hd]; omega
theorem tell {n d h num den S : Nat} (hd : n < d) (hg : Nat.gcd n d = 1) (hh : 0 < h) (e1 : S = 3600 * (n * h) / d) (e2 : (num, den) = pr (3600 * (n * h)) d) : pr (S * den + num) (h * 3600 * den) = (n, d) := by
 have hp : 0 < d := by omega
 have h1 := (pr_spec (n := 3600 * (n * h)) hp).2.2.2
 have h2 := pr_pos (n := 3600 * (n * h)) hp
 rw [← e2] at h1 h2
 dsimp only at h1 h2
 have h3 := Nat.mod_add_div (3600 * (n * h)) d
 rw [← e1] at h3
 refine pr_is (Nat.mul_pos (by omega) h2) hd hg ?_
 have : (S * den + num) * d = (3600 * (n * h) % d + d * S) * den := by
  rw [Nat.add_mul, Nat.add_mul, h1, Nat.mul_right_comm S den d, Nat.mul_comm S d]; omega
 rw [this, h3]
 simp only [Nat.mul_assoc, Nat.mul_comm, Nat.mul_left_comm]
theorem told {n d h num den S : Nat} (hh : 0 < h) (hn : num < den) (hg : Nat.gcd num den = 1) (hS : S < 3600 * h) (e : pr (S * den + num) (h * 3600 * den) = (n, d)) : 3600 * (n * h) / d = S ∧ pr (3600 * (n * h)) d = (num, den) := by
 have hden : 0 < den := by omega
 have hD : 0 < h * 3600 * den := Nat.mul_pos (by omega) hden
 have hlt : S * den + num < h * 3600 * den := by
  have : (S + 1) * den ≤ h * 3600 * den := Nat.mul_le_mul_right _ (by omega)
  rw [Nat.add_mul] at this; omega
 have h1 := pr_lt hD hlt
 have h2 := pr_pos (n := S * den + num) hD
 rw [e] at h1 h2
 dsimp only at h1 h2
 have h3 : 3600 * (n * h) * den = (S * den + num) * d := by
  rw [← h1]; simp only [Nat.mul_assoc, Nat.mul_comm, Nat.mul_left_comm]
 have hP : pr (3600 * (n * h)) d = (num, den) := by
  have : pr (3600 * (n * h)) d = pr (S * den + num) den := pr_eq0 h2 hden h3
  rw [this, Nat.add_comm, pr_add, pr_low hn hg]
 refine ⟨?_, hP⟩
 have h4 := (pr_spec (n := 3600 * (n * h)) h2).2.2.2
 rw [hP] at h4
 dsimp only at h4
 have h5 : 3600 * (n * h) * den / (d * den) = S := by
  rw [h3, Nat.mul_comm d den, div_mul_self' h2, Nat.add_comm, Nat.add_mul_div_right _ _ hden, Nat.div_eq_of_lt hn]; omega
 rw [← h5, div_mul_self' hden]
theorem den_small {X d : Nat} (hd : 0 < d) (h6 : d ≤ 1000000) : (pr (3600 * X) d).2 ≤ 999999 := by
 by_cases e : d = 1000000
 ·subst e
  have : pr (3600 * X) 1000000 = pr (9 * X) 2500 := by
   rw [show 3600 * X = 400 * (9 * X) by omega, show (1000000 : Nat) = 400 * 2500 from rfl, pr_scale (by omega)]
  rw [this]
  have := (pr_spec (n := 9 * X) (d := 2500) (by omega)).2.1
  omega
 ·have := (pr_spec (n := 3600 * X) hd).2.1
  omega
end Go.Proofs.YtdidghlibfopgaaGreatDoor.M
namespace Go.Proofs.YtdidghlibfopgaaGreatDoor.M
open Go Go.PM Go.Proofs.YtdidghlibfopgaaGreatDoor.P
set_option linter.unusedVariables false
set_option linter.unusedSimpArgs false
set_option maxRecDepth 100000
theorem dec_small {n : Nat} (h : n < 10) : Lib.decDigits n = [UInt8.ofNat (48 + n)] := by rw [Lib.decDigits, dif_pos h]
theorem dec_big {n : Nat} (h : 10 ≤ n) : Lib.decDigits n = Lib.decDigits (n / 10) ++ [UInt8.ofNat (48 + n % 10)] := by rw [Lib.decDigits, dif_neg (by omega)]
theorem dig_nat {d : Nat} (h : d < 10) : (UInt8.ofNat (48 + d)).toNat = 48 + d := by
 rw [UInt8.toNat_ofNat']; omega
theorem dec_digits : ∀ (n : Nat), ∀ c ∈ Lib.decDigits n, 48 ≤ c.toNat ∧ c.toNat ≤ 57 := by
 intro n
 induction n using Nat.strongRecOn with
 | ind n ih =>
  intro c hc
  by_cases h : n < 10
  ·rw [dec_small h, List.mem_singleton] at hc
   rw [hc, dig_nat h]; omega
  ·rw [dec_big (by omega), List.mem_append, List.mem_singleton] at hc
   rcases hc with hc | hc
   ·exact ih (n / 10) (by omega) c hc
   ·rw [hc, dig_nat (by omega)]; omega
theorem dec_ne (n : Nat) : Lib.decDigits n ≠ [] := by
 by_cases h : n < 10
 ·rw [dec_small h]; simp
 ·rw [dec_big (by omega)]; simp
theorem dec_len : ∀ (k n : Nat), n < 10 ^ (k + 1) → (Lib.decDigits n).length ≤ k + 1
 | 0, n, h => by rw [dec_small (by simpa using h)]; simp
 | k+1, n, h => by
  by_cases c : n < 10
  ·rw [dec_small c]; simp
  ·have := dec_len k (n / 10) (by rw [Nat.pow_succ] at h; omega)
   rw [dec_big (by omega), List.length_append, List.length_singleton]; omega
theorem dec_head : ∀ (n : Nat), 0 < n → ∀ c l, Lib.decDigits n = c :: l → 49 ≤ c.toNat := by
 intro n
 induction n using Nat.strongRecOn with
 | ind n ih =>
  intro h0 c l hc
  by_cases h : n < 10
  ·rw [dec_small h] at hc
   injection hc with h1 h2
   rw [← h1, dig_nat h]; omega
  ·rw [dec_big (by omega)] at hc
   cases hd : Lib.decDigits (n / 10) with
   | nil => exact absurd hd (dec_ne _)
   | cons x t =>
    rw [hd] at hc
    injection hc with h1 h2
    rw [← h1]
    exact ih (n / 10) (by omega) (by omega) x t hd
theorem pu_append : ∀ (l r : List UInt8) (a u : Nat), Lib.parseUint10 a l = .ok u → Lib.parseUint10 a (l ++ r) = Lib.parseUint10 u r
 | [], r, a, u, h => by simp only [Lib.parseUint10] at h; injection h with h; subst h; rfl
 | c :: l, r, a, u, h => by
  have e1 : ∀ (q : List UInt8), Lib.parseUint10 a (c :: q) = if 48 ≤ c.toNat ∧ c.toNat ≤ 57 then (if 1844674407370955162 ≤ a then .range else if 18446744073709551616 ≤ a * 10 + (c.toNat - 48) then .range else Lib.parseUint10 (a * 10 + (c.toNat - 48)) q) else Lib.parseUint10 0 [0] := fun q => rfl
  rw [List.cons_append, e1]
  rw [e1] at h
  split
  ·rename_i h1
   rw [if_pos h1] at h
   split
   ·rename_i h2; rw [if_pos h2] at h; cases h
   ·rename_i h2
    rw [if_neg h2] at h
    split
    ·rename_i h3; rw [if_pos h3] at h; cases h
    ·rename_i h3
     rw [if_neg h3] at h
     exact pu_append l r _ u h
  ·rename_i h1; rw [if_neg h1] at h; cases h
theorem pu_dec : ∀ n : Nat, n < 1000000000000000000 → Lib.parseUint10 0 (Lib.decDigits n) = .ok n := by
 intro n
 induction n using Nat.strongRecOn with
 | ind n ih =>
  intro hn
  have one : ∀ (a d : Nat), d < 10 → a < 100000000000000000 → Lib.parseUint10 a [UInt8.ofNat (48 + d)] = .ok (a * 10 + d) := by
   intro a d hd ha
   unfold Lib.parseUint10
   rw [dig_nat hd, if_pos (by omega), if_neg (by omega), if_neg (by omega)]
   show Lib.NumEnd.ok (a * 10 + (48 + d - 48)) = _
   congr 1; omega
  by_cases h : n < 10
  ·rw [dec_small h, one 0 n h (by omega)]; congr 1; omega
  ·rw [dec_big (by omega), pu_append _ _ _ _ (ih (n / 10) (by omega) (by omega)), one (n / 10) (n % 10) (by omega) (by omega)]
   congr 1; omega
theorem atoi_dec {n : Nat} (hn : n < 1000000000000000000) : Lib.atoiAll (Lib.decDigits n) = .ok (n : Int) := by
 cases hd : Lib.decDigits n with
 | nil => exact absurd hd (dec_ne _)
 | cons c r =>
  have hc := dec_digits n c (by rw [hd]; exact List.mem_cons_self)
  have hp : Lib.parseMag (c :: r) = .ok n := by
   unfold Lib.parseMag
   rw [if_neg (by simp), ← hd, pu_dec n hn]
  unfold Lib.atoiAll
  simp only
  rw [if_neg (by omega), hp]
  simp only
  rw [if_neg (by omega), if_neg (by omega), if_neg (by omega)]
theorem wrap8 {x : Int} (h1 : 0 ≤ x) (h2 : x < 256) : (IntKind.wrap .u8) x = x := by
 have e : (IntKind.wrap .u8) x = x % 256 := by simp [IntKind.wrap, IntKind.signed, IntKind.bits]
 rw [e]; omega
def readGo : List UInt8 → Int → Int
 | [], n => n
 | c :: cs, n => if (c.toNat : Int) < 48 then -1 else if (c.toNat : Int) > 57 then -1 else readGo cs (w64 (w64 (10 * n) + ((c.toNat : Int) - 48)))
def readL (s : ByteArray) : Int := if inB s.size 1 6 = true then (if bt s 0 = 48 ∧ (s.size : Int) > 1 then -1 else readGo s.data.toList 0) else -1
theorem l1Read_l (N : Nat) (s : ByteArray) (hs : s.size ≤ 6) : ∀ (d i n : Nat) (x : Int), i + d = s.size → d < n → zq176.l2 N n s x i = some (readGo (s.data.toList.drop i) x)
 | 0, i, n+1, x, hi, hn => by
  have hl : s.data.toList.length = s.size := Array.length_toList
  unfold zq176.l2 zq176.d2 zq176.o2
  rw [dcF (by omega), cF, List.drop_eq_nil_of_le (by omega)]; rfl
 | d+1, i, n+1, x, hi, hn => by
  have hl : s.data.toList.length = s.size := Array.length_toList
  have hlt : i < s.data.toList.length := by omega
  have hb := UInt8.toNat_lt s.data.toList[i]
  unfold zq176.l2 zq176.d2 zq176.o2
  rw [dcT (show (i : Int) < (s.size : Int) by omega), cT, dcT (show 0 ≤ (i : Int) by omega), cT, cT, bt_at s i hlt, List.drop_eq_getElem_cons hlt]
  unfold readGo
  by_cases c1 : (s.data.toList[i].toNat : Int) < 48
  ·rw [dcT c1, cT, if_pos c1]; rfl
  rw [dcF c1, cF, cT, cT, if_neg c1]
  by_cases c2 : (s.data.toList[i].toNat : Int) > 57
  ·rw [dcT c2, if_pos c2]; rfl
  rw [dcF c2, if_neg c2]
  unfold zq176.d3 zq176.o3
  dsimp only
  rw [cF, dcT (show 0 ≤ (i : Int) by omega), cT, dcT (show (i : Int) < (s.size : Int) by omega), cT, bt_at s i hlt, wrap8 (by omega) (by omega), w64s (n := (s.data.toList[i].toNat : Int) - 48) (by omega) (by omega), w1add (by omega)]
  exact l1Read_l N s hs d (i + 1) n _ (by omega) (by omega)
 | _, _, 0, _, _, hn => by omega
theorem l1Read_eq {N : Nat} (hN : 10000 ≤ N) (s : ByteArray) : zq176.g N s = some (readL s) := by
 unfold zq176.g zq176.o0 readL
 rw [l1In_eq, oB]
 cases h : inB s.size 1 6 with
 | false => rfl
 | true =>
  have h' := inB_iff.1 h
  have hg : zq176.l2 N N s 0 0 = some (readGo s.data.toList 0) := by
   have := l1Read_l N s (by omega) s.size 0 N 0 (by omega) (by omega)
   rw [List.drop_zero] at this
   exact this
  rw [nT, cF, dcT (show 0 < (s.size : Int) by omega), cT, if_pos rfl]
  unfold zq176.d1 zq176.o1
  by_cases c : bt s 0 = 48
  ·rw [ieqT c, cT]
   by_cases e : (s.size : Int) > 1
   ·rw [dcT e, if_pos ⟨c, e⟩]; rfl
   ·rw [dcF e, if_neg (fun z => e z.2)]; exact hg
  ·rw [ieqF c, cF, if_neg (fun z => c z.1)]; exact hg
def valD (a : Nat) : List UInt8 → Nat
 | [] => a
 | c :: l => valD (10 * a + (c.toNat - 48)) l
theorem valD_append : ∀ (l r : List UInt8) (a : Nat), valD a (l ++ r) = valD (valD a l) r
 | [], r, a => rfl
 | c :: l, r, a => valD_append l r _
theorem valD_le : ∀ (l : List UInt8) (a : Nat), a ≤ valD a l
 | [], a => Nat.le_refl a
 | c :: l, a => by
  have := valD_le l (10 * a + (c.toNat - 48))
  show a ≤ valD _ l
  omega
def Digs (l : List UInt8) : Prop := ∀ c ∈ l, 48 ≤ c.toNat ∧ c.toNat ≤ 57
theorem readGo_val : ∀ (l : List UInt8) (a k : Nat), Digs l → l.length ≤ k → k ≤ 6 → a < 10 ^ (10 - k) → readGo l a = (valD a l : Nat)
 | [], a, k, _, _, _, _ => rfl
 | c :: l, a, k, h, hl, hk, ha => by
  obtain ⟨k, rfl⟩ : ∃ j, k = j + 1 := ⟨k - 1, by simp at hl; omega⟩
  have hc := h c List.mem_cons_self
  have hp : 10 ^ (10 - k) = 10 * 10 ^ (10 - (k + 1)) := by
   rw [show 10 - k = (10 - (k + 1)) + 1 by omega, Nat.pow_succ, Nat.mul_comm]
  have hb : 10 ^ (10 - (k + 1)) ≤ 10 ^ 10 := Nat.pow_le_pow_right (by omega) (by omega)
  have hb2 : (10 : Nat) ^ 10 = 10000000000 := by decide
  unfold readGo
  rw [if_neg (by omega), if_neg (by omega)]
  have e : w64 (w64 (10 * (a : Int)) + ((c.toNat : Int) - 48)) = ((10 * a + (c.toNat - 48) : Nat) : Int) := by
   rw [w64s (n := 10 * (a : Int)) (by omega) (by omega), w64s (by omega) (by omega)]; omega
  rw [e]
  exact readGo_val l _ k (fun x hx => h x (List.mem_cons_of_mem _ hx)) (by simp at hl; omega) (by omega) (by omega)
theorem readGo_bad : ∀ (l : List UInt8) (a : Int), ¬ Digs l → readGo l a = -1
 | [], a, h => absurd (fun c hc => by cases hc) h
 | c :: l, a, h => by
  unfold readGo
  by_cases c1 : (c.toNat : Int) < 48
  ·rw [if_pos c1]
  by_cases c2 : (c.toNat : Int) > 57
  ·rw [if_neg c1, if_pos c2]
  rw [if_neg c1, if_neg c2]
  refine readGo_bad l _ fun hl => h fun x hx => ?_
  rcases List.mem_cons.1 hx with rfl | hx
  ·omega
  ·exact hl x hx
theorem valD_dec : ∀ n : Nat, valD 0 (Lib.decDigits n) = n := by
 intro n
 induction n using Nat.strongRecOn with
 | ind n ih =>
  by_cases h : n < 10
  ·rw [dec_small h]
   show 10 * 0 + ((UInt8.ofNat (48 + n)).toNat - 48) = n
   rw [dig_nat h]; omega
  ·rw [dec_big (by omega), valD_append, ih (n / 10) (by omega)]
   show 10 * (n / 10) + ((UInt8.ofNat (48 + n % 10)).toNat - 48) = n
   rw [dig_nat (by omega)]; omega
theorem dec_val : ∀ (k : Nat) (l : List UInt8), l.length = k + 1 → Digs l → (∀ c r, l = c :: r → 49 ≤ c.toNat ∨ r = []) → Lib.decDigits (valD 0 l) = l
 | 0, [c], _, h, _ => by
  have hc := h c List.mem_cons_self
  have e : valD 0 [c] = c.toNat - 48 := by show 10 * 0 + (c.toNat - 48) = _; omega
  rw [e, dec_small (by omega), show 48 + (c.toNat - 48) = c.toNat by omega, UInt8.ofNat_toNat]
 | k+1, l, hl, h, hd => by
  have hne : l ≠ [] := by intro e; rw [e] at hl; cases hl
  have hs := List.dropLast_concat_getLast hne
  generalize hc : l.getLast hne = c at hs
  generalize hr : l.dropLast = r at hs
  have hrl : r.length = k + 1 := by rw [← hr, List.length_dropLast, hl]; rfl
  have hcd : 48 ≤ c.toNat ∧ c.toNat ≤ 57 := h c (by rw [← hs]; simp)
  have hrd : Digs r := fun x hx => h x (by rw [← hs]; exact List.mem_append_left _ hx)
  have hrh : ∀ x t, r = x :: t → 49 ≤ x.toNat := by
   intro x t e
   have := hd x (t ++ [c]) (by rw [← hs, e]; rfl)
   rcases this with h1 | h1
   ·exact h1
   ·simp at h1
  have ih := dec_val k r hrl hrd (fun x t e => .inl (hrh x t e))
  have hpos : 1 ≤ valD 0 r := by
   cases r with
   | nil => cases hrl
   | cons x t =>
    have h1 := hrh x t rfl
    have h2 := valD_le t (10 * 0 + (x.toNat - 48))
    show 1 ≤ valD (10 * 0 + (x.toNat - 48)) t
    omega
  have ev : valD 0 l = 10 * valD 0 r + (c.toNat - 48) := by rw [← hs, valD_append]; rfl
  rw [ev, dec_big (by omega), show (10 * valD 0 r + (c.toNat - 48)) / 10 = valD 0 r by omega, ih, show 48 + (10 * valD 0 r + (c.toNat - 48)) % 10 = c.toNat by omega, UInt8.ofNat_toNat, hs]
theorem bt0 {s : ByteArray} {c : UInt8} {l : List UInt8} (h : s.data.toList = c :: l) : bt s 0 = (c.toNat : Int) := by
 have hlt : 0 < s.data.toList.length := by rw [h]; simp
 have := bt_at s 0 hlt
 simp only [h, List.getElem_cons_zero] at this
 exact this
theorem read_dec {n : Nat} (hn : n < 1000000) : readL (bsOf (Lib.decDigits n)) = (n : Int) := by
 have hl := dec_len 5 n (by show n < 10 ^ 6; have : (10 : Nat) ^ 6 = 1000000 := by decide
                            omega)
 have h0 : 0 < (Lib.decDigits n).length := List.length_pos_iff.2  (dec_ne n)
 unfold readL
 rw [bsOf_size, if_pos (inB_iff.2 ⟨by omega, by omega⟩), bsOf_list]
 have hg : readGo (Lib.decDigits n) 0 = (n : Int) := by
  have := readGo_val (Lib.decDigits n) 0 6 (dec_digits n) (by omega) (by omega) (by decide)
  rw [valD_dec] at this
  exact this
 rw [if_neg, hg]
 rintro ⟨h1, h2⟩
 cases hd : Lib.decDigits n with
 | nil => exact dec_ne n hd
 | cons c l =>
  have hb := bt0 (s := bsOf (Lib.decDigits n)) (by rw [bsOf_list, hd])
  by_cases hz : n = 0
  ·subst hz
   rw [dec_small (by omega)] at h2
   simp at h2
  ·have := dec_head n (by omega) c l hd
   omega
theorem read_is {s : ByteArray} {n : Int} (h : readL s = n) (h0 : 0 ≤ n) : s = bsOf (Lib.decDigits n.toNat) ∧ n.toNat < 1000000 := by
 have hl : s.data.toList.length = s.size := Array.length_toList
 unfold readL at h
 by_cases h1 : inB s.size 1 6 = true
 ·rw [if_pos h1] at h
  have hz := inB_iff.1 h1
  by_cases h2 : bt s 0 = 48 ∧ (s.size : Int) > 1
  ·rw [if_pos h2] at h; omega
  ·rw [if_neg h2] at h
   have hD : Digs s.data.toList := by
    apply Classical.byContradiction
    intro hn
    rw [readGo_bad _ _ hn] at h
    omega
   have hv := readGo_val s.data.toList 0 6 hD (by omega) (by omega) (by decide)
   have e : n.toNat = valD 0 s.data.toList := by rw [show ((0 : Nat) : Int) = 0 from rfl] at hv; omega
   have hdv : Lib.decDigits (valD 0 s.data.toList) = s.data.toList := by
    refine dec_val (s.size - 1) _ (by omega) hD ?_
    intro c r hc
    have hb := bt0 hc
    have hcd := hD c (by rw [hc]; exact List.mem_cons_self)
    by_cases e1 : r = []
    ·exact .inr e1
    ·refine .inl ?_
     have : 0 < r.length := List.length_pos_iff.2  e1
     rw [hc, List.length_cons] at hl
     apply Classical.byContradiction
     intro hh
     exact h2 ⟨by omega, by omega⟩
   refine ⟨?_, ?_⟩
   ·rw [e, hdv, bsOf_eq]
   ·rw [e]
    have hlen : ∀ (l : List UInt8) (a : Nat), Digs l → valD a l < (a + 1) * 10 ^ l.length := by
     intro l
     induction l with
     | nil => intro a _; show a < _; simp
     | cons c l ih =>
      intro a hd
      have hc := hd c List.mem_cons_self
      have := ih (10 * a + (c.toNat - 48)) (fun x hx => hd x (List.mem_cons_of_mem _ hx))
      show valD (10 * a + (c.toNat - 48)) l < _
      refine Nat.lt_of_lt_of_le this ?_
      rw [List.length_cons, Nat.pow_succ, Nat.mul_comm (10 ^ l.length) 10, ← Nat.mul_assoc]
      exact Nat.mul_le_mul_right _ (by omega)
    have h3 := hlen s.data.toList 0 hD
    have h4 : 10 ^ s.data.toList.length ≤ 10 ^ 6 := Nat.pow_le_pow_right (by omega) (by omega)
    have h5 : (10 : Nat) ^ 6 = 1000000 := by decide
    omega
 ·rw [if_neg h1] at h; omega
theorem numsO_all : ∀ xs : List Int, numsO T0 5 xs = some xs
 | [] => rfl
 | x :: xs => by
  have ih := numsO_all xs
  unfold numsO at ih ⊢
  show (seqO _ (x :: xs)) = _
  unfold seqO
  show Option.bind (some x) _ = _
  rw [oB, ih]; rfl
theorem strOf_digit {n : Int} (h0 : 0 ≤ n) (h1 : n < 10) : strOfNums [(IntKind.wrap .u8) (w64 (48 + n))] = bsOf [UInt8.ofNat (48 + n.toNat)] := by
 apply bs_ext
 rw [bsOf_list, w64s (by omega) (by omega), wrap8 (by omega) (by omega)]
 have : (48 + n).toNat = 48 + n.toNat := by omega
 simp [strOfNums, this]
theorem num_gk (M : Nat) : ∀ (k f n : Nat), n < 10 ^ (k + 1) → k ≤ 15 → k < f → zq175.gk M f (n : Int) = some (bsOf (Lib.decDigits n)) := by
 have one : ∀ (f m : Nat), m < 10 → zq175.gk M (f+1) (m : Int) = some (bsOf (Lib.decDigits m)) := by
  intro f m m1
  unfold zq175.gk zq175.s zq175.o0
  rw [dcT (by omega), cT, numsO_all, oB, strOf_digit (by omega) (by omega), dec_small m1]; rfl
 intro k
 induction k with
 | zero =>
  intro f n h _ hf
  obtain ⟨f, rfl⟩ : ∃ j, f = j + 1 := ⟨f - 1, by omega⟩
  exact one f n (by simpa using h)
 | succ k ih =>
  intro f n h hk hf
  obtain ⟨f, rfl⟩ : ∃ j, f = j + 1 := ⟨f - 1, by omega⟩
  by_cases c : n < 10
  ·exact one f n c
  ·have hp : 10 ^ (k + 1 + 1) ≤ 10 ^ 17 := Nat.pow_le_pow_right (by omega) (by omega)
   have hp2 : (10 : Nat) ^ 17 = 100000000000000000 := by decide
   have e10 : w64 (Int.tdiv (n : Int) 10) = ((n / 10 : Nat) : Int) := by rw [Int.tdiv_eq_ediv_of_nonneg (by omega), w64s (by omega) (by omega)]; omega
   have e11 : Int.tmod (n : Int) 10 = ((n % 10 : Nat) : Int) := by rw [Int.tmod_eq_emod_of_nonneg (by omega)]; omega
   have e := ih f (n / 10) (by rw [Nat.pow_succ] at h; omega) (by omega) (by omega)
   have hlen2 : (Lib.decDigits (n / 10)).length ≤ k + 1 := dec_len k (n / 10) (by rw [Nat.pow_succ] at h; omega)
   rw [dec_big (by omega)]
   unfold zq175.gk zq175.s zq175.o0
   rw [dcF (by omega), cF, e10, e11, e, oB, numsO_all, oB, strOf_digit (by omega) (by omega), show Nat.ble _ _ = true from Nat.ble_eq_true_of_le (by rw [bsOf_size, bsOf_size, List.length_singleton]; omega), cT, bsOf_append]; rfl
theorem num_eq {N n : Nat} (hN : 100 ≤ N) (h1 : n < 1000000000000000) : zq175.g N (n : Int) = some (bsOf (Lib.decDigits n)) :=
 num_gk N 14 N n (by have : (10 : Nat) ^ 15 = 1000000000000000 := by decide
                     omega) (by omega) (by omega)
theorem w64n {a : Nat} (h : a < 9000000000000000000) : w64 (a : Int) = (a : Int) := w64s (by omega) (by omega)
theorem gcd_l (N : Nat) : ∀ (n a b : Nat), b < n → a ≤ 1000000000000000 → b ≤ 1000000000000000 → zq55.l1 N n a b = some ((Nat.gcd a b : Nat) : Int)
 | n+1, a, b, hb, h1, h2 => by
  unfold zq55.l1 zq55.d1 zq55.o1
  by_cases e : b = 0
  ·subst e
   rw [ineF (show ((0 : Nat) : Int) = 0 from rfl), cF, w64s (by omega) (by omega), if_neg (by omega), Nat.gcd_zero_right]
  ·rw [ineT (by omega), cT, ieqF (by omega), cF, tmodN]
   have hm : a % b < b := Nat.mod_lt _ (by omega)
   refine (gcd_l N n b (a % b) (by omega) h2 (by omega)).trans ?_
   rw [Nat.gcd_comm b (a % b), ← Nat.gcd_rec, Nat.gcd_comm]
 | 0, _, _, hb, _, _ => by omega
theorem gcd_eq {N a b : Nat} (hb : b < N) (h1 : a ≤ 1000000000000000) (h2 : b ≤ 1000000000000000) : zq55.g N a b = some ((Nat.gcd a b : Nat) : Int) := gcd_l N N a b hb h1 h2
theorem common_l (N : Nat) : ∀ (n a b : Nat), b < n → a ≤ 1000000000000000 → b ≤ 1000000000000000 → zq147.l1 N n a b = some ((Nat.gcd a b : Nat) : Int)
 | n+1, a, b, hb, h1, h2 => by
  unfold zq147.l1 zq147.d1 zq147.o1
  by_cases e : b = 0
  ·subst e
   rw [dcF (by omega), cF, Nat.gcd_zero_right]
  ·rw [dcT (by omega), cT, ieqF (by omega), cF, tmodN]
   have hm : a % b < b := Nat.mod_lt _ (by omega)
   refine (common_l N n b (a % b) (by omega) h2 (by omega)).trans ?_
   rw [Nat.gcd_comm b (a % b), ← Nat.gcd_rec, Nat.gcd_comm]
 | 0, _, _, hb, _, _ => by omega
theorem common_eq {N a b : Nat} (hb : b < N) (h1 : a ≤ 1000000000000000) (h2 : b ≤ 1000000000000000) : zq147.g N a b = some ((Nat.gcd a b : Nat) : Int) := common_l N N a b hb h1 h2
theorem prI {x D : Nat} (hD : 1 ≤ D) (hx : x < D) : pr x D = (x / Nat.gcd x D, D / Nat.gcd x D) := by
 unfold pr; rw [Nat.mod_eq_of_lt hx]
theorem part_eq {N m D : Nat} (hN : D < N) (hD : 1 ≤ D) (h2 : D ≤ 1000000000000000) (h1 : m ≤ 1000000000000000) : zq67.g N m D = some (((pr m D).1 : Int), ((pr m D).2 : Int)) := by
 have hr : m % D < D := Nat.mod_lt _ (by omega)
 have hp : 0 < Nat.gcd (m % D) D := Nat.gcd_pos_of_pos_right _ (by omega)
 have e1 : m % D / Nat.gcd (m % D) D ≤ m % D := Nat.div_le_self _ _
 have e2 : D / Nat.gcd (m % D) D ≤ D := Nat.div_le_self _ _
 unfold zq67.g zq67.o0 zq52.g zq52.o0 zq52.d1 zq52.o1 pr
 rw [ieqF (show ¬ (D : Int) = 0 by omega), cF, cF, tmodN, dcF (by omega), cF]
 dsimp only
 rw [oB]
 dsimp only
 rw [gcd_eq hN (by omega) h2, oB, ieqF (by omega), cF, cF, tdivN, tdivN]
 generalize m % D / Nat.gcd (m % D) D = x at *
 generalize D / Nat.gcd (m % D) D = y at *
 rw [w64n (by omega), w64n (by omega)]
theorem part_neg {N m D : Nat} (hN : D < N) (h0 : m < D) (h2 : D ≤ 1000000000000000) : zq67.g N (-(m : Int)) D = some (((pr (D - m) D).1 : Int), ((pr (D - m) D).2 : Int)) := by
 by_cases e : m = 0
 ·subst e
  have : pr (D - 0) D = pr 0 D := by
   have := pr_add 0 1 D
   rw [← this]; congr 1; omega
  rw [this]
  exact part_eq (m := 0) hN (by omega) h2 (by omega)
 ·have hlt : D - m < D := by omega
  have hp : 0 < Nat.gcd (D - m) D := Nat.gcd_pos_of_pos_right _ (by omega)
  have e1 : (D - m) / Nat.gcd (D - m) D ≤ D - m := Nat.div_le_self _ _
  have e2 : D / Nat.gcd (D - m) D ≤ D := Nat.div_le_self _ _
  have et : Int.tmod (-(m : Int)) (D : Int) = -(m : Int) := by
   rw [Int.neg_tmod, tmodN, Nat.mod_eq_of_lt h0]
  unfold zq67.g zq67.o0 zq52.g zq52.o0 zq52.d1 zq52.o1
  rw [prI (by omega) hlt, ieqF (show ¬ (D : Int) = 0 by omega), cF, cF, et, dcT (by omega), cT, show w64 (-(m : Int) + (D : Int)) = ((D - m : Nat) : Int) by rw [w64s (by omega) (by omega)]; omega]
  dsimp only
  rw [oB]
  dsimp only
  rw [gcd_eq hN (by omega) h2, oB, ieqF (by omega), cF, cF, tdivN, tdivN]
  generalize (D - m) / Nat.gcd (D - m) D = x at *
  generalize D / Nat.gcd (D - m) D = y at *
  rw [w64n (by omega), w64n (by omega)]
def mkV (f : Nat × Nat) : Int × Int × Bool := if f.2 ≤ 1000000 then ((f.1 : Int), (f.2 : Int), true) else (0, 0, false)
theorem make_core {N r D : Nat} (hN : D < N) (hr : r < D) (h2 : D ≤ 1000000000000000) (a : Int) (hm : Int.tmod (w64 ((Int.tmod a D) + D)) D = (r : Int)) : zq151.g N a D = some (mkV (pr r D)) := by
 have hp : 0 < Nat.gcd r D := Nat.gcd_pos_of_pos_right _ (by omega)
 have e1 : r / Nat.gcd r D ≤ r := Nat.div_le_self _ _
 have e2 : D / Nat.gcd r D ≤ D := Nat.div_le_self _ _
 unfold zq151.g zq151.o0
 rw [prI (by omega) hr, ieqF (by omega), cF, cF, hm, common_eq hN (by omega) h2, oB, ieqF (by omega), cF, cF, tdivN, tdivN]
 unfold mkV
 dsimp only
 generalize r / Nat.gcd r D = x at *
 generalize D / Nat.gcd r D = y at *
 rw [w64n (by omega), w64n (by omega)]
 by_cases c : y ≤ 1000000
 ·rw [if_pos c, dcF (by omega), cF]
 ·rw [if_neg c, dcT (by omega), cT]
theorem make_eq {N m D : Nat} (hN : D < N) (hD : 1 ≤ D) (h2 : D ≤ 1000000000000000) : zq151.g N m D = some (mkV (pr m D)) := by
 have hr : m % D < D := Nat.mod_lt _ (by omega)
 rw [← pr_mod]
 refine make_core hN hr h2 _ ?_
 rw [tmodN, show w64 (((m % D : Nat) : Int) + (D : Int)) = ((m % D + D : Nat) : Int) by rw [w64s (by omega) (by omega)]; omega, tmodN, Nat.add_mod_right, Nat.mod_mod]
theorem make_neg {N m D : Nat} (hN : D < N) (h0 : m < D) (h2 : D ≤ 1000000000000000) : zq151.g N (-(m : Int)) D = some (mkV (pr (D - m) D)) := by
 have et : Int.tmod (-(m : Int)) (D : Int) = -(m : Int) := by rw [Int.neg_tmod, tmodN, Nat.mod_eq_of_lt h0]
 have hw : w64 (-(m : Int) + (D : Int)) = ((D - m : Nat) : Int) := by rw [w64s (by omega) (by omega)]; omega
 have hr : (D - m) % D < D := Nat.mod_lt _ (by omega)
 rw [← pr_mod]
 refine make_core hN hr h2 _ ?_
 rw [et, hw, tmodN]
theorem mkV_ok {f : Nat × Nat} (h : f.2 ≤ 1000000) : mkV f = ((f.1 : Int), (f.2 : Int), true) := if_pos h
structure Turn (n d : Nat) : Prop where
 lt : n < d
 le : d ≤ 1000000
 cop : Nat.gcd n d = 1
def turnB (n d : Int) : Bool := inB d 1 1000000 && (inB n 0 (d - 1) && (((Nat.gcd n.toNat d.toNat : Nat) : Int) == 1))
theorem turnB_iff {n d : Int} : turnB n d = true ↔ ∃ a b : Nat, n = a ∧ d = b ∧ Turn a b := by
 unfold turnB
 rw [Bool.and_eq_true, Bool.and_eq_true, inB_iff, inB_iff, beq_iff_eq]
 constructor
 ·rintro ⟨h1, h2, h3⟩
  exact ⟨n.toNat, d.toNat, by omega, by omega, by omega, by omega, by omega⟩
 ·rintro ⟨a, b, rfl, rfl, h⟩
  have := h.lt; have := h.le
  exact ⟨by omega, by omega, by rw [tN, tN, h.cop]; rfl⟩
theorem IsTurn_eq {N : Nat} (hN : 10000000 ≤ N) (n d : Int) : zq20.g N n d = some (turnB n d) := by
 unfold zq20.g zq20.o0 turnB
 rw [within_eq, oB]
 cases h1 : inB d 1 1000000 with
 | false => rfl
 | true =>
  have h1' := inB_iff.1 h1
  rw [cT, w64s (by omega) (by omega), within_eq, oB]
  cases h2 : inB n 0 (d - 1) with
  | false => rfl
  | true =>
   have h2' := inB_iff.1 h2
   obtain ⟨a, rfl⟩ := Int.eq_ofNat_of_zero_le h2'.1
   obtain ⟨b, rfl⟩ := Int.eq_ofNat_of_zero_le (show 0 ≤ d by omega)
   rw [cT, gcd_eq (by omega) (by omega) (by omega)]; rfl
theorem diGood_eq {N : Nat} (hN : 10000000 ≤ N) (n d : Int) : zq149.g N n d = some (turnB n d) := by
 unfold zq149.g zq149.o0 turnB
 rw [l1In_eq, oB]
 cases h1 : inB d 1 1000000 with
 | false => rfl
 | true =>
  have h1' := inB_iff.1 h1
  rw [cT, w64s (by omega) (by omega), l1In_eq, oB]
  cases h2 : inB n 0 (d - 1) with
  | false => rfl
  | true =>
   have h2' := inB_iff.1 h2
   obtain ⟨a, rfl⟩ := Int.eq_ofNat_of_zero_le h2'.1
   obtain ⟨b, rfl⟩ := Int.eq_ofNat_of_zero_le (show 0 ≤ d by omega)
   rw [cT, common_eq (by omega) (by omega) (by omega)]; rfl
def timeB (h n d : Int) : Bool := inB h 2 24 && turnB n d
theorem timeB_iff {h n d : Int} : timeB h n d = true ↔ ∃ k a b : Nat, h = k ∧ 2 ≤ k ∧ k ≤ 24 ∧ n = a ∧ d = b ∧ Turn a b := by
 unfold timeB
 rw [Bool.and_eq_true, inB_iff, turnB_iff]
 constructor
 ·rintro ⟨h1, a, b, rfl, rfl, h2⟩
  exact ⟨h.toNat, a, b, by omega, by omega, by omega, rfl, rfl, h2⟩
 ·rintro ⟨k, a, b, rfl, h1, h2, rfl, rfl, h3⟩
  exact ⟨by omega, a, b, rfl, rfl, h3⟩
theorem isTime_eq {N : Nat} (hN : 10000000 ≤ N) (h n d : Int) : zq62.g N h n d = some (timeB h n d) := by
 unfold zq62.g zq62.o0 timeB
 rw [isDial_eq, oB]
 cases inB h 2 24 with
 | false => rfl
 | true => rw [cT, IsTurn_eq hN, oB]; rfl
theorem diAsked_eq {N : Nat} (hN : 10000000 ≤ N) (h n d : Int) : zq146.g N h n d = some (timeB h n d) := by
 unfold zq146.g zq146.o0 timeB
 rw [diHours_eq, oB]
 cases inB h 2 24 with
 | false => rfl
 | true => rw [cT, diGood_eq hN, oB]; rfl
theorem pr_Turn {n d : Nat} (hd : 0 < d) (h6 : d ≤ 1000000) : Turn (pr n d).1 (pr n d).2 := by
 have := pr_spec (n := n) hd
 exact ⟨this.1, by omega, this.2.2.1⟩
theorem times_eq {N n d k : Nat} (hN : 10000000 ≤ N) (ht : Turn n d) (hk : k ≤ 1000000) : zq43.g N n d k = some (((pr (n * k) d).1 : Int), ((pr (n * k) d).2 : Int)) := by
 have h1 := ht.lt; have h2 := ht.le
 have h3 : n * k ≤ 1000000 * 1000000 := Nat.mul_le_mul (by omega) hk
 unfold zq43.g zq43.o0
 rw [← Int.natCast_mul, w64n (by omega), part_eq (by omega) (by omega) (by omega) (by omega)]; rfl
theorem diTimes_eq {N n d k : Nat} (hN : 10000000 ≤ N) (ht : Turn n d) (hk : k ≤ 1000000) : zq155.g N n d k = some (((pr (n * k) d).1 : Int), ((pr (n * k) d).2 : Int)) := by
 have h1 := ht.lt; have h2 := ht.le
 have h3 : n * k ≤ 1000000 * 1000000 := Nat.mul_le_mul (by omega) hk
 unfold zq155.g zq155.o0
 rw [← Int.natCast_mul, w64n (by omega), make_eq (by omega) (by omega) (by omega), mkV_ok (by have := (pr_spec (n := n * k) (d := d) (by omega)).2.1; omega)]; rfl
structure Dial (k n d : Nat) : Prop where
 k1 : 2 ≤ k
 k2 : k ≤ 24
 t : Turn n d
theorem Dial.b {k n d : Nat} (h : Dial k n d) : timeB k n d = true := timeB_iff.2 ⟨k, n, d, rfl, h.k1, h.k2, rfl, rfl, h.t⟩
theorem Dial.p {k n d : Nat} (h : Dial k n d) : 0 < d := Nat.lt_of_le_of_lt (Nat.zero_le _) h.t.lt
theorem Dial.nk {k n d : Nat} (h : Dial k n d) : n * k ≤ 24000000 := by
 have := Nat.mul_le_mul (show n ≤ 1000000 by have := h.t.lt; have := h.t.le; omega) h.k2
 omega
def r3 (f : Nat × Nat) : Int × Int × Bool := ((f.1 : Int), (f.2 : Int), true)
theorem Long_yes {N k n d : Nat} (hN : 10000000 ≤ N) (h : Dial k n d) : zq24.g N k n d = some (r3 (pr (n * k) d)) ∧ zq118.g N k n d = some (r3 (pr (n * k) d)) := by
 have := h.k2
 constructor
 ·unfold zq24.g zq24.o0
  rw [isTime_eq hN, h.b, oB, nT, cF, times_eq hN h.t (by omega)]; rfl
 ·unfold zq118.g zq118.o0
  rw [diAsked_eq hN, h.b, oB, nT, cF, diTimes_eq hN h.t (by omega)]; rfl
theorem w1 {k : Nat} (h1 : 2 ≤ k) (h2 : k ≤ 24) : w64 ((k : Int) - 1) = ((k - 1 : Nat) : Int) := by rw [w64s (by omega) (by omega)]; omega
theorem Angle_yes {N k n d : Nat} (hN : 10000000 ≤ N) (h : Dial k n d) : zq4.g N k n d = some (r3 (pr (n * (k - 1)) d)) ∧ zq106.g N k n d = some (r3 (pr (n * (k - 1)) d)) := by
 have := h.k2
 constructor
 ·unfold zq4.g zq4.o0
  rw [isTime_eq hN, h.b, oB, nT, cF, w1 h.k1 h.k2, times_eq hN h.t (by omega)]; rfl
 ·unfold zq106.g zq106.o0
  rw [diAsked_eq hN, h.b, oB, nT, cF, w1 h.k1 h.k2, diTimes_eq hN h.t (by omega)]; rfl
theorem mirror_eq {N p q : Nat} (hN : 10000000 ≤ N) (h : Turn p q) : zq41.g N p q = some (((pr (q - p) q).1 : Int), ((pr (q - p) q).2 : Int)) ∧ zq152.g N p q = some (((pr (q - p) q).1 : Int), ((pr (q - p) q).2 : Int)) := by
 have h1 := h.lt; have h2 := h.le
 have e : w64 ((p : Int) * (-1)) = -(p : Int) := by rw [w64s (by omega) (by omega)]; omega
 constructor
 ·unfold zq41.g zq41.o0 zq43.g zq43.o0
  rw [e, part_neg (by omega) h1 (by omega)]; rfl
 ·unfold zq152.g zq152.o0 zq155.g zq155.o0
  rw [e, make_neg (by omega) h1 (by omega), mkV_ok (by have := (pr_spec (n := q - p) (d := q) (by omega)).2.1; omega)]; rfl
theorem mulT {a b c d : Nat} (h1 : Turn a b) (h2 : Turn c d) : a * d ≤ 1000000000000 := by
 have := Nat.mul_le_mul (show a ≤ 1000000 by have := h1.lt; have := h1.le; omega) h2.le
 omega
theorem compare_neg {N a b c d : Nat} (h1 : Turn a b) (h2 : Turn c d) : Tot (zq39.g N a b c d) (fun r => decide (r < 0) = decide (a * d < c * b)) ∧ Tot (zq148.g N a b c d) (fun r => decide (r < 0) = decide (a * d < c * b)) := by
 have e1 := mulT h1 h2
 have e2 := mulT h2 h1
 generalize hx : a * d = x at *
 generalize hy : c * b = y at *
 have w1 : w64 ((a : Int) * (d : Int)) = (x : Int) := by rw [← Int.natCast_mul, hx, w64n (by omega)]
 have w2 : w64 ((c : Int) * (b : Int)) = (y : Int) := by rw [← Int.natCast_mul, hy, w64n (by omega)]
 constructor
 ·unfold zq39.g zq39.o0 zq0.g zq0.o0 zq1.g zq1.o0
  rw [w1, w2, ineF rfl, ineF rfl, oB, oB, cF, cF]
  by_cases c : x < y
  ·rw [dcT (show (x : Int) < y by omega), cT]
   exact Tot.now (by simp [c])
  ·rw [dcF (show ¬ (x : Int) < y by omega), cF]
   by_cases c2 : y < x
   ·rw [dcT (show (x : Int) > y by omega), cT]
    exact Tot.now (by simp [c])
   ·rw [dcF (show ¬ (x : Int) > y by omega), cF]
    exact Tot.now (by simp [c])
 ·unfold zq148.g zq148.o0 zq177.g zq177.o0
  rw [w1, w2, w64s (by omega) (by omega)]
  by_cases c : x < y
  ·rw [dcF (show ¬ ((x : Int) - y > 0) by omega), cF, dcT (show (x : Int) - y < 0 by omega), cT]
   exact Tot.now (by simp [c])
  ·by_cases c2 : y < x
   ·rw [dcT (show ((x : Int) - y > 0) by omega), cT]
    exact Tot.now (by simp [c])
   ·rw [dcF (show ¬ ((x : Int) - y > 0) by omega), cF, dcF (show ¬ ((x : Int) - y < 0) by omega), cF]
    exact Tot.now (by simp [c])
def smallV (f : Nat × Nat) : Nat × Nat := if (pr (f.2 - f.1) f.2).1 * f.2 < f.1 * (pr (f.2 - f.1) f.2).2 then pr (f.2 - f.1) f.2 else f
theorem small_yes {N k n d : Nat} (hN : 10000000 ≤ N) (h : Dial k n d) : zq34.g N k n d = some (r3 (smallV (pr (n * (k - 1)) d))) ∧ zq124.g N k n d = some (r3 (smallV (pr (n * (k - 1)) d))) := by
 have hk := h.k2
 have ht := pr_Turn (n := n * (k - 1)) h.p h.t.le
 have hA := (Angle_yes hN h)
 generalize pr (n * (k - 1)) d = f at *
 have hf := ht.lt
 have hm := mirror_eq hN ht
 have htm := pr_Turn (n := f.2 - f.1) (d := f.2) (by omega) ht.le
 have hc := compare_neg (N := N) htm ht
 unfold smallV
 generalize pr (f.2 - f.1) f.2 = g at *
 constructor
 ·unfold zq34.g zq34.o0
  rw [hA.1, oB, show (r3 f).2.2 = true from rfl, nT, cF, show (r3 f).1 = (f.1 : Int) from rfl, show (r3 f).2.1 = (f.2 : Int) from rfl, hm.1, oB]
  obtain ⟨r, e1, e2⟩ := hc.1
  dsimp only
  rw [e1, oB, e2]
  by_cases c : g.1 * f.2 < f.1 * g.2
  ·rw [decide_eq_true c, if_pos c]; rfl
  ·rw [decide_eq_false c, if_neg c]; rfl
 ·have hT : zq155.g N n d (w64 ((k : Int) - 1)) = some ((f.1 : Int), (f.2 : Int)) := by
   have := hA.2
   unfold zq106.g zq106.o0 at this
   rw [diAsked_eq hN, h.b, oB, nT, cF] at this
   obtain ⟨u, hu, hv⟩ := Option.bind_eq_some_iff.1 this
   rw [hu]
   obtain ⟨u1, u2⟩ := u
   simp only [r3, Option.some.injEq, Prod.mk.injEq] at hv
   rw [hv.1, hv.2.1]
  unfold zq124.g zq124.o0
  rw [diAsked_eq hN, h.b, oB, nT, cF, hT, oB]
  dsimp only
  rw [hm.2, oB]
  obtain ⟨r, e1, e2⟩ := hc.2
  dsimp only
  rw [e1, oB, e2]
  by_cases c : g.1 * f.2 < f.1 * g.2
  ·rw [decide_eq_true c, if_pos c]; rfl
  ·rw [decide_eq_false c, if_neg c]; rfl
theorem split_eq {N k n d : Nat} (hN : 10000000 ≤ N) (h : Dial k n d) : zq76.g N k n d = some (((n * k * 60 / d / 60 : Nat) : Int), ((n * k * 60 / d % 60 : Nat) : Int), ((pr (n * k * 60) d).1 : Int), ((pr (n * k * 60) d).2 : Int)) := by
 have h1 := h.nk
 have h2 := h.p; have h3 := h.t.le
 have e : w64 (w64 ((n : Int) * (k : Int)) * 60) = ((n * k * 60 : Nat) : Int) := by
  rw [← Int.natCast_mul, w64n (by omega), w64s (by omega) (by omega)]; omega
 have hq : n * k * 60 / d ≤ n * k * 60 := Nat.div_le_self _ _
 have hq2 : n * k * 60 / d / 60 ≤ n * k * 60 / d := Nat.div_le_self _ _
 unfold zq76.g zq76.o0
 rw [ieqF (by omega), cF, e, part_eq (by omega) (by omega) (by omega) (by omega), oB, tdivN, w64n (by omega), show (60 : Int) = ((60 : Nat) : Int) from rfl, tdivN, tmodN, w64n (by omega)]
theorem idx_tot {N : Nat} (hN : 10000000 ≤ N) (l : List S25) (hl : l.length ≤ 1000000) : ∀ (j i m : Nat), i + j = l.length → j < m →
  Tot (zq103.l1 N m l l.length i) fun r => decide (r ≥ 0) = !((l.drop i).all fun t => turnB t.f0 t.f1)
 | 0, i, m+1, hi, hm => by
  unfold zq103.l1 zq103.d1 zq103.o1
  rw [dcF (by omega), cF, List.drop_eq_nil_of_le (by omega)]
  exact Tot.now rfl
 | j+1, i, m+1, hi, hm => by
  have hlt : i < l.length := by omega
  unfold zq103.l1 zq103.d1 zq103.o1 zq45.g zq45.o0
  rw [dcT (by omega), cT, dcT (by omega), cT, cT, tN, getAt hlt, IsTurn_eq hN, oB, oB, List.drop_eq_getElem_cons hlt, List.all_cons]
  cases hb : turnB l[i].f0 l[i].f1 with
  | false =>
   rw [nF, cT]
   exact Tot.now (by simp)
  | true =>
   rw [nT, cF, w1add (by omega), Bool.true_and]
   exact idx_tot hN l hl j (i + 1) m (by omega) (by omega)
 | _, _, 0, _, hm => by omega
theorem areTurns_eq {N : Nat} (hN : 10000000 ≤ N) (l : List S25) (hl : l.length ≤ 1000000) : zq44.g N l = some (l.all fun t => turnB t.f0 t.f1) := by
 obtain ⟨r, h1, h2⟩ := idx_tot hN l hl l.length 0 N (by omega) (by omega)
 unfold zq44.g zq44.o0 zq102.g zq102.o0 zq103.g zq103.o0
 dsimp only
 rw [show (zq103.l1 N N l (l.length : Int) 0) = some r from h1, oB, h2, oB, Bool.not_not, List.drop_zero]
theorem turnB_T {n d : Nat} (h : Turn n d) : turnB n d = true := turnB_iff.2 ⟨n, d, rfl, rfl, h⟩
theorem itoa_eq (N : Nat) {n : Nat} (h1 : n ≤ 9223372036854775807) : zq184.g N (n : Int) = some (bsOf (Lib.decDigits n)) := by
 unfold zq184.g
 rw [dcT (by omega), dcT (by omega)]
 show some (⟨(Lib.itoa (n : Int)).toArray⟩ : ByteArray) = _
 have : Lib.itoa (n : Int) = Lib.decDigits n := by unfold Lib.itoa; rw [if_neg (by omega)]; simp
 rw [this]; rfl
def dd (v : Nat) : List UInt8 := [UInt8.ofNat (48 + v / 10), UInt8.ofNat (48 + v % 10)]
theorem hb {R : Type} {a : Nat} {x : Option R} (h : a ≤ 1000000) : (bif Nat.ble a 9223372036854775807 then x else none) = x := by
 rw [Nat.ble_eq_true_of_le (by omega), cT]
theorem lit48 : (⟨#[48]⟩ : ByteArray) = bsOf [48] := rfl
theorem lit58 : (⟨#[58]⟩ : ByteArray) = bsOf [58] := rfl
theorem lit43 : (⟨#[43]⟩ : ByteArray) = bsOf [43] := rfl
theorem lit47 : (⟨#[47]⟩ : ByteArray) = bsOf [47] := rfl
theorem dd_small {v : Nat} (h : v < 10) : dd v = [48] ++ Lib.decDigits v := by
 rw [dec_small h]; unfold dd
 rw [show v / 10 = 0 by omega, show v % 10 = v by omega]; rfl
theorem dd_big {v : Nat} (h1 : 10 ≤ v) (h2 : v < 100) : dd v = Lib.decDigits v := by
 rw [dec_big h1, dec_small (by omega)]; rfl
theorem two_eq {N v : Nat} (hN : 100 ≤ N) (h : v < 100) : zq79.g N v = some (bsOf (dd v)) ∧ zq156.g N v = some (bsOf (dd v)) := by
 have hl : (Lib.decDigits v).length ≤ 2 := dec_len 1 v (by simpa using h)
 by_cases c : v < 10
 ·constructor
  ·unfold zq79.g zq79.o0
   rw [dcT (by omega), cT, itoa_eq N (by omega), oB, hb (by rw [lit48, bsOf_size, bsOf_size, List.length_singleton]; omega), lit48, bsOf_append, dd_small c]
  ·unfold zq156.g zq156.o0
   rw [dcT (by omega), cT, num_eq hN (by omega), oB, hb (by rw [lit48, bsOf_size, bsOf_size, List.length_singleton]; omega), lit48, bsOf_append, dd_small c]
 ·constructor
  ·unfold zq79.g zq79.o0
   rw [dcF (by omega), cF, itoa_eq N (by omega), oB, dd_big (by omega) h]
  ·unfold zq156.g zq156.o0
   rw [dcF (by omega), cF, num_eq hN (by omega), oB, dd_big (by omega) h]
def tailL (f : Nat × Nat) : List UInt8 := if f.1 = 0 then [] else [43] ++ Lib.decDigits f.1 ++ [47] ++ Lib.decDigits f.2
def timeL (M d : Nat) : List UInt8 := dd (M / d / 60) ++ [58] ++ dd (M / d % 60) ++ [58] ++ dd (60 * (M % d) / d) ++ tailL (pr (60 * M) d)
theorem dd_len (v : Nat) : (dd v).length = 2 := rfl
theorem tail_len {f : Nat × Nat} (h : f.1 < f.2) (h2 : f.2 ≤ 999999) : (tailL f).length ≤ 14 := by
 have e : (10 : Nat) ^ 6 = 1000000 := by decide
 have h3 := dec_len 5 f.1 (by omega)
 have h4 := dec_len 5 f.2 (by omega)
 unfold tailL
 split
 ·simp
 ·simp only [List.length_append, List.length_singleton]; omega
theorem div60 {M d k n : Nat} (hM : M = n * k * 60) (hd : n < d) (hk : k ≤ 24) : M / d < 1440 := by
 subst hM
 refine Nat.div_lt_of_lt_mul ?_
 have : n * k ≤ n * 24 := Nat.mul_le_mul_left _ hk
 omega
theorem hms {S W s : Nat} (h : S = 60 * W + s) (h2 : s < 60) : S / 3600 = W / 60 ∧ S / 60 % 60 = W % 60 ∧ S % 60 = s := by omega
theorem text_yes {N k n d : Nat} (hN : 10000000 ≤ N) (h : Dial k n d) : zq37.g N k n d = some (bsOf (timeL (n * k * 60) d), true) ∧ zq126.g N k n d = some (bsOf (timeL (n * k * 60) d), true) ∧ zq154.g N k n d = some (bsOf (timeL (n * k * 60) d)) := by
 have h1 := h.nk; have h2 := h.p; have h3 := h.t.le; have h4 := h.k2; have h5 := h.t.lt
 have hW := div60 (M := n * k * 60) rfl h5 h4
 have hS := S_eq (M := n * k * 60) h2
 have hds := den_small (X := n * k) h2 h3
 have hm := more_eq (M := n * k * 60) h2
 have hse := sec_eq (M := n * k * 60) h2
 have hx := pr_spec (n := n * k * 60) h2
 rw [show 3600 * (n * k) = 60 * (n * k * 60) by omega] at hds
 have hf := pr_spec (n := 60 * (n * k * 60)) h2
 have hsplit := split_eq hN h
 have eM : w64 (w64 ((n : Int) * (k : Int)) * 3600) = ((60 * (n * k * 60) : Nat) : Int) := by
  rw [← Int.natCast_mul, w64n (by omega), w64s (by omega) (by omega)]; omega
 have eT : zq155.g N n d (w64 ((k : Int) * 3600)) = some (((pr (60 * (n * k * 60)) d).1 : Int), ((pr (60 * (n * k * 60)) d).2 : Int)) := by
  rw [show w64 ((k : Int) * 3600) = ((k * 3600 : Nat) : Int) by rw [w64s (by omega) (by omega)]; omega, diTimes_eq hN h.t (by omega), show n * (k * 3600) = 60 * (n * k * 60) by rw [← Nat.mul_assoc]; omega]
 have hM2 : 60 * (n * k * 60) / d ≤ 60 * (n * k * 60) := Nat.div_le_self _ _
 generalize n * k * 60 = M at *
 have tl := tail_len hf.1 hds
 have e6 : (10 : Nat) ^ 6 = 1000000 := by decide
 have l1 := dec_len 5 (pr (60 * M) d).1 (by omega)
 have l2 := dec_len 5 (pr (60 * M) d).2 (by omega)
 have tails : (pr (60 * M) d).1 ≠ 0 → tailL (pr (60 * M) d) = [43] ++ Lib.decDigits (pr (60 * M) d).1 ++ [47] ++ Lib.decDigits (pr (60 * M) d).2 := fun hh => by unfold tailL; rw [if_neg hh]
 have tail0 : (pr (60 * M) d).1 = 0 → tailL (pr (60 * M) d) = [] := fun hh => by unfold tailL; rw [if_pos hh]
 have impl : zq37.g N k n d = some (bsOf (timeL M d), true) := by
  unfold zq37.g zq37.o0
  rw [isTime_eq hN, h.b, oB, nT, cF, hsplit, oB]
  dsimp only
  rw [(two_eq (by omega) (by omega)).1, oB, hb (by simp [lit58, bsOf_size, dd_len]), (two_eq (by omega) (by omega)).1, oB, hb (by simp [lit58, bsOf_size, bsOf_append, dd_len]), hb (by simp [lit58, bsOf_size, bsOf_append, dd_len]), ieqF (by omega), cF]
  have ex : w64 (((pr M d).1 : Int) * 60) = (((pr M d).1 * 60 : Nat) : Int) := by rw [w64s (by omega) (by omega)]; omega
  rw [ex, tdivN, hse, w64n (by omega), (two_eq (by omega) (by omega)).1, oB, hb (by simp [lit58, bsOf_size, bsOf_append, dd_len]), part_eq (by omega) (by omega) (by omega) (by omega), hm, oB]
  dsimp only
  unfold timeL zq37.d1 zq37.o1
  by_cases c : (pr (60 * M) d).1 = 0
  ·rw [dcF (by omega), cF, tail0 c]
   simp only [lit58, bsOf_append, List.append_nil]
  ·rw [dcT (by omega), cT, itoa_eq N (by omega), oB, hb (by simp [lit43, bsOf_size]; omega), hb (by simp [lit43, lit47, bsOf_size, bsOf_append]; omega), itoa_eq N (by omega), oB, hb (by simp [lit43, lit47, bsOf_size, bsOf_append]; omega), hb (by simp [lit43, lit47, lit58, bsOf_size, bsOf_append, dd_len]; omega), tails c]
   simp only [lit58, lit43, lit47, bsOf_append, List.append_assoc]
 have spec : zq154.g N k n d = some (bsOf (timeL M d)) := by
  unfold zq154.g zq154.o0
  obtain ⟨a1, a2, a3⟩ := hms hS.1 hS.2
  rw [ieqF (by omega), cF, eM, tdivN, w64n (by omega), show (3600 : Int) = ((3600 : Nat) : Int) from rfl, show (60 : Int) = ((60 : Nat) : Int) from rfl, tdivN, tdivN, tmodN, w64n (by omega), w64n (by omega), tmodN, a1, a2, a3]
  rw [(two_eq (by omega) (by omega)).2, oB, hb (by simp [lit58, bsOf_size, dd_len]), (two_eq (by omega) (by omega)).2, oB, hb (by simp [lit58, bsOf_size, bsOf_append, dd_len]), hb (by simp [lit58, bsOf_size, bsOf_append, dd_len])]
  rw [(two_eq (by omega) (by omega)).2, oB, hb (by simp [lit58, bsOf_size, bsOf_append, dd_len]), show ((3600 : Nat) : Int) = 3600 from rfl, eT, oB]
  dsimp only
  unfold timeL zq154.d1 zq154.o1
  by_cases c : (pr (60 * M) d).1 = 0
  ·rw [dcF (by omega), cF, tail0 c]
   simp only [lit58, bsOf_append, List.append_nil]
  ·rw [dcT (by omega), cT, num_eq (by omega) (by omega), oB, hb (by simp [lit43, bsOf_size]; omega), hb (by simp [lit43, lit47, bsOf_size, bsOf_append]; omega), num_eq (by omega) (by omega), oB, hb (by simp [lit43, lit47, bsOf_size, bsOf_append]; omega), hb (by simp [lit43, lit47, lit58, bsOf_size, bsOf_append, dd_len]; omega), tails c]
   simp only [lit58, lit43, lit47, bsOf_append, List.append_assoc]
 refine ⟨impl, ?_, spec⟩
 unfold zq126.g zq126.o0
 rw [diAsked_eq hN, h.b, oB, nT, cF, spec]; rfl
theorem text_no {N : Nat} {h n d : Int} (hN : 10000000 ≤ N) (hb : timeB h n d = false) : zq37.g N h n d = some (⟨#[]⟩, false) ∧ zq126.g N h n d = some (⟨#[]⟩, false) := by
 constructor
 ·unfold zq37.g zq37.o0
  rw [isTime_eq hN, hb]; rfl
 ·unfold zq126.g zq126.o0
  rw [diAsked_eq hN, hb]; rfl
def sT (f : Nat × Nat) : S25 := ⟨(f.1 : Int), (f.2 : Int)⟩
def rt (n d k i : Nat) : Nat × Nat := pr (n + i * d) (d * k)
def rts (n d k i j : Nat) : List S25 := (List.range' i j).map fun x => sT (rt n d k x)
def okR (n d k i : Nat) : Bool := decide ((rt n d k i).2 ≤ 1000000)
theorem turnB_pr {n D : Nat} (hD : 0 < D) : turnB ((pr n D).1 : Int) ((pr n D).2 : Int) = decide ((pr n D).2 ≤ 1000000) := by
 have h := pr_spec (n := n) hD
 by_cases c : (pr n D).2 ≤ 1000000
 ·rw [decide_eq_true c]
  exact turnB_T ⟨h.1, c, h.2.2.1⟩
 ·rw [decide_eq_false c]
  cases hb : turnB ((pr n D).1 : Int) ((pr n D).2 : Int) with
  | false => rfl
  | true =>
   obtain ⟨a, b, h1, h2, h3⟩ := turnB_iff.1 hb
   have := h3.le
   omega
theorem rts_all {n d k : Nat} (hD : 0 < d * k) (i j : Nat) : ((rts n d k i j).all fun t => turnB t.f0 t.f1) = (List.range' i j).all (okR n d k) := by
 unfold rts
 rw [List.all_map]
 congr 1
 funext x
 exact turnB_pr hD
theorem rts_len (n d k i j : Nat) : (rts n d k i j).length = j := by unfold rts; rw [List.length_map, List.length_range']
theorem rts_succ (n d k i j : Nat) : rts n d k i (j + 1) = sT (rt n d k i) :: rts n d k (i + 1) j := rfl
theorem root_args {n d k i : Nat} (hd : d ≤ 1000000000000) (hn : n ≤ 1000000000000) (hk : k ≤ 24) (hi : i < k) : w64 ((n : Int) + w64 ((i : Int) * (d : Int))) = ((n + i * d : Nat) : Int) ∧ w64 ((d : Int) * (k : Int)) = ((d * k : Nat) : Int) ∧ n + i * d ≤ 100000000000000 ∧ d * k ≤ 100000000000000 := by
 have h1 := Nat.mul_le_mul (show i ≤ 24 by omega) hd
 have h2 := Nat.mul_le_mul hd hk
 refine ⟨?_, ?_, by omega, by omega⟩
 ·rw [← Int.natCast_mul, w64n (by omega), ← Int.natCast_add, w64n (by omega)]
 ·rw [← Int.natCast_mul, w64n (by omega)]
theorem roots_l {N : Nat} (hN : 100000000000000 < N) {n d k : Nat} (hd1 : 1 ≤ d) (hd : d ≤ 1000000000000) (hn : n ≤ 1000000000000) (hk : k ≤ 24) : ∀ (j i m : Nat) (acc : List S25), i + j = k → j < m → acc.length = i →
  zq71.l1 N m k acc k i n d = some (acc ++ rts n d k i j, (acc ++ rts n d k i j).all fun t => turnB t.f0 t.f1)
 | 0, i, m+1, acc, hi, hm, ha => by
  unfold zq71.l1 zq71.d1 zq71.o1
  rw [dcF (by omega), cF, areTurns_eq (by omega) _ (by omega), oB]
  show _ = some (acc ++ [], (acc ++ []).all _)
  rw [List.append_nil]
 | j+1, i, m+1, acc, hi, hm, ha => by
  obtain ⟨e1, e2, e3, e4⟩ := root_args (n := n) hd hn hk (show i < k by omega)
  have hp : 1 ≤ d * k := Nat.mul_pos (by omega) (by omega)
  unfold zq71.l1 zq71.d1 zq71.o1
  rw [dcT (by omega), cT, e1, e2, part_eq (by omega) hp (by omega) (by omega), oB, blT (by simp; omega), cT, w1add (by omega)]
  refine (roots_l hN hd1 hd hn hk j (i + 1) m (acc ++ [sT (rt n d k i)]) (by omega) (by omega) (by simp; omega)).trans ?_
  rw [rts_succ, List.append_assoc]; rfl
 | _, _, 0, _, _, hm, _ => by omega
def timesL (n d k : Nat) : List S25 × Bool := if (List.range' 0 k).all (okR n d k) = true then (rts n d k 0 k, true) else ([], false)
theorem ifRoots_eq {N : Nat} (hN : 100000000000000 < N) {n d k : Nat} (hd1 : 1 ≤ d) (hd : d ≤ 1000000000000) (hn : n ≤ 1000000000000) (hk1 : 1 ≤ k) (hk : k ≤ 24) :
  ((zq71.g N n d k).bind fun r2 => (zq57.g N r2.1 r2.2).bind fun r3 => some (r3.1, r3.2)) = some (timesL n d k) := by
 have hp : 0 < d * k := Nat.mul_pos (by omega) (by omega)
 have h := roots_l hN hd1 hd hn hk k 0 N [] (by omega) (by omega) rfl
 rw [List.nil_append, rts_all hp] at h
 unfold zq71.g zq71.o0 timesL
 dsimp only
 rw [show (zq71.l1 N N k ([] : List S25) k 0 n d) = _ from h, oB]
 dsimp only
 unfold zq57.g zq57.o0 zq57.d1 zq57.o1
 cases hb : (List.range' 0 k).all (okR n d k) with
 | false => rw [if_neg (by simp)]; rfl
 | true =>
  rw [nT, cF, areTurns_eq (by omega) _ (by rw [rts_len]; omega), rts_all hp, hb, if_pos rfl]; rfl
end Go.Proofs.YtdidghlibfopgaaGreatDoor.M
namespace Go.Proofs.YtdidghlibfopgaaGreatDoor.M
open Go Go.PM
set_option linter.unusedVariables false
set_option linter.unusedSimpArgs false

theorem pr_congr {n d n' d' : Nat} (hd : 0 < d) (hd' : 0 < d') (z : Int) (h : (n : Int) * d' - n' * d = z * (d * d')) : pr n d = pr n' d' := by
 rcases Int.le_total 0 z with c | c
 ·obtain ⟨k, rfl⟩ := Int.eq_ofNat_of_zero_le c
  refine pr_eq 0 k hd hd' ?_
  have : ((n * d' : Nat) : Int) = ((n' * d + k * (d * d') : Nat) : Int) := by
   simp only [Int.natCast_mul, Int.natCast_add]; omega
  have := Int.ofNat.inj this
  omega
 ·obtain ⟨k, hk⟩ := Int.eq_ofNat_of_zero_le (show 0 ≤ -z by omega)
  obtain rfl : z = -(k : Int) := by omega
  refine pr_eq k 0 hd hd' ?_
  have : ((n * d' + k * (d * d') : Nat) : Int) = ((n' * d : Nat) : Int) := by
   simp only [Int.natCast_mul, Int.natCast_add]
   rw [Int.neg_mul] at h; omega
  have := Int.ofNat.inj this
  omega
theorem pr_val {n d : Nat} (hd : 0 < d) : ∃ z : Int, ((pr n d).1 : Int) * d - n * (pr n d).2 = z * (d * (pr n d).2) := by
 have h := (pr_spec (n := n) hd).2.2.2
 have hm := Nat.mod_add_div n d
 refine ⟨-((n / d : Nat) : Int), ?_⟩
 generalize pr n d = f at *
 have h1 : ((f.1 * d : Nat) : Int) = ((n % d * f.2 : Nat) : Int) := congrArg _ h
 have h2 : ((n % d + d * (n / d) : Nat) : Int) = (n : Int) := congrArg _ hm
 simp only [Int.natCast_mul, Int.natCast_add] at h1 h2
 generalize ((n % d : Nat) : Int) = r at *
 generalize ((n / d : Nat) : Int) = q at *
 grind
def fadd (f g : Nat × Nat) : Nat × Nat := pr (f.1 * g.2 + g.1 * f.2) (f.2 * g.2)
def fsub (f g : Nat × Nat) : Nat × Nat := pr (f.1 * g.2 + (f.2 * g.2 - g.1 * f.2)) (f.2 * g.2)
structure Low (f : Nat × Nat) : Prop where
 lt : f.1 < f.2
 cop : Nat.gcd f.1 f.2 = 1
theorem Low.eq {f : Nat × Nat} (h : Low f) : pr f.1 f.2 = f := pr_low h.lt h.cop
theorem Low.pos {f : Nat × Nat} (h : Low f) : 0 < f.2 := Nat.lt_of_le_of_lt (Nat.zero_le _) h.lt
theorem fadd_pp {X D Y E : Nat} (hD : 0 < D) (hE : 0 < E) : fadd (pr X D) (pr Y E) = pr (X * E + Y * D) (D * E) := by
 obtain ⟨z, hz⟩ := pr_val (n := X) hD
 obtain ⟨y, hy⟩ := pr_val (n := Y) hE
 have p1 := pr_pos (n := X) hD
 have p2 := pr_pos (n := Y) hE
 unfold fadd
 generalize pr X D = f at *
 generalize pr Y E = g at *
 refine pr_congr (Nat.mul_pos p1 p2) (Nat.mul_pos hD hE) (z + y) ?_
 simp only [Int.natCast_mul, Int.natCast_add]
 generalize (f.1 : Int) = f1 at *
 generalize (f.2 : Int) = f2 at *
 generalize (g.1 : Int) = g1 at *
 generalize (g.2 : Int) = g2 at *
 grind
end Go.Proofs.YtdidghlibfopgaaGreatDoor.M
namespace Go.Proofs.YtdidghlibfopgaaGreatDoor.M
open Go Go.PM Go.Proofs.YtdidghlibfopgaaGreatDoor.P
set_option linter.unusedVariables false
set_option linter.unusedSimpArgs false
set_option maxRecDepth 100000
theorem pr_sub {x y D : Nat} (hy : y < D) (h : y ≤ x) : pr (x - y) D = pr (x + (D - y)) D := by
 rw [← pr_add (x - y) 1 D]; congr 1; omega
theorem part_sub {N x y D : Nat} (hN : D < N) (hx : x < D) (hy : y < D) (h2 : D ≤ 1000000000000000) : zq67.g N ((x : Int) - (y : Int)) D = some (((pr (x + (D - y)) D).1 : Int), ((pr (x + (D - y)) D).2 : Int)) := by
 by_cases c : y ≤ x
 ·rw [← pr_sub hy c, show (x : Int) - (y : Int) = ((x - y : Nat) : Int) by omega]
  exact part_eq hN (by omega) h2 (by omega)
 ·rw [show (x : Int) - (y : Int) = -((y - x : Nat) : Int) by omega, part_neg hN (by omega) h2, show D - (y - x) = x + (D - y) by omega]
theorem make_sub {N x y D : Nat} (hN : D < N) (hx : x < D) (hy : y < D) (h2 : D ≤ 1000000000000000) : zq151.g N ((x : Int) - (y : Int)) D = some (mkV (pr (x + (D - y)) D)) := by
 by_cases c : y ≤ x
 ·rw [← pr_sub hy c, show (x : Int) - (y : Int) = ((x - y : Nat) : Int) by omega]
  exact make_eq hN (by omega) h2
 ·rw [show (x : Int) - (y : Int) = -((y - x : Nat) : Int) by omega, make_neg hN (by omega) h2, show D - (y - x) = x + (D - y) by omega]
theorem Turn.p {n d : Nat} (h : Turn n d) : 0 < d := Nat.lt_of_le_of_lt (Nat.zero_le _) h.lt
theorem Turn.low {n d : Nat} (h : Turn n d) : Low (n, d) := ⟨h.lt, h.cop⟩
theorem prods {a b c d : Nat} (h1 : Turn a b) (h2 : Turn c d) : a * d < b * d ∧ c * b < b * d ∧ b * d ≤ 1000000000000 ∧ w64 ((a : Int) * (d : Int)) = ((a * d : Nat) : Int) ∧ w64 ((c : Int) * (b : Int)) = ((c * b : Nat) : Int) ∧ w64 ((b : Int) * (d : Int)) = ((b * d : Nat) : Int) := by
 have e := Nat.mul_le_mul h1.le h2.le
 have e1 : a * d < b * d := Nat.mul_lt_mul_of_pos_right h1.lt h2.p
 have e2 : c * b < b * d := by rw [Nat.mul_comm b d]; exact Nat.mul_lt_mul_of_pos_right h2.lt h1.p
 refine ⟨e1, e2, by omega, ?_, ?_, ?_⟩
 all_goals rw [← Int.natCast_mul, w64n (by omega)]
theorem minus_eq {N a b c d : Nat} (hN : 1000000000000 < N) (h1 : Turn a b) (h2 : Turn c d) : zq40.g N a b c d = some (((fsub (a, b) (c, d)).1 : Int), ((fsub (a, b) (c, d)).2 : Int)) := by
 obtain ⟨p1, p2, p3, e1, e2, e3⟩ := prods h1 h2
 unfold zq40.g zq40.o0
 rw [e1, e2, e3, w64s (by omega) (by omega), part_sub (by omega) p1 p2 (by omega)]; rfl
theorem plus_eq {N a b c d : Nat} (hN : 1000000000000 < N) (h1 : Turn a b) (h2 : Turn c d) : zq42.g N a b c d = some (((fadd (a, b) (c, d)).1 : Int), ((fadd (a, b) (c, d)).2 : Int)) := by
 obtain ⟨p1, p2, p3, e1, e2, e3⟩ := prods h1 h2
 unfold zq42.g zq42.o0
 rw [e1, e2, e3, w2add (by omega), part_eq (by omega) (by omega) (by omega) (by omega)]; rfl
theorem diAdd_plus {N a b c d : Nat} (hN : 1000000000000 < N) (h1 : Turn a b) (h2 : Turn c d) : zq145.g N a b c d 1 = some (mkV (fadd (a, b) (c, d))) := by
 obtain ⟨p1, p2, p3, e1, e2, e3⟩ := prods h1 h2
 have := h2.lt; have := h2.le
 unfold zq145.g zq145.o0
 rw [Int.one_mul, w64n (a := c) (by omega), e1, e2, e3, w2add (by omega), make_eq (by omega) (by omega) (by omega)]; rfl
theorem diAdd_minus {N a b c d : Nat} (hN : 1000000000000 < N) (h1 : Turn a b) (h2 : Turn c d) : zq145.g N a b c d (-1) = some (mkV (fsub (a, b) (c, d))) := by
 obtain ⟨p1, p2, p3, e1, e2, e3⟩ := prods h1 h2
 have := h2.lt; have := h2.le
 have e4 : w64 (w64 ((-1 : Int) * (c : Int)) * (b : Int)) = -((c * b : Nat) : Int) := by
  have : (-1 : Int) * (c : Int) = -(c : Int) := by omega
  rw [this, w64s (n := -(c : Int)) (by omega) (by omega), Int.neg_mul, ← Int.natCast_mul, w64s (by omega) (by omega)]
 unfold zq145.g zq145.o0
 rw [e1, e4, e3, show ((a * d : Nat) : Int) + -((c * b : Nat) : Int) = ((a * d : Nat) : Int) - ((c * b : Nat) : Int) by omega, w64s (by omega) (by omega), make_sub (by omega) p1 p2 (by omega)]; rfl
theorem angle_l {N : Nat} (hN : 100000000000000 < N) {n d k m : Nat} (hk : k = m + 1) (hd1 : 1 ≤ d) (hd : d ≤ 1000000000000) (hn : n ≤ 1000000000000) (hm : m ≤ 24) : ∀ (j i f : Nat) (acc : List S25), i + j = m → j < f → acc.length = i →
  zq179.l2 N f k n d acc i = some (if (List.range' i j).all (okR n d m) = true then (acc ++ rts n d m i j, true) else ([], false))
 | 0, i, f+1, acc, hi, hf, ha => by
  unfold zq179.l2 zq179.d2 zq179.o2
  rw [show w64 ((k : Int) - 1) = (m : Int) by rw [w64s (by omega) (by omega)]; omega, dcF (by omega), cF]
  show _ = some (acc ++ [], true)
  rw [List.append_nil]
 | j+1, i, f+1, acc, hi, hf, ha => by
  obtain ⟨e1, e2, e3, e4⟩ := root_args (n := n) hd hn hm (show i < m by omega)
  have hp : 1 ≤ d * m := Nat.mul_pos (by omega) (by omega)
  unfold zq179.l2 zq179.d2 zq179.o2
  rw [show w64 ((k : Int) - 1) = (m : Int) by rw [w64s (by omega) (by omega)]; omega, dcT (by omega), cT, e1, e2, make_eq (by omega) hp (by omega), oB, List.range'_succ, List.all_cons]
  have ho : okR n d m i = decide ((pr (n + i * d) (d * m)).2 ≤ 1000000) := rfl
  rw [ho]
  by_cases c : (pr (n + i * d) (d * m)).2 ≤ 1000000
  ·rw [mkV_ok c, dcT c, nT, cF, blT (by simp; omega), cT, w1add (by omega), Bool.true_and]
   refine (angle_l hN hk hd1 hd hn hm j (i + 1) f (acc ++ [sT (rt n d m i)]) (by omega) (by omega) (by simp; omega)).trans ?_
   rw [rts_succ, List.append_assoc]; rfl
  ·unfold mkV
   rw [if_neg c, dcF c, nF, cT, Bool.false_and, if_neg (by simp)]
 | _, _, 0, _, _, hf, _ => by omega
theorem angle_eq {N : Nat} (hN : 100000000000000 < N) {n d m : Nat} (hd1 : 1 ≤ d) (hd : d ≤ 1000000000000) (hn : n ≤ 1000000000000) (hm : m ≤ 24) : zq179.g N ((m + 1 : Nat) : Int) n d = some (timesL n d m) := by
 have e : zq179.g N ((m + 1 : Nat) : Int) n d = zq179.l2 N N ((m + 1 : Nat) : Int) n d [] 0 := by
  obtain ⟨M, rfl⟩ : ∃ M, N = M + 1 := ⟨N - 1, by omega⟩
  rfl
 rw [e]
 exact angle_l hN rfl hd1 hd hn hm m 0 N [] (by omega) (by omega) rfl
def tW (h n d : Int) : List S25 × Bool := if timeB h n d = true then timesL n.toNat d.toNat (h.toNat - 1) else ([], false)
theorem With_eq {N : Nat} (hN : 100000000000000 < N) (h n d : Int) : zq38.g N h n d = some (tW h n d) ∧ zq127.g N h n d = some (tW h n d) := by
 unfold tW zq38.g zq38.o0 zq127.g zq127.o0
 rw [isTime_eq (by omega), diAsked_eq (by omega), oB, oB]
 cases hb : timeB h n d with
 | false => exact ⟨rfl, rfl⟩
 | true =>
  obtain ⟨k, x, y, rfl, h1, h2, rfl, rfl, H⟩ := timeB_iff.1 hb
  have := H.lt; have := H.le
  obtain ⟨m, rfl⟩ : ∃ m, k = m + 1 := ⟨k - 1, by omega⟩
  rw [nT, cF, cF, if_pos rfl]
  simp only [tN, Nat.add_sub_cancel]
  rw [show w64 (((m + 1 : Nat) : Int) - 1) = (m : Int) by rw [w64s (by omega) (by omega)]; omega]
  constructor
  ·exact ifRoots_eq hN (by omega) (by omega) (by omega) (by omega) (by omega)
  ·rw [angle_eq hN (by omega) (by omega) (by omega) (by omega)]; rfl
def goodB (a b c d : Int) : Bool := turnB a b && turnB c d
def seenB (h a b c d : Int) : Bool := inB h 2 24 && goodB a b c d
def longI (h a b : Int) : Int × Int := (((pr (a.toNat * h.toNat) b.toNat).1 : Int), ((pr (a.toNat * h.toNat) b.toNat).2 : Int))
def trueB (h a b c d : Int) : Bool := (longI h a b).1 == c && (longI h a b).2 == d
theorem IsSeen_eq {N : Nat} (hN : 10000000 ≤ N) (a b c d : Int) : zq18.g N a b c d = some (goodB a b c d) := by
 unfold zq18.g zq18.o0
 rw [areTurns_eq hN _ (by simp), oB]
 unfold goodB
 simp
theorem isSeenOf_eq {N : Nat} (hN : 10000000 ≤ N) (h a b c d : Int) : zq61.g N h a b c d = some (seenB h a b c d) := by
 unfold zq61.g zq61.o0 seenB
 rw [isDial_eq, oB]
 cases inB h 2 24 with
 | false => rfl
 | true => rw [cT, IsSeen_eq hN, oB]; rfl
structure Seen (k a b c d : Nat) : Prop where
 k1 : 2 ≤ k
 k2 : k ≤ 24
 s : Turn a b
 l : Turn c d
theorem seenB_iff {h a b c d : Int} : seenB h a b c d = true ↔ ∃ k x y z u : Nat, h = k ∧ a = x ∧ b = y ∧ c = z ∧ d = u ∧ Seen k x y z u := by
 unfold seenB goodB
 rw [Bool.and_eq_true, Bool.and_eq_true, inB_iff, turnB_iff, turnB_iff]
 constructor
 ·rintro ⟨h1, ⟨x, y, rfl, rfl, h2⟩, ⟨z, u, rfl, rfl, h3⟩⟩
  exact ⟨h.toNat, x, y, z, u, by omega, rfl, rfl, rfl, rfl, by omega, by omega, h2, h3⟩
 ·rintro ⟨k, x, y, z, u, rfl, rfl, rfl, rfl, rfl, h1, h2, h3, h4⟩
  exact ⟨by omega, ⟨x, y, rfl, rfl, h3⟩, ⟨z, u, rfl, rfl, h4⟩⟩
theorem Seen.ex {k a b c d : Nat} (h : Seen k a b c d) : Seen k c d a b := ⟨h.k1, h.k2, h.l, h.s⟩
theorem longN (k a b : Nat) : longI k a b = (((pr (a * k) b).1 : Int), ((pr (a * k) b).2 : Int)) := by
 unfold longI
 simp only [tN]
theorem isTrue_eq {N k a b : Nat} (hN : 10000000 ≤ N) (h : Turn a b) (hk : k ≤ 24) (c d : Int) : zq63.g N k a b c d = some (trueB k a b c d) ∧ zq182.g N k a b c d = some (trueB k a b c d) := by
 unfold trueB
 rw [longN]
 constructor
 ·unfold zq63.g zq63.o0
  rw [times_eq hN h (by omega), oB, Bool.and_true]
 ·unfold zq182.g zq182.o0
  rw [diTimes_eq hN h (by omega), oB, Bool.and_true]
def tS (h a b c d : Int) : Int × Int × Bool := if (seenB h a b c d && trueB h a b c d) = true then (a, b, true) else (0, 0, false)
theorem TimeSeen_eq {N : Nat} (hN : 10000000 ≤ N) (h a b c d : Int) : zq36.g N h a b c d = some (tS h a b c d) := by
 unfold tS zq36.g zq36.o0 zq36.d1 zq36.o1
 rw [isSeenOf_eq hN, oB]
 cases hs : seenB h a b c d with
 | false => rfl
 | true =>
  obtain ⟨k, x, y, z, u, rfl, rfl, rfl, rfl, rfl, H⟩ := seenB_iff.1 hs
  rw [nT, cF, (isTrue_eq hN H.s H.k2 _ _).1, oB]
  cases trueB k x y z u with
  | false => rfl
  | true => rfl
def sO (h n d : Int) : Int × Int × Int × Int × Bool := if timeB h n d = true then (n, d, (longI h n d).1, (longI h n d).2, true) else (0, 0, 0, 0, false)
theorem seOf_eq {N k a b : Nat} (hN : 10000000 ≤ N) (h : Turn a b) (hk : k ≤ 24) : zq181.g N k a b = some ((a : Int), (b : Int), ((pr (a * k) b).1 : Int), ((pr (a * k) b).2 : Int)) := by
 unfold zq181.g zq181.o0
 rw [diTimes_eq hN h (by omega)]; rfl
theorem SeenOf_eq {N : Nat} (hN : 10000000 ≤ N) (h n d : Int) : zq31.g N h n d = some (sO h n d) := by
 unfold sO zq31.g zq31.o0
 rw [isTime_eq hN, oB]
 cases hb : timeB h n d with
 | false => rfl
 | true =>
  obtain ⟨k, x, y, rfl, h1, h2, rfl, rfl, H⟩ := timeB_iff.1 hb
  rw [nT, cF, times_eq hN H (by omega), longN]
  rfl
def eT (h n d : Int) : Int × Int × Bool := if (timeB h n d && trueB h (longI h n d).1 (longI h n d).2 n d) = true then ((longI h n d).1, (longI h n d).2, true) else (0, 0, false)
theorem longT {k a b : Nat} (h : Turn a b) : Turn (pr (a * k) b).1 (pr (a * k) b).2 := pr_Turn (Nat.lt_of_le_of_lt (Nat.zero_le _) h.lt) h.le
theorem seenB_of {k a b c d : Nat} (h : Seen k a b c d) : seenB k a b c d = true := seenB_iff.2 ⟨k, a, b, c, d, rfl, rfl, rfl, rfl, rfl, h⟩
theorem ExchangedTime_eq {N : Nat} (hN : 10000000 ≤ N) (h n d : Int) : zq10.g N h n d = some (eT h n d) ∧ zq112.g N h n d = some (eT h n d) := by
 constructor
 ·unfold eT zq10.g zq10.o0 zq32.g zq32.o0
  rw [SeenOf_eq hN, oB]
  unfold sO
  cases hb : timeB h n d with
  | false => rfl
  | true =>
   obtain ⟨k, x, y, rfl, h1, h2, rfl, rfl, H⟩ := timeB_iff.1 hb
   rw [if_pos rfl]
   dsimp only
   rw [nT, cF, oB]
   dsimp only
   rw [TimeSeen_eq hN, oB]
   unfold tS
   rw [longN, seenB_of ⟨h1, h2, longT H, H⟩]
 ·unfold eT zq112.g zq112.o0 zq112.d1 zq112.o1 zq180.g zq180.o0
  rw [diAsked_eq hN, oB]
  cases hb : timeB h n d with
  | false => rfl
  | true =>
   obtain ⟨k, x, y, rfl, h1, h2, rfl, rfl, H⟩ := timeB_iff.1 hb
   rw [nT, cF, seOf_eq hN H h2, oB, oB]
   dsimp only
   rw [(isTrue_eq hN (longT H) h2 _ _).2, oB, longN]
   dsimp only
   cases ht : trueB (k : Int) ((pr (x * k) y).1 : Int) ((pr (x * k) y).2 : Int) (x : Int) (y : Int) with
   | false => rfl
   | true =>
    rw [nT, cF, diTimes_eq hN H (by omega)]; rfl
structure Rule (E B Y : Nat) : Prop where
 e1 : 1 ≤ E
 e2 : E ≤ 10000
 b : B = 0 ∨ E < B
 b2 : B ≤ 10000
 y : Y = 0 ∨ (0 < B ∧ B < Y)
 y2 : Y ≤ 10000
def fracB (n d : Int) : Bool := inB d 2 100000 && inB n 1 (d - 1)
theorem frac_eq (N : Nat) (n d : Int) : zq59.g N n d = some (fracB n d) ∧ zq141.g N n d = some (fracB n d) := by
 unfold zq59.g zq59.o0 zq141.g zq141.o0 fracB
 rw [within_eq, l1In_eq, oB, oB]
 constructor
 ·cases h1 : inB d 1 100000 with
  | false =>
   rw [cF]
   have : inB d 2 100000 = false := by have := inB_not.1 h1; rw [inB_not]; omega
   rw [this]; rfl
  | true =>
   have h1' := inB_iff.1 h1
   rw [cT, w64s (by omega) (by omega), within_eq, oB]
   cases h2 : inB d 2 100000 with
   | false =>
    have h2' := inB_not.1 h2
    have : inB n 1 (d - 1) = false := by rw [inB_not]; omega
    rw [this]; rfl
   | true => rfl
 ·cases h2 : inB d 2 100000 with
  | false => rfl
  | true =>
   have h2' := inB_iff.1 h2
   rw [cT, w64s (by omega) (by omega), l1In_eq, oB]; rfl
theorem fracB_iff {n d : Int} (h : fracB n d = true) : ∃ a b : Nat, n = a ∧ d = b ∧ 1 ≤ a ∧ a < b ∧ b ≤ 100000 := by
 unfold fracB at h
 rw [Bool.and_eq_true, inB_iff, inB_iff] at h
 exact ⟨n.toNat, d.toNat, by omega, by omega, by omega, by omega, by omega⟩
def row (f : Nat × Nat) : List Int := [(f.1 : Int), (f.2 : Int)]
def Chain (num den most : Nat) : Nat → Nat → List (Nat × Nat) → Prop
 | _, _, [] => True
 | lp, lq, (p, q) :: t => (q ≤ most ∧ p ≤ q ∧ ((p : Int) * den - num * q).natAbs * lq ≤ den ∧ ((lp : Int) * q - p * lq).natAbs = 1) ∧ Chain num den most p q t
structure CfS (num den p q lp lq a b : Nat) : Prop where
 q1 : 1 ≤ q
 d : a * q + b * lq = den
 n : a * p + b * lp = num
 det : (lp : Int) * q - p * lq = 1 ∨ (lp : Int) * q - p * lq = -1
 pq : p ≤ q
 l : lp ≤ lq ∨ (p = 0 ∧ lp ≤ 1)
 ba : b < a
theorem CfS.step {num den p q lp lq a b : Nat} (h : CfS num den p q lp lq a b) (hb : 0 < b) : CfS num den (a / b * p + lp) (a / b * q + lq) p q b (a % b) := by
 obtain ⟨q1, d, n, det, pq, l, ba⟩ := h
 have hm := Nat.div_add_mod a b
 have hlt : a % b < b := Nat.mod_lt _ hb
 have hk : 1 ≤ a / b := (Nat.le_div_iff_mul_le hb).2 (by omega)
 generalize a / b = k at *
 generalize a % b = r at *
 have k1 : q ≤ k * q := Nat.le_mul_of_pos_left _ (by omega)
 have k2 : k * p ≤ k * q := Nat.mul_le_mul_left _ pq
 refine ⟨by omega, ?_, ?_, ?_, ?_, .inl pq, hlt⟩
 ·rw [← d, ← hm]; grind
 ·rw [← n, ← hm]; grind
 ·have e : (p : Int) * ((k * q + lq : Nat) : Int) - ((k * p + lp : Nat) : Int) * (q : Int) = -((lp : Int) * q - p * lq) := by
   push_cast
   grind
  rw [e]; omega
 ·rcases l with l | ⟨l1, l2⟩
  ·omega
  ·subst l1
   rw [Nat.mul_zero]; omega
theorem CfS.off {num den p q lp lq a b : Nat} (h : CfS num den p q lp lq a b) : ((p : Int) * den - num * q).natAbs = b := by
 have e : (p : Int) * den - num * q = -(b : Int) * ((lp : Int) * q - p * lq) := by
  rw [← h.d, ← h.n]; push_cast; grind
 rcases h.det with d | d
 ·rw [e, d]; omega
 ·rw [e, d]; omega
theorem CfS.ok {num den most p q lp lq a b : Nat} (h : CfS num den p q lp lq a b) (hq : q ≤ most) : q ≤ most ∧ p ≤ q ∧ ((p : Int) * den - num * q).natAbs * lq ≤ den ∧ ((lp : Int) * q - p * lq).natAbs = 1 := by
 refine ⟨hq, h.pq, ?_, ?_⟩
 ·rw [h.off, ← h.d]; omega
 ·rcases h.det with d | d <;> rw [d] <;> rfl
theorem cf_l (N : Nat) {num den most : Nat} (hd : den ≤ 100000) (hn : num < den) (hm : most ≤ 100000) : ∀ (m b a p q lp lq : Nat) (out : List (List Int)), b < m → CfS num den p q lp lq a b → q ≤ most → out.length + b ≤ 1000000 →
  ∃ R, zq5.l2 N m most out p q lp lq a b = some (out ++ R.map row, true) ∧ zq107.l2 N m b a most lp lq p q (out ++ [row (p, q)]) = some (out ++ R.map row, true) ∧ Chain num den most lp lq R ∧ R.length ≤ b + 1 ∧ ∃ t, R = (p, q) :: t
 | m+1, b, a, p, q, lp, lq, out, hb, h, hq, ho => by
  have one : ∃ R : List (Nat × Nat), R = [(p, q)] ∧ Chain num den most lp lq R ∧ R.length ≤ b + 1 ∧ (∃ t, R = (p, q) :: t) ∧ out ++ R.map row = out ++ [row (p, q)] := ⟨_, rfl, ⟨h.ok hq, trivial⟩, by simp, ⟨_, rfl⟩, rfl⟩
  unfold zq5.l2 zq5.d2 zq5.o2 zq107.l2 zq107.d2 zq107.o2
  rw [dcT (show (q : Int) ≤ (most : Int) by omega), cT, blT (by simp; omega), cT]
  by_cases c : b = 0
  ·subst c
   obtain ⟨R, r1, r2, r3, r4, r5⟩ := one
   rw [ieqT (show ((0 : Nat) : Int) = 0 from rfl), cT, dcF (by omega), cF]
   exact ⟨R, by rw [r5]; rfl, by rw [r5]; rfl, r2, r3, r4⟩
  ·have hs := h.step (show 0 < b by omega)
   have hk : a / b ≤ a := Nat.div_le_self _ _
   have aq : a * q ≤ den := by have := h.d; omega
   have ap : a * p ≤ num := by have := h.n; omega
   have bq : b * lq ≤ den := by have := h.d; omega
   have bp : b * lp ≤ num := by have := h.n; omega
   have lqb : lq ≤ b * lq := Nat.le_mul_of_pos_left _ (by omega)
   have lpb : lp ≤ b * lp := Nat.le_mul_of_pos_left _ (by omega)
   have aa : a ≤ a * q := Nat.le_mul_of_pos_right _ h.q1
   have kq : a / b * q ≤ a * q := Nat.mul_le_mul_right _ hk
   have kp : a / b * p ≤ a * p := Nat.mul_le_mul_right _ hk
   have e1 : w64 (w64 (w64 (Int.tdiv (a : Int) (b : Int)) * (p : Int)) + (lp : Int)) = ((a / b * p + lp : Nat) : Int) := by
    rw [tdivN, w64n (by omega), ← Int.natCast_mul, w64n (by omega), ← Int.natCast_add, w64n (by omega)]
   have e2 : w64 (w64 (w64 (Int.tdiv (a : Int) (b : Int)) * (q : Int)) + (lq : Int)) = ((a / b * q + lq : Nat) : Int) := by
    rw [tdivN, w64n (by omega), ← Int.natCast_mul, w64n (by omega), ← Int.natCast_add, w64n (by omega)]
   have hlt : a % b < b := Nat.mod_lt _ (by omega)
   rw [ieqF (show ¬ (b : Int) = 0 by omega), cF, cF, cF, dcT (show (b : Int) > 0 by omega), cT, cF, cF, e1, e2, tmodN]
   by_cases c2 : a / b * q + lq ≤ most
   ·obtain ⟨R, r1, r2, r3, r4, r5⟩ := cf_l N hd hn hm m (a % b) b (a / b * p + lp) (a / b * q + lq) p q (out ++ [row (p, q)]) (by omega) hs c2 (by simp; omega)
    rw [dcF (show ¬ (((a / b * q + lq : Nat) : Int) > (most : Int)) by omega), cF, blT (by simp; omega), cT]
    refine ⟨(p, q) :: R, ?_, ?_, ⟨h.ok hq, r3⟩, by rw [List.length_cons]; omega, ⟨_, rfl⟩⟩
    ·rw [List.append_assoc] at r1
     exact r1
    ·have e9 : out ++ [row (p, q)] ++ R.map row = out ++ ((p, q) :: R).map row := by rw [List.append_assoc]; rfl
     rw [e9] at r2
     exact r2
   ·obtain ⟨R, r1, r2, r3, r4, r5⟩ := one
    rw [dcT (show (((a / b * q + lq : Nat) : Int) > (most : Int)) by omega), cT]
    refine ⟨R, ?_, by rw [r5]; rfl, r2, r3, r4⟩
    obtain ⟨m, rfl⟩ : ∃ j, m = j + 1 := ⟨m - 1, by omega⟩
    rw [r5]
    show zq5.d2 N most (out ++ [row (p, q)]) ((a / b * p + lp : Nat) : Int) ((a / b * q + lq : Nat) : Int) p q b ((a % b : Nat) : Int) _ = _
    unfold zq5.d2 zq5.o2
    rw [dcF (by omega), cF]; rfl
 | 0, _, _, _, _, _, _, _, hb, _, _, _ => by omega
theorem Best_eq {N : Nat} (hN : 1000000 < N) (a b c : Int) : ∃ r, zq5.g N a b c = some r ∧ zq107.g N a b c = some r ∧ (r = ([], false) ∨
  ∃ (num den most : Nat) (R : List (Nat × Nat)), a = num ∧ b = den ∧ c = most ∧ 1 ≤ num ∧ num < den ∧ den ≤ 100000 ∧ most ≤ 100000 ∧ r = (R.map row, true) ∧ Chain num den most 1 0 R ∧ R.length ≤ 200000 ∧ ∃ t, R = (0, 1) :: t) := by
 have fr := frac_eq N a b
 unfold zq5.g zq5.o0 zq107.g zq107.o0
 rw [fr.1, fr.2, oB, oB]
 cases hf : fracB a b with
 | false => exact ⟨_, rfl, rfl, .inl rfl⟩
 | true =>
  obtain ⟨num, den, rfl, rfl, f1, f2, f3⟩ := fracB_iff hf
  rw [nT, cF, cF, within_eq, l1In_eq, oB, oB]
  cases hc : inB c 1 100000 with
  | false => exact ⟨_, rfl, rfl, .inl rfl⟩
  | true =>
   have hc' := inB_iff.1 hc
   obtain ⟨most, rfl⟩ := Int.eq_ofNat_of_zero_le (show 0 ≤ c by omega)
   obtain ⟨R, r1, r2, r3, r4, r5⟩ := cf_l N f3 f2 (show most ≤ 100000 by omega) N num den 0 1 1 0 [] (by omega) ⟨by omega, by omega, by omega, .inl (by simp), by omega, .inr ⟨rfl, by omega⟩, f2⟩ (by omega) (by simp; omega)
   rw [nT]
   dsimp only
   unfold zq5.d1 zq5.o1 zq107.d1 zq107.o1
   rw [cF, cF]
   rw [List.nil_append] at r1 r2
   exact ⟨(R.map row, true), r1, r2, .inr ⟨num, den, most, R, rfl, rfl, rfl, f1, f2, f3, by omega, rfl, r3, by omega, r5⟩⟩
theorem Tell_eq {N : Nat} (hN : 10000000 ≤ N) (f g n d : Int) : ∃ r, zq35.g N f g n d = some r ∧ zq125.g N f g n d = some r ∧ (r = (⟨#[]⟩, false) ∨
  ∃ k a b : Nat, g = k ∧ n = a ∧ d = b ∧ Dial k a b ∧ r = (bsOf (timeL (a * k * 60) b), true)) := by
 unfold zq35.g zq35.o0 zq125.g zq125.o0
 rw [isDial_eq, diAsked_eq hN, oB, oB]
 unfold timeB
 cases h1 : inB f 2 24 with
 | false => exact ⟨_, rfl, rfl, .inl rfl⟩
 | true =>
  rw [nT, cF, Bool.true_and]
  cases h2 : turnB n d with
  | false =>
   have hb : timeB g n d = false := by unfold timeB; rw [h2, Bool.and_false]
   rw [(text_no hN hb).1]
   exact ⟨_, rfl, rfl, .inl rfl⟩
  | true =>
   rw [nT, cF]
   cases hb : timeB g n d with
   | false =>
    rw [(text_no hN hb).1, (text_no hN hb).2]
    exact ⟨_, rfl, rfl, .inl rfl⟩
   | true =>
    obtain ⟨k, a, b, rfl, k1, k2, rfl, rfl, ht⟩ := timeB_iff.1 hb
    rw [(text_yes hN ⟨k1, k2, ht⟩).1, (text_yes hN ⟨k1, k2, ht⟩).2.1]
    exact ⟨_, rfl, rfl, .inr ⟨k, a, b, rfl, rfl, rfl, ⟨k1, k2, ht⟩, rfl⟩⟩
theorem leaps4 (N : Nat) {y : Nat} (h : y ≤ 1000000) : zq22.g N 4 100 400 (y : Int) = some (((y / 4 : Nat) : Int) - ((y / 100 : Nat) : Int) + ((y / 400 : Nat) : Int)) := by
 unfold zq22.g zq22.o0 zq22.d1 zq22.o1 zq22.d2 zq22.o2
 dsimp only
 rw [ieqF (show ¬ (4 : Int) = 0 by omega), cF, dcT (show (100 : Int) > 0 by omega), cT, ieqF (show ¬ (100 : Int) = 0 by omega), cF, dcT (show (400 : Int) > 0 by omega), cT, ieqF (show ¬ (400 : Int) = 0 by omega), cF,
  show Int.tdiv (y : Int) 4 = ((y / 4 : Nat) : Int) from tdivN y 4, show Int.tdiv (y : Int) 100 = ((y / 100 : Nat) : Int) from tdivN y 100, show Int.tdiv (y : Int) 400 = ((y / 400 : Nat) : Int) from tdivN y 400,
  w64n (by omega), w64n (by omega), w64n (by omega), w64s (n := ((y / 4 : Nat) : Int) - ((y / 100 : Nat) : Int)) (by omega) (by omega), w64s (by omega) (by omega)]
def leapB (y : Nat) : Bool := y % 4 == 0 && (!(y % 100 == 0) || y % 400 == 0)
theorem Leap_eq {N : Nat} {y : Nat} (h : y ≤ 999999) : ∃ r, zq17.g N 4 100 400 (y : Int) = some r ∧ zq116.g N 4 100 400 (y : Int) = some r := by
 have hr : zq16.g N 4 100 400 = some true := rfl
 have hs : zq143.g N 4 100 400 = some true := rfl
 unfold zq17.g zq17.o0 zq116.g zq116.o0 zq144.g zq144.o0
 rw [hr, hs, oB, oB, nT, cF, cT, l1In_eq, oB, oB]
 unfold zq64.g zq64.o0
 rw [within_eq, oB, oB]
 cases hb : inB (y : Int) 1 1000000 with
 | false => exact ⟨_, rfl, rfl⟩
 | true =>
  have h1 := inB_iff.1 hb
  refine ⟨(leapB y, true), ?_, ?_⟩
  ·unfold zq17.d1 zq17.o1 zq21.g zq21.o0
   dsimp only
   rw [nT, cF, leaps4 N (by omega), oB, show w64 ((y : Int) - 1) = ((y - 1 : Nat) : Int) by rw [w64s (by omega) (by omega)]; omega, leaps4 N (by omega), oB, oB]
   refine congrArg (fun b => some (b, true)) ?_
   unfold leapB
   rw [Bool.eq_iff_iff]
   simp only [decide_eq_true_eq, Bool.and_eq_true, Bool.or_eq_true, Bool.not_eq_true', beq_iff_eq, beq_eq_false_iff_ne]
   have f4 : (y % 4 = 0 ∧ y / 4 = (y - 1) / 4 + 1) ∨ (y % 4 ≠ 0 ∧ y / 4 = (y - 1) / 4) := by omega
   have f100 : (y % 100 = 0 ∧ y / 100 = (y - 1) / 100 + 1) ∨ (y % 100 ≠ 0 ∧ y / 100 = (y - 1) / 100) := by omega
   have f400 : (y % 400 = 0 ∧ y / 400 = (y - 1) / 400 + 1) ∨ (y % 400 ≠ 0 ∧ y / 400 = (y - 1) / 400) := by omega
   have g1 : y % 100 = 0 → y % 4 = 0 := by omega
   have g2 : y % 400 = 0 → y % 100 = 0 := by omega
   clear hr hs hb h1 h
   generalize y / 4 = a at *
   generalize (y - 1) / 4 = a' at *
   generalize y / 100 = b at *
   generalize (y - 1) / 100 = b' at *
   generalize y / 400 = c at *
   generalize (y - 1) / 400 = c' at *
   generalize y % 4 = r at *
   generalize y % 100 = s at *
   generalize y % 400 = t at *
   show ((a : Int) - (b : Int) + (c : Int) > (a' : Int) - (b' : Int) + (c' : Int)) ↔ (r = 0 ∧ (s ≠ 0 ∨ t = 0))
   rcases f4 with ⟨e1, e2⟩ | ⟨e1, e2⟩ <;> rcases f100 with ⟨e3, e4⟩ | ⟨e3, e4⟩ <;> rcases f400 with ⟨e5, e6⟩ | ⟨e5, e6⟩ <;> constructor <;> intro hh <;> omega
  ·unfold zq142.g zq142.o0 zq142.d1 zq142.o1
   dsimp only
   rw [nT, cF, show Int.tmod (y : Int) 4 = ((y % 4 : Nat) : Int) from tmodN y 4, show Int.tmod (y : Int) 100 = ((y % 100 : Nat) : Int) from tmodN y 100, show Int.tmod (y : Int) 400 = ((y % 400 : Nat) : Int) from tmodN y 400,
    ieqF (show ¬ (4 : Int) = 0 by omega), cF, ieqF (show ¬ (100 : Int) = 0 by omega), cF, cF]
   unfold leapB
   by_cases c4 : y % 4 = 0
   ·rw [ineF (show ((y % 4 : Nat) : Int) = 0 by omega), cF, c4]
    by_cases c100 : y % 100 = 0
    ·rw [ineF (show ((y % 100 : Nat) : Int) = 0 by omega), cF, c100, ineT (show ¬ (400 : Int) = 0 by omega), cT, ieqF (show ¬ (400 : Int) = 0 by omega), cF]
     by_cases c400 : y % 400 = 0
     ·rw [ieqT (show ((y % 400 : Nat) : Int) = 0 by omega), c400]; rfl
     ·rw [ieqF (show ¬ ((y % 400 : Nat) : Int) = 0 by omega), oB]
      simp [c400]
    ·rw [ineT (show ¬ ((y % 100 : Nat) : Int) = 0 by omega), cT, oB]
     simp [c100]
   ·rw [ineT (show ¬ ((y % 4 : Nat) : Int) = 0 by omega), cT, oB]
    simp [c4]
theorem tmod_neg (m D : Nat) : Int.tmod (-(m : Int)) (D : Int) = -((m % D : Nat) : Int) := by rw [Int.neg_tmod, tmodN]
theorem part_negm (N m D : Nat) : zq67.g N (-(m : Int)) D = zq67.g N (-((m % D : Nat) : Int)) D := by
 have e1 := tmod_neg m D
 have e2 := tmod_neg (m % D) D
 rw [Nat.mod_mod] at e2
 unfold zq67.g zq67.o0 zq52.g zq52.o0 zq52.d1 zq52.o1
 rw [e1, e2]
 cases ((D : Int) == 0) <;> cases decide (-((m % D : Nat) : Int) < 0) <;> rfl
def prZ (z : Int) (D : Nat) : Nat × Nat := if 0 ≤ z then pr z.toNat D else pr (D - (-z).toNat % D) D
theorem prZ_rep (z : Int) {D : Nat} (hD : 0 < D) : ∃ (m : Nat) (k : Int), (m : Int) = z + k * D ∧ prZ z D = pr m D := by
 unfold prZ
 by_cases h : 0 ≤ z
 ·exact ⟨z.toNat, 0, by omega, by rw [if_pos h]⟩
 ·refine ⟨D - (-z).toNat % D, (((-z).toNat / D : Nat) : Int) + 1, ?_, by rw [if_neg h]⟩
  have h1 := Nat.mod_lt (-z).toNat hD
  have h2 := Nat.mod_add_div (-z).toNat D
  have h3 : (((-z).toNat % D + D * ((-z).toNat / D) : Nat) : Int) = ((-z).toNat : Int) := congrArg _ h2
  rw [Int.natCast_add, Int.natCast_mul] at h3
  rw [Int.natCast_sub (Nat.le_of_lt h1), Int.add_mul, Int.one_mul, Int.mul_comm]
  omega
theorem part_int {N D : Nat} {z : Int} (hN : D < N) (hD : 1 ≤ D) (h2 : D ≤ 1000000000000000) (hz : z ≤ 1000000000000000) : zq67.g N z D = some (((prZ z D).1 : Int), ((prZ z D).2 : Int)) := by
 unfold prZ
 by_cases h : 0 ≤ z
 ·obtain ⟨m, rfl⟩ := Int.eq_ofNat_of_zero_le h
  rw [if_pos h, tN]
  exact part_eq hN hD h2 (by omega)
 ·obtain ⟨m, hm⟩ := Int.eq_ofNat_of_zero_le (show 0 ≤ -z by omega)
  obtain rfl : z = -(m : Int) := by omega
  rw [if_neg h, Int.neg_neg, tN, part_negm]
  exact part_neg hN (Nat.mod_lt _ (by omega)) h2
theorem make_int {N D : Nat} {z : Int} (hN : D < N) (hD : 1 ≤ D) (h2 : D ≤ 1000000000000000) : zq151.g N z D = some (mkV (prZ z D)) := by
 unfold prZ
 by_cases h : 0 ≤ z
 ·obtain ⟨m, rfl⟩ := Int.eq_ofNat_of_zero_le h
  rw [if_pos h, tN]
  exact make_eq hN hD h2
 ·obtain ⟨m, hm⟩ := Int.eq_ofNat_of_zero_le (show 0 ≤ -z by omega)
  obtain rfl : z = -(m : Int) := by omega
  have hr := Nat.mod_lt m (show 0 < D by omega)
  rw [if_neg h, Int.neg_neg, tN, ← pr_mod]
  refine make_core hN (Nat.mod_lt _ (by omega)) h2 _ ?_
  rw [tmod_neg, show w64 (-((m % D : Nat) : Int) + (D : Int)) = ((D - m % D : Nat) : Int) by rw [w64s (by omega) (by omega)]; omega, tmodN]
theorem plus_gen {N a b e f : Nat} (hN : 1000000000000 < N) (h1 : a < b) (h2 : b ≤ 1000) (h3 : e < f) (h4 : f ≤ 10000000) : zq42.g N a b e f = some (((fadd (a, b) (e, f)).1 : Int), ((fadd (a, b) (e, f)).2 : Int)) := by
 have p1 : a * f ≤ 1000 * 10000000 := Nat.mul_le_mul (by omega) h4
 have p2 : e * b ≤ 10000000 * 1000 := Nat.mul_le_mul (by omega) h2
 have p3 : b * f ≤ 1000 * 10000000 := Nat.mul_le_mul h2 h4
 have p4 : 0 < b * f := Nat.mul_pos (by omega) (by omega)
 unfold zq42.g zq42.o0 fadd
 rw [← Int.natCast_mul, ← Int.natCast_mul, ← Int.natCast_mul, w64n (by omega), w64n (by omega), w64n (by omega), w2add (by omega), part_eq (by omega) (by omega) (by omega) (by omega)]; rfl
theorem ifTurn_pr {N n D : Nat} (hN : 10000000 ≤ N) (hD : 0 < D) : zq56.g N ((pr n D).1 : Int) ((pr n D).2 : Int) = some (mkV (pr n D)) := by
 unfold zq56.g zq56.o0
 rw [IsTurn_eq hN, turnB_pr hD, oB]
 unfold mkV
 by_cases c : (pr n D).2 ≤ 1000000
 ·rw [if_pos c, dcT c]; rfl
 ·rw [if_neg c, dcF c]; rfl
theorem shown_frac {a b D : Nat} {z : Int} (hL : Low (a, b)) (hD : 0 < D) : fadd (a, b) (prZ z D) = prZ (z * b + a * D) (D * b) := by
 have hb := hL.pos
 obtain ⟨m, k, h1, e1⟩ := prZ_rep z hD
 obtain ⟨n, l, h2, e2⟩ := prZ_rep (z * b + a * D) (Nat.mul_pos hD hb)
 rw [e1, e2]
 conv => lhs; arg 1; rw [← hL.eq]
 rw [fadd_pp hb hD]
 refine pr_congr (Nat.mul_pos hb hD) (Nat.mul_pos hD hb) (k - l) ?_
 rw [Int.natCast_mul] at h2
 simp only [Int.natCast_mul, Int.natCast_add, h1, h2]
 grind
structure Clk (a b c d : Nat) : Prop where
 t : Turn a b
 b3 : b ≤ 1000
 c1 : 1 ≤ c
 c2 : c ≤ 1000
 d1 : 1 ≤ d
 d2 : d ≤ 1000
 cop : Nat.gcd c d = 1
def coB (c d lo m k : Int) : Bool := inB c lo m && (inB d 1 k && (((Nat.gcd c.toNat d.toNat : Nat) : Int) == 1))
def clockB (a b c d : Int) : Bool := turnB a b && (decide (b ≤ 1000) && coB c d 1 1000 1000)
def spanB (c d : Int) : Bool := coB c d 0 1000000 10000
theorem clockB_iff {a b c d : Int} : clockB a b c d = true ↔ ∃ x y u v : Nat, a = x ∧ b = y ∧ c = u ∧ d = v ∧ Clk x y u v := by
 unfold clockB coB
 simp only [Bool.and_eq_true, turnB_iff, decide_eq_true_eq, inB_iff, beq_iff_eq]
 constructor
 ·rintro ⟨⟨x, y, rfl, rfl, T⟩, h1, h2, h3, h4⟩
  refine ⟨x, y, c.toNat, d.toNat, rfl, rfl, by omega, by omega, T, by omega, by omega, by omega, by omega, by omega, by omega⟩
 ·rintro ⟨x, y, u, v, rfl, rfl, rfl, rfl, T, h1, h2, h3, h4, h5, h6⟩
  simp only [tN]
  exact ⟨⟨x, y, rfl, rfl, T⟩, by omega, by omega, by omega, by omega⟩
theorem IsClock_eq {N : Nat} (hN : 10000000 ≤ N) (a b c d : Int) : zq14.g N a b c d = some (clockB a b c d) ∧ zq157.g N a b c d = some (clockB a b c d) := by
 unfold zq14.g zq14.o0 zq157.g zq157.o0 clockB coB
 rw [IsTurn_eq hN, diGood_eq hN, within_eq, within_eq, l1In_eq, l1In_eq]
 cases turnB a b with
 | false => exact ⟨rfl, rfl⟩
 | true =>
  by_cases h : b ≤ 1000
  ·rw [dcT h]
   cases h1 : inB c 1 1000 with
   | false => exact ⟨rfl, rfl⟩
   | true =>
    cases h2 : inB d 1 1000 with
    | false => exact ⟨rfl, rfl⟩
    | true =>
     obtain ⟨u, rfl⟩ := Int.eq_ofNat_of_zero_le (show 0 ≤ c by have := inB_iff.1 h1; omega)
     obtain ⟨v, rfl⟩ := Int.eq_ofNat_of_zero_le (show 0 ≤ d by have := inB_iff.1 h2; omega)
     have := inB_iff.1 h1; have := inB_iff.1 h2
     simp only [oB, cT, Bool.true_and, tN]
     rw [gcd_eq (by omega) (by omega) (by omega), common_eq (by omega) (by omega) (by omega)]
     exact ⟨rfl, rfl⟩
  ·rw [dcF h]; exact ⟨rfl, rfl⟩
theorem IsSpan_eq {N : Nat} (hN : 10000000 ≤ N) (c d : Int) : zq19.g N c d = some (spanB c d) ∧ zq159.g N c d = some (spanB c d) := by
 unfold zq19.g zq19.o0 zq159.g zq159.o0 spanB coB
 rw [within_eq, within_eq, l1In_eq, l1In_eq]
 cases h1 : inB c 0 1000000 with
 | false => exact ⟨rfl, rfl⟩
 | true =>
  cases h2 : inB d 1 10000 with
  | false => exact ⟨rfl, rfl⟩
  | true =>
   obtain ⟨u, rfl⟩ := Int.eq_ofNat_of_zero_le (show 0 ≤ c by have := inB_iff.1 h1; omega)
   obtain ⟨v, rfl⟩ := Int.eq_ofNat_of_zero_le (show 0 ≤ d by have := inB_iff.1 h2; omega)
   have := inB_iff.1 h1; have := inB_iff.1 h2
   simp only [oB, cT, Bool.true_and, tN]
   rw [gcd_eq (by omega) (by omega) (by omega), common_eq (by omega) (by omega) (by omega)]
   exact ⟨rfl, rfl⟩
theorem spanB_nat {c d : Int} (h : spanB c d = true) : ∃ x y : Nat, c = x ∧ d = y ∧ x ≤ 1000000 ∧ 1 ≤ y ∧ y ≤ 10000 := by
 unfold spanB coB at h
 simp only [Bool.and_eq_true, inB_iff] at h
 exact ⟨c.toNat, d.toNat, by omega, by omega, by omega, by omega, by omega⟩
theorem shown_core {N a b x y d : Nat} {w : Int} (hN : 1000000000000 < N) (T : Turn a b) (hb : b ≤ 1000) (hx : x ≤ 1000000) (hy1 : 1 ≤ y) (hy : y ≤ 10000) (hd1 : 1 ≤ d) (hd : d ≤ 1000) (hw1 : -1000 ≤ w) (hw2 : w ≤ 1000) :
  ((zq67.g N (w64 ((x : Int) * w)) (w64 ((y : Int) * (d : Int)))).bind fun r1 => (zq42.g N a b r1.1 r1.2).bind fun r2 => (zq56.g N r2.1 r2.2)) = some (mkV (prZ ((x : Int) * w * b + a * ((y * d : Nat) : Int)) (y * d * b))) ∧
  zq151.g N (w64 ((w64 ((w64 ((x : Int) * w)) * (b : Int))) + (w64 ((a : Int) * (w64 ((y : Int) * (d : Int))))))) (w64 ((w64 ((y : Int) * (d : Int))) * (b : Int))) = some (mkV (prZ ((x : Int) * w * b + a * ((y * d : Nat) : Int)) (y * d * b))) := by
 have h1 := T.lt
 have hL : Low (a, b) := T.low
 have p1 : y * d ≤ 10000 * 1000 := Nat.mul_le_mul hy hd
 have p2 : 0 < y * d := Nat.mul_pos hy1 hd1
 have p3 : y * d * b ≤ 10000 * 1000 * 1000 := Nat.mul_le_mul p1 hb
 have p4 : 0 < y * d * b := Nat.mul_pos p2 (by omega)
 have p5 : a * (y * d) ≤ 1000 * (10000 * 1000) := Nat.mul_le_mul (by omega) p1
 have hz : -1000000000 ≤ (x : Int) * w ∧ (x : Int) * w ≤ 1000000000 := by
  have q1 : (x : Int) * w ≤ (x : Int) * 1000 := Int.mul_le_mul_of_nonneg_left hw2 (by omega)
  have q2 : (x : Int) * (-1000) ≤ (x : Int) * w := Int.mul_le_mul_of_nonneg_left hw1 (by omega)
  omega
 generalize (x : Int) * w = z at *
 have hzb : -1000000000000 ≤ z * b ∧ z * b ≤ 1000000000000 := by
  have q1 : z * (b : Int) ≤ 1000000000 * (b : Int) := Int.mul_le_mul_of_nonneg_right hz.2 (by omega)
  have q2 : -1000000000 * (b : Int) ≤ z * (b : Int) := Int.mul_le_mul_of_nonneg_right hz.1 (by omega)
  omega
 rw [w64s (n := z) (by omega) (by omega), ← Int.natCast_mul, w64n (a := y * d) (by omega), ← Int.natCast_mul, w64n (a := a * (y * d)) (by omega), ← Int.natCast_mul, w64n (a := y * d * b) (by omega)]
 constructor
 ·rw [part_int (by omega) (by omega) (by omega) (by omega), oB]
  dsimp only
  have hf : (prZ z (y * d)).1 < (prZ z (y * d)).2 ∧ (prZ z (y * d)).2 ≤ 10000000 := by
   obtain ⟨m, k, _, e⟩ := prZ_rep z p2
   rw [e]
   have := pr_spec (n := m) p2
   omega
  have hs := shown_frac (z := z) hL p2
  rw [plus_gen hN h1 hb hf.1 hf.2, oB]
  dsimp only
  have hs' : fadd (a, b) ((prZ z (y * d)).1, (prZ z (y * d)).2) = prZ (z * b + a * ((y * d : Nat) : Int)) (y * d * b) := hs
  rw [hs', Int.natCast_mul a (y * d)]
  obtain ⟨m, k, _, e⟩ := prZ_rep (z * b + a * ((y * d : Nat) : Int)) p4
  rw [e]
  show zq56.g N ((pr m (y * d * b)).1 : Int) ((pr m (y * d * b)).2 : Int) = _
  exact ifTurn_pr (N := N) (by omega) p4
 ·rw [w64s (n := z * b) (by omega) (by omega), w64s (by omega) (by omega), Int.natCast_mul a]
  exact make_int (D := y * d * b) (by omega) (by omega) (by omega)
def shV (a b c d x y : Int) (l : Int) : Int × Int × Bool := if (clockB a b c d && spanB x y) = true then mkV (prZ (x * (c - l * d) * b + a * ((y.toNat * d.toNat : Nat) : Int)) (y.toNat * d.toNat * b.toNat)) else (0, 0, false)
theorem Shown_eq {N : Nat} (hN : 1000000000000 < N) (a b c d x y : Int) : zq33.g N a b c d x y = some (shV a b c d x y 0) ∧ zq123.g N a b c d x y = some (shV a b c d x y 0) := by
 unfold zq33.g zq33.o0 zq123.g zq123.o0 zq162.g zq162.o0 shV
 rw [(IsClock_eq (by omega) _ _ _ _).1, (IsClock_eq (by omega) _ _ _ _).2, oB, oB]
 cases hc : clockB a b c d with
 | false => exact ⟨rfl, rfl⟩
 | true =>
  rw [nT, cF, cT, (IsSpan_eq (by omega) _ _).1, (IsSpan_eq (by omega) _ _).2, oB, oB, oB]
  cases hs : spanB x y with
  | false => exact ⟨rfl, rfl⟩
  | true =>
   obtain ⟨a, b, c, d, rfl, rfl, rfl, rfl, K⟩ := clockB_iff.1 hc
   obtain ⟨x, y, rfl, rfl, x1, y1, y2⟩ := spanB_nat hs
   have hk := K.c1; have hk2 := K.c2
   obtain ⟨q1, q2⟩ := shown_core (x := x) (y := y) (d := d) (w := (c : Int)) hN K.t K.b3 x1 y1 y2 K.d1 K.d2 (by omega) (by omega)
   rw [Bool.and_self, if_pos rfl, nT, cF]
   simp only [tN, Int.zero_mul, Int.sub_zero]
   constructor
   ·unfold zq33.d1 zq33.o1 zq6.g zq6.o0
    rw [cF, ← q1]
    cases zq67.g N (w64 ((x : Int) * (c : Int))) (w64 ((y : Int) * (d : Int))) with
    | none => rfl
    | some r =>
     simp only [oB]
     cases zq42.g N a b r.1 r.2 with
     | none => rfl
     | some r2 =>
      simp only [oB]
      cases zq56.g N r2.1 r2.2 <;> rfl
   ·unfold zq161.g zq161.o0
    rw [show w64 ((c : Int) - w64 (0 * (d : Int))) = (c : Int) by rw [Int.zero_mul, w64s (n := 0) (by omega) (by omega), Int.sub_zero, w64s (by omega) (by omega)], q2]
    rfl
theorem Ahead_eq {N : Nat} (hN : 1000000000000 < N) (a b c d x y : Int) : zq3.g N a b c d x y = some (shV a b c d x y 1) ∧ zq105.g N a b c d x y = some (shV a b c d x y 1) := by
 unfold zq3.g zq3.o0 zq105.g zq105.o0 zq162.g zq162.o0 shV
 rw [(IsClock_eq (by omega) _ _ _ _).1, (IsClock_eq (by omega) _ _ _ _).2, oB, oB]
 cases hc : clockB a b c d with
 | false => exact ⟨rfl, rfl⟩
 | true =>
  rw [nT, cF, cT, (IsSpan_eq (by omega) _ _).1, (IsSpan_eq (by omega) _ _).2, oB, oB, oB]
  cases hs : spanB x y with
  | false => exact ⟨rfl, rfl⟩
  | true =>
   obtain ⟨a, b, c, d, rfl, rfl, rfl, rfl, K⟩ := clockB_iff.1 hc
   obtain ⟨x, y, rfl, rfl, x1, y1, y2⟩ := spanB_nat hs
   have hk := K.c1; have hk2 := K.c2; have hk3 := K.d1; have hk4 := K.d2
   obtain ⟨q1, q2⟩ := shown_core (x := x) (y := y) (d := d) (w := (c : Int) - (d : Int)) hN K.t K.b3 x1 y1 y2 K.d1 K.d2 (by omega) (by omega)
   have ew : w64 ((c : Int) - (d : Int)) = (c : Int) - (d : Int) := w64s (by omega) (by omega)
   rw [Bool.and_self, if_pos rfl, nT, cF]
   simp only [tN, Int.one_mul]
   constructor
   ·unfold zq3.d1 zq3.o1
    rw [cF, ew, ← q1]
    cases zq67.g N (w64 ((x : Int) * ((c : Int) - (d : Int)))) (w64 ((y : Int) * (d : Int))) with
    | none => rfl
    | some r =>
     simp only [oB]
     cases zq42.g N a b r.1 r.2 with
     | none => rfl
     | some r2 =>
      simp only [oB]
      cases zq56.g N r2.1 r2.2 <;> rfl
   ·unfold zq161.g zq161.o0
    rw [show w64 ((c : Int) - w64 (1 * (d : Int))) = (c : Int) - (d : Int) by rw [Int.one_mul, w64s (n := (d : Int)) (by omega) (by omega), ew], q2]
    rfl
def SpR (r : Int × Int × Bool) : Prop := r = (0, 0, false) ∨ ∃ p q : Nat, r = ((p : Int), (q : Int), true) ∧ p ≤ 1000000 ∧ q ≤ 10000
theorem span_make {N n d : Nat} (hN : d < N) (hN2 : 10000000 ≤ N) (hd : 1 ≤ d) (hd2 : d ≤ 1000000000000) (hn : n ≤ 1000000000000) : ∃ r, zq73.g N n d = some r ∧ zq160.g N n d = some r ∧ SpR r := by
 have hp : 0 < Nat.gcd n d := Nat.gcd_pos_of_pos_right _ (by omega)
 have e1 : n / Nat.gcd n d ≤ n := Nat.div_le_self _ _
 have e2 : d / Nat.gcd n d ≤ d := Nat.div_le_self _ _
 unfold zq73.g zq73.o0 zq160.g zq160.o0
 rw [gcd_eq hN (by omega) (by omega), common_eq hN (by omega) (by omega), oB, oB, ieqF (by omega), cF, cF, cF, cF, tdivN, tdivN, w64n (by omega), w64n (by omega), (IsSpan_eq hN2 _ _).1, (IsSpan_eq hN2 _ _).2]
 simp only [oB]
 cases hs : spanB ((n / Nat.gcd n d : Nat) : Int) ((d / Nat.gcd n d : Nat) : Int) with
 | false => exact ⟨_, rfl, rfl, .inl rfl⟩
 | true =>
  obtain ⟨x, y, h1, h2, h3, h4, h5⟩ := spanB_nat hs
  exact ⟨_, rfl, rfl, .inr ⟨_, _, rfl, by omega, by omega⟩⟩
theorem abs_i {z : Int} (h1 : -1000 ≤ z) (h2 : z ≤ 1000) : (if w64 (0 - z) > z then w64 (0 - z) else z) = (z.natAbs : Int) := by
 rw [w64s (by omega) (by omega)]
 split <;> omega
theorem abs_s {N : Nat} {z : Int} (h1 : -1000 ≤ z) (h2 : z ≤ 1000) : zq163.g N z = some (z.natAbs : Int) := by
 unfold zq163.g zq163.o0 zq174.g zq174.o0
 rw [w64s (by omega) (by omega)]
 by_cases h : z > 0 - z
 ·rw [dcT h]
  exact congrArg some (show (z : Int) = (z.natAbs : Int) by omega)
 ·rw [dcF h]
  exact congrArg some (show (0 - z : Int) = (z.natAbs : Int) by omega)
theorem T01 : Turn 0 1 := ⟨by omega, by omega, by decide⟩
theorem right_ok {N : Nat} (hN : 10000000 ≤ N) : zq14.g N 0 1 1 1 = some true := by
 rw [(IsClock_eq hN _ _ _ _).1]; rfl
theorem gain_right (N : Nat) {a b c d : Nat} (K : Clk a b c d) : zq54.g N a b c d 0 1 1 1 = some ((c : Int) - (d : Int), (d : Int)) := by
 have := K.c1; have := K.c2; have := K.d1; have := K.d2
 unfold zq54.g zq54.o0
 rw [Int.mul_one, Int.one_mul, Int.mul_one, w64n (by omega), w64n (by omega), w64s (by omega) (by omega)]
theorem Clk.b {a b c d : Nat} (K : Clk a b c d) : clockB a b c d = true := clockB_iff.2 ⟨a, b, c, d, rfl, rfl, rfl, rfl, K⟩
theorem Every_eq {N : Nat} (hN : 1000000000000 < N) {a b c d : Nat} (K : Clk a b c d) : ∃ r, zq29.g N a b c d = some r ∧ zq121.g N a b c d = some r ∧ SpR r := by
 have := K.c1; have := K.c2; have := K.d1; have := K.d2
 have ew : w64 ((c : Int) - (d : Int)) = (c : Int) - (d : Int) := w64s (by omega) (by omega)
 unfold zq29.g zq29.o0 zq121.g zq121.o0 zq70.g zq70.o0 zq50.g zq50.o0 zq50.d1 zq50.o1 zq121.d1 zq121.o1
 simp only [oB]
 rw [gain_right N K, (IsClock_eq (by omega) _ _ _ _).1, (IsClock_eq (by omega) _ _ _ _).2, K.b, right_ok (by omega)]
 simp only [oB, nT, cF]
 by_cases h : c = d
 ·rw [ieqT (show (c : Int) - (d : Int) = 0 by omega), ieqT (show (c : Int) = (d : Int) by omega)]
  exact ⟨_, rfl, rfl, .inl rfl⟩
 ·rw [ieqF (show ¬ (c : Int) - (d : Int) = 0 by omega), ieqF (show ¬ (c : Int) = (d : Int) by omega), cF, cF, abs_i (by omega) (by omega), ew, abs_s (by omega) (by omega)]
  obtain ⟨r, e1, e2, e3⟩ := span_make (N := N) (n := d) (d := ((c : Int) - (d : Int)).natAbs) (by omega) (by omega) (by omega) (by omega) (by omega)
  rw [e1]
  simp only [oB]
  rw [e2]
  exact ⟨r, rfl, rfl, e3⟩
theorem minus0 {N a b : Nat} (hN : 1000000000000 < N) (T : Turn a b) : zq40.g N a b 0 1 = some ((a : Int), (b : Int)) := by
 have h := minus_eq hN T T01
 have e : fsub (a, b) (0, 1) = (a, b) := by
  unfold fsub
  dsimp only
  rw [Nat.mul_one, Nat.mul_one, Nat.zero_mul, Nat.sub_zero, show a + b = a + 1 * b by omega, pr_add, pr_low T.lt T.cop]
 rw [e] at h
 exact h
theorem mir_at {a b : Nat} (T : Turn a b) (h : 0 < a) : pr (b - a) b = (b - a, b) := by
 have hl := T.lt
 refine pr_low (by omega) ?_
 have hc := T.cop
 clear T
 obtain ⟨k, rfl⟩ : ∃ k, b = k + a := ⟨b - a, by omega⟩
 rw [Nat.add_sub_cancel, Nat.gcd_self_add_right, Nat.gcd_comm]
 rwa [Nat.gcd_add_self_right] at hc
theorem First_eq {N : Nat} (hN : 1000000000000 < N) {a b c d : Nat} (K : Clk a b c d) : ∃ r, zq13.g N a b c d = some r ∧ zq115.g N a b c d = some r ∧ SpR r := by
 have := K.c1; have := K.c2; have := K.d1; have := K.d2; have := K.b3; have hlt := K.t.lt
 have ew : w64 ((c : Int) - (d : Int)) = (c : Int) - (d : Int) := w64s (by omega) (by omega)
 have hgo : ∀ w e : Nat, w ≤ 1000 → 1 ≤ e → e ≤ 1000 → c ≠ d → ∃ r, zq51.d3 N ((c : Int) - (d : Int)) (d : Int) 0 0 (w : Int) (e : Int) = some r ∧ ∀ x y z : Int, zq158.d3 N ((c : Int) - (d : Int)) (d : Int) (w : Int) x (e : Int) y z = some r ∧ SpR r := by
  intro w e hw he1 he2 hcd
  have p1 : w * d ≤ 1000 * 1000 := Nat.mul_le_mul hw K.d2
  have hab : ((c : Int) - (d : Int)).natAbs ≤ 1000 := by omega
  have p2 : e * ((c : Int) - (d : Int)).natAbs ≤ 1000 * 1000 := Nat.mul_le_mul he2 hab
  have p3 : 0 < e * ((c : Int) - (d : Int)).natAbs := Nat.mul_pos he1 (by omega)
  obtain ⟨r, e1, e2, e3⟩ := span_make (N := N) (n := w * d) (d := e * ((c : Int) - (d : Int)).natAbs) (by omega) (by omega) (by omega) (by omega) (by omega)
  refine ⟨r, ?_, fun x y z => ⟨?_, e3⟩⟩
  ·unfold zq51.d3 zq51.o3
   rw [abs_i (by omega) (by omega), ← Int.natCast_mul, ← Int.natCast_mul, w64n (by omega), w64n (by omega), e1]; rfl
  ·unfold zq158.d3 zq158.o3
   rw [abs_s (by omega) (by omega), oB, ← Int.natCast_mul, ← Int.natCast_mul, w64n (by omega), w64n (by omega), e2]; rfl
 unfold zq13.g zq13.o0 zq115.g zq115.o0 zq70.g zq70.o0 zq51.g zq51.o0 zq158.g zq158.o0
 simp only [oB]
 rw [gain_right N K, (IsClock_eq (by omega) _ _ _ _).1, (IsClock_eq (by omega) _ _ _ _).2, K.b, right_ok (by omega), ew]
 simp only [oB, nT, cF]
 have hn : ∀ q : Bool, (bif q then zq158.d1 N ((c : Int) - (d : Int)) (d : Int) false (a : Int) (b : Int) 0 0 else zq158.d1 N ((c : Int) - (d : Int)) (d : Int) false (a : Int) (b : Int) 0 0) = zq158.d1 N ((c : Int) - (d : Int)) (d : Int) false (a : Int) (b : Int) 0 0 := fun q => by cases q <;> rfl
 rw [hn]
 unfold zq51.d1 zq51.o1 zq158.d1 zq158.o1
 rw [cF]
 by_cases h : c = d
 ·rw [ieqT (show (c : Int) - (d : Int) = 0 by omega)]
  exact ⟨_, rfl, rfl, .inl rfl⟩
 ·rw [ieqF (show ¬ (c : Int) - (d : Int) = 0 by omega), cF, cF, minus0 hN K.t, oB]
  dsimp only
  by_cases ha : a = 0
  ·subst ha
   have hb1 : b = 1 := by have := K.t.cop; rwa [Nat.gcd_zero_left] at this
   subst hb1
   obtain ⟨r, e1, e2⟩ := hgo 1 1 (by omega) (by omega) (by omega) h
   refine ⟨r, ?_, ?_, (e2 0 0 0).2⟩
   ·by_cases hp : (c : Int) - (d : Int) > 0
    ·rw [dcT hp, cT, (mirror_eq (N := N) (by omega) K.t).1, oB]
     unfold zq51.d2 zq51.o2
     rw [show pr (1 - 0) 1 = (0, 1) by decide]
     dsimp only
     rw [ieqT (show ((0 : Nat) : Int) = 0 from rfl), cT]
     (try dsimp only); rw [show (1 : Int) = ((1 : Nat) : Int) from rfl, e1]; rfl
    ·rw [dcF hp, cF]
     unfold zq51.d2 zq51.o2
     rw [ieqT (show ((0 : Nat) : Int) = 0 from rfl), cT]
     (try dsimp only); rw [show (1 : Int) = ((1 : Nat) : Int) from rfl, e1]; rfl
   ·have ew1 : w64 (((1 : Nat) : Int) - ((0 : Nat) : Int)) = ((1 : Nat) : Int) := by rw [w64s (by omega) (by omega)]; omega
    by_cases hp : (c : Int) - (d : Int) > 0
    ·rw [dcT hp, cT]
     unfold zq158.d2 zq158.o2
     rw [cT, ew1]; (try dsimp only); rw [(e2 _ _ _).1]; rfl
    ·rw [dcF hp, cF]
     unfold zq158.d2 zq158.o2
     rw [ieqT (show ((0 : Nat) : Int) = 0 from rfl), cT, ew1]; (try dsimp only); rw [(e2 _ _ _).1]; rfl
  ·by_cases hp : (c : Int) - (d : Int) > 0
   ·obtain ⟨r, e1, e2⟩ := hgo (b - a) b (by omega) (by omega) (by omega) h
    refine ⟨r, ?_, ?_, (e2 0 0 0).2⟩
    ·rw [dcT hp, cT, (mirror_eq (N := N) (by omega) K.t).1, oB, mir_at K.t (by omega)]
     unfold zq51.d2 zq51.o2
     dsimp only
     rw [ieqF (show ¬ ((b - a : Nat) : Int) = 0 by omega), cF]; (try dsimp only); rw [e1]; rfl
    ·rw [dcT hp, cT]
     unfold zq158.d2 zq158.o2
     rw [cT, show w64 ((b : Int) - (a : Int)) = ((b - a : Nat) : Int) by rw [w64s (by omega) (by omega)]; omega]; (try dsimp only); rw [(e2 _ _ _).1]; rfl
   ·obtain ⟨r, e1, e2⟩ := hgo a b (by omega) (by omega) (by omega) h
    refine ⟨r, ?_, ?_, (e2 0 0 0).2⟩
    ·rw [dcF hp, cF]
     unfold zq51.d2 zq51.o2
     rw [ieqF (show ¬ ((a : Nat) : Int) = 0 by omega), cF]; (try dsimp only); rw [e1]; rfl
    ·rw [dcF hp, cF]
     unfold zq158.d2 zq158.o2
     rw [ieqF (show ¬ ((a : Nat) : Int) = 0 by omega), cF]; (try dsimp only); rw [(e2 _ _ _).1]; rfl
noncomputable def spec_ParseTime.o0 (N : Nat) (a0 : Int) (a1 : ByteArray) : Option (Int × Int × Bool) :=
 (zq150.g N a0).bind fun r1 =>
 bif (!r1) then
 some (0, 0, false)
 else
 (zq153.g N a0 a1).bind fun r2 =>
 some (r2.1, r2.2.1, r2.2.2)
noncomputable def spec_ParseTime.g (N : Nat) (a0 : Int) (a1 : ByteArray) : Option (Int × Int × Bool) := spec_ParseTime.o0 N a0 a1
abbrev no3 : Option (Int × Int × Bool) := some (0, 0, false)
def isD (c : UInt8) : Prop := 48 ≤ c.toNat ∧ c.toNat ≤ 57
theorem bt_get {s : ByteArray} {l : List UInt8} (h : s.data.toList = l) {i : Nat} {c : UInt8} (hc : l[i]? = some c) : bt s (i : Int) = (c.toNat : Int) := by
 obtain ⟨h1, h2⟩ := List.getElem?_eq_some_iff.1 hc
 subst h
 rw [bt_at s i h1, h2]
theorem digW {c : UInt8} (h : isD c) : w64 ((IntKind.wrap .u8) ((c.toNat : Int) - 48)) = ((c.toNat - 48 : Nat) : Int) := by
 rw [wrap8 (by have := h.1; omega) (by have := h.2; omega), w64s (by have := h.1; omega) (by have := h.2; omega)]
 have := h.1; omega
theorem step0 {N m : Nat} {h a b : Int} {s : ByteArray} {c : UInt8} (hs : 0 < s.size) (hc : bt s 0 = (c.toNat : Int)) :
  (isD c → zq153.l2 N (m + 1) h s 0 a b = zq153.l6 N m h s [((10 * (c.toNat - 48) : Nat) : Int)] 1 a b) ∧ (¬ isD c → zq153.l2 N (m + 1) h s 0 a b = no3) := by
 have e1 : zq153.l2 N (m + 1) h s 0 a b = (bif (decide (((c.toNat : Int)) < 48)) then zq153.d4 N h s 0 true a b (fun w0 w1 w2 w3 w4 w5 => zq153.l6 N m w0 w1 w2 w3 w4 w5) else zq153.d4 N h s 0 (decide ((c.toNat : Int) > 57)) a b (fun w0 w1 w2 w3 w4 w5 => zq153.l6 N m w0 w1 w2 w3 w4 w5)) := by
  show zq153.d2 N h s 0 a b _ _ = _
  unfold zq153.d2 zq153.o2
  rw [dcT (by omega), cT, ieqF (by decide), cF, dcT (by omega), cT, dcT (show (0 : Int) < (s.size : Int) by omega), cT, cT, cT, hc]
 constructor
 ·intro hd
  have h1 := hd.1; have h2 := hd.2
  rw [e1, dcF (by omega), cF, dcF (by omega)]
  unfold zq153.d4 zq153.o4 zq153.d5 zq153.o5
  rw [cF, ieqT (by decide), cT, dcT (by omega), cT, dcT (show (0 : Int) < (s.size : Int) by omega), cT, blT (by simp), cT, hc, digW hd]
  rw [show w64 (10 * ((c.toNat - 48 : Nat) : Int)) = ((10 * (c.toNat - 48) : Nat) : Int) by rw [w64s (by omega) (by omega)]; omega]
  rfl
 ·intro hd
  rw [e1]
  by_cases c1 : (c.toNat : Int) < 48
  ·rw [dcT c1, cT]; rfl
  ·rw [dcF c1, cF, dcT (show (c.toNat : Int) > 57 by unfold isD at hd; omega)]; rfl
theorem stepC {N m i : Nat} {h a b : Int} {s : ByteArray} {v : List Int} {c : UInt8} (hi : i < 8) (h3 : i % 3 = 2) (hs : i < s.size) (hc : bt s (i : Int) = (c.toNat : Int)) :
  (c = 58 → zq153.l6 N (m + 1) h s v i a b = zq153.l6 N m h s v ((i + 1 : Nat) : Int) a b) ∧ (c ≠ 58 → zq153.l6 N (m + 1) h s v i a b = no3) := by
 have e1 : zq153.l6 N (m + 1) h s v i a b = (bif ((c.toNat : Int) != 58) then no3 else zq153.l6 N m h s v ((i + 1 : Nat) : Int) a b) := by
  show zq153.d6 N h s v i a b _ = _
  unfold zq153.d6 zq153.o6 zq153.d5 zq153.o5
  rw [dcT (by omega), cT, show (3 : Int) = ((3 : Nat) : Int) from rfl, tmodN, h3, ieqT (show ((2 : Nat) : Int) = 2 from rfl), cT, dcT (by omega), cT, dcT (show (i : Int) < (s.size : Int) by omega), cT, hc]
  dsimp only
  rw [w1add (by omega)]
 constructor
 ·intro e
  subst e
  rw [e1, ineF (by decide)]; rfl
 ·intro e
  rw [e1, ineT (fun hh => e (UInt8.toNat_inj.1 (by show c.toNat = 58; omega)))]; rfl
theorem stepT {N m i : Nat} {h a b : Int} {s : ByteArray} {v : List Int} {c : UInt8} (hi : i < 8) (h3 : i % 3 = 0) (hv : v.length ≤ 3) (hs : i < s.size) (hc : bt s (i : Int) = (c.toNat : Int)) :
  (isD c → zq153.l6 N (m + 1) h s v i a b = zq153.l6 N m h s (v ++ [((10 * (c.toNat - 48) : Nat) : Int)]) ((i + 1 : Nat) : Int) a b) ∧ (¬ isD c → zq153.l6 N (m + 1) h s v i a b = no3) := by
 have e1 : zq153.l6 N (m + 1) h s v i a b = (bif (decide (((c.toNat : Int)) < 48)) then zq153.d7 N h s v i true a b (fun w0 w1 w2 w3 w4 w5 => zq153.l6 N m w0 w1 w2 w3 w4 w5) else zq153.d7 N h s v i (decide ((c.toNat : Int) > 57)) a b (fun w0 w1 w2 w3 w4 w5 => zq153.l6 N m w0 w1 w2 w3 w4 w5)) := by
  show zq153.d6 N h s v i a b _ = _
  unfold zq153.d6 zq153.o6
  rw [dcT (by omega), cT, show (3 : Int) = ((3 : Nat) : Int) from rfl, tmodN, h3, ieqF (by decide), cF, dcT (by omega), cT, dcT (show (i : Int) < (s.size : Int) by omega), cT, cT, cT, hc]
 constructor
 ·intro hd
  have h1 := hd.1; have h2 := hd.2
  rw [e1, dcF (by omega), cF, dcF (by omega)]
  unfold zq153.d7 zq153.o7 zq153.d5 zq153.o5
  rw [cF, show (3 : Int) = ((3 : Nat) : Int) from rfl, tmodN, h3, ieqT (show ((0 : Nat) : Int) = 0 from rfl), cT, dcT (by omega), cT, dcT (show (i : Int) < (s.size : Int) by omega), cT, blT (by simp; omega), cT, hc, digW hd]
  rw [show w64 (10 * ((c.toNat - 48 : Nat) : Int)) = ((10 * (c.toNat - 48) : Nat) : Int) by rw [w64s (by omega) (by omega)]; omega]
  dsimp only
  rw [w1add (by omega)]
 ·intro hd
  rw [e1]
  by_cases c1 : (c.toNat : Int) < 48
  ·rw [dcT c1, cT]; rfl
  ·rw [dcF c1, cF, dcT (show (c.toNat : Int) > 57 by unfold isD at hd; omega)]; rfl
theorem stepU {N m i x : Nat} {h a b : Int} {s : ByteArray} {v : List Int} {c : UInt8} (hi : i < 8) (h3 : i % 3 = 1) (hv : v.length ≤ 3) (hx : x ≤ 1000) (hs : i < s.size) (hc : bt s (i : Int) = (c.toNat : Int)) :
  (isD c → zq153.l6 N (m + 1) h s (v ++ [(x : Int)]) i a b = zq153.l6 N m h s (v ++ [((x + (c.toNat - 48) : Nat) : Int)]) ((i + 1 : Nat) : Int) a b) ∧ (¬ isD c → zq153.l6 N (m + 1) h s (v ++ [(x : Int)]) i a b = no3) := by
 have e1 : zq153.l6 N (m + 1) h s (v ++ [(x : Int)]) i a b = (bif (decide (((c.toNat : Int)) < 48)) then zq153.d7 N h s (v ++ [(x : Int)]) i true a b (fun w0 w1 w2 w3 w4 w5 => zq153.l6 N m w0 w1 w2 w3 w4 w5) else zq153.d7 N h s (v ++ [(x : Int)]) i (decide ((c.toNat : Int) > 57)) a b (fun w0 w1 w2 w3 w4 w5 => zq153.l6 N m w0 w1 w2 w3 w4 w5)) := by
  show zq153.d6 N h s (v ++ [(x : Int)]) i a b _ = _
  unfold zq153.d6 zq153.o6
  rw [dcT (by omega), cT, show (3 : Int) = ((3 : Nat) : Int) from rfl, tmodN, h3, ieqF (by decide), cF, dcT (by omega), cT, dcT (show (i : Int) < (s.size : Int) by omega), cT, cT, cT, hc]
 constructor
 ·intro hd
  have h1 := hd.1; have h2 := hd.2
  have hlen : (v ++ [(x : Int)]).length = v.length + 1 := by simp
  have hw : w64 ((((v ++ [(x : Int)]).length : Nat) : Int) - 1) = (v.length : Int) := by rw [hlen, w64s (by omega) (by omega)]; omega
  have hg : (v ++ [(x : Int)])[v.length]? = some (x : Int) := by rw [List.getElem?_append_right (by omega), Nat.sub_self]; rfl
  rw [e1, dcF (by omega), cF, dcF (by omega)]
  unfold zq153.d7 zq153.o7 zq153.d5 zq153.o5
  rw [cF, show (3 : Int) = ((3 : Nat) : Int) from rfl, tmodN, h3, ieqF (by decide), cF, blT (by omega), cT, hw, dcT (by omega), cT, dcT (show (v.length : Int) < ((v ++ [(x : Int)]).length : Int) by omega), cT, tN, hg, oB, dcT (show (0 : Int) ≤ (i : Int) by omega), cT, dcT (show (i : Int) < (s.size : Int) by omega), cT, cT, cT, oB, Nat.ble_eq_true_of_le (by rw [List.length_set]; exact Nat.le_refl _), cT, hc, digW hd]
  rw [show w64 ((x : Int) + ((c.toNat - 48 : Nat) : Int)) = ((x + (c.toNat - 48) : Nat) : Int) by rw [w64s (by omega) (by omega)]; omega]
  dsimp only
  rw [w1add (by omega)]
  have e2 : ((v ++ [(x : Int)]).set v.length ((x + (c.toNat - 48) : Nat) : Int)).take (v ++ [(x : Int)]).length = v ++ [((x + (c.toNat - 48) : Nat) : Int)] := by
   rw [List.take_of_length_le (by rw [List.length_set]; exact Nat.le_refl _), List.set_append_right _ _ (Nat.le_refl _), Nat.sub_self]; rfl
  rw [e2]
 ·intro hd
  rw [e1]
  by_cases c1 : (c.toNat : Int) < 48
  ·rw [dcT c1, cT]; rfl
  ·rw [dcF c1, cF, dcT (show (c.toNat : Int) > 57 by unfold isD at hd; omega)]; rfl
def nn (c e : UInt8) : Nat := 10 * (c.toNat - 48) + (e.toNat - 48)
theorem stepE {N m x y z : Nat} {h a b : Int} {s : ByteArray} : zq153.l6 N (m + 1) h s [(x : Int), (y : Int), (z : Int)] 8 a b = if (x : Int) < h ∧ y ≤ 59 ∧ z ≤ 59 then zq153.d8 N h s [(x : Int), (y : Int), (z : Int)] false a b else no3 := by
 show zq153.d6 N h s _ 8 a b _ = _
 unfold zq153.d6 zq153.o6
 rw [dcF (by decide), cF, dcT (show (0 : Int) < (([(x : Int), (y : Int), (z : Int)] : List Int).length : Int) by simp), cT, show ([(x : Int), (y : Int), (z : Int)] : List Int)[(0 : Int).toNat]? = some (x : Int) from rfl, oB, dcT (show (1 : Int) < (([(x : Int), (y : Int), (z : Int)] : List Int).length : Int) by simp), cT, show ([(x : Int), (y : Int), (z : Int)] : List Int)[(1 : Int).toNat]? = some (y : Int) from rfl, oB, dcT (show (2 : Int) < (([(x : Int), (y : Int), (z : Int)] : List Int).length : Int) by simp), cT, show ([(x : Int), (y : Int), (z : Int)] : List Int)[(2 : Int).toNat]? = some (z : Int) from rfl, oB]
 by_cases c1 : (x : Int) < h
 ·rw [dcF (show ¬ (x : Int) ≥ h by omega), cF]
  by_cases c2 : y ≤ 59
  ·rw [dcF (show ¬ (y : Int) > 59 by omega), cF]
   by_cases c3 : z ≤ 59
   ·rw [dcF (show ¬ (z : Int) > 59 by omega), if_pos ⟨c1, c2, c3⟩]
   ·rw [dcT (show (z : Int) > 59 by omega), if_neg (fun hh => c3 hh.2.2)]; rfl
  ·rw [dcT (show (y : Int) > 59 by omega), cT, if_neg (fun hh => c2 hh.2.1)]; rfl
 ·rw [dcT (show (x : Int) ≥ h by omega), cT, if_neg (fun hh => c1 hh.1)]; rfl
structure Form (c0 c1 c2 c3 c4 c5 c6 c7 : UInt8) : Prop where
 a0 : isD c0
 a1 : isD c1
 a2 : c2 = 58
 a3 : isD c3
 a4 : isD c4
 a5 : c5 = 58
 a6 : isD c6
 a7 : isD c7
theorem heads {N : Nat} (hN : 100 ≤ N) {h a b : Int} {s : ByteArray} {c0 c1 c2 c3 c4 c5 c6 c7 : UInt8} {r : List UInt8} (hl : s.data.toList = c0 :: c1 :: c2 :: c3 :: c4 :: c5 :: c6 :: c7 :: r) :
  (Form c0 c1 c2 c3 c4 c5 c6 c7 → zq153.l2 N N h s 0 a b = if (nn c0 c1 : Int) < h ∧ nn c3 c4 ≤ 59 ∧ nn c6 c7 ≤ 59 then zq153.d8 N h s [(nn c0 c1 : Int), (nn c3 c4 : Int), (nn c6 c7 : Int)] false a b else no3) ∧
  (¬ Form c0 c1 c2 c3 c4 c5 c6 c7 → zq153.l2 N N h s 0 a b = no3) := by
 have hsz : s.data.toList.length = s.size := Array.length_toList
 have h8 : 8 ≤ s.size := by rw [← hsz, hl]; simp
 obtain ⟨m, hm⟩ : ∃ m, N = m + 9 := ⟨N - 9, by omega⟩
 have e0 : zq153.l2 N N h s 0 a b = zq153.l2 N (m + 9) h s 0 a b := by rw [← hm]
 have b0 := bt_get hl (i := 0) (c := c0) rfl
 have b1 := bt_get hl (i := 1) (c := c1) rfl
 have b2 := bt_get hl (i := 2) (c := c2) rfl
 have b3 := bt_get hl (i := 3) (c := c3) rfl
 have b4 := bt_get hl (i := 4) (c := c4) rfl
 have b5 := bt_get hl (i := 5) (c := c5) rfl
 have b6 := bt_get hl (i := 6) (c := c6) rfl
 have b7 := bt_get hl (i := 7) (c := c7) rfl
 have q : ∀ {c : UInt8}, isD c → 10 * (c.toNat - 48) ≤ 1000 := fun hc => by have := hc.2; omega
 have s0 := step0 (N := N) (m := m + 8) (h := h) (a := a) (b := b) (by omega) b0
 rw [e0]
 by_cases f0 : isD c0
 case neg => exact ⟨fun F => absurd F.a0 f0, fun _ => s0.2 f0⟩
 rw [s0.1 f0]
 have s1 := stepU (N := N) (m := m + 7) (i := 1) (h := h) (a := a) (b := b) (v := []) (by omega) rfl (by simp) (q f0) (by omega) b1
 by_cases f1 : isD c1
 case neg => exact ⟨fun F => absurd F.a1 f1, fun _ => s1.2 f1⟩
 rw [show zq153.l6 N (m + 8) h s [((10 * (c0.toNat - 48) : Nat) : Int)] 1 a b = _ from s1.1 f1]
 have s2 := stepC (N := N) (m := m + 6) (i := 2) (h := h) (a := a) (b := b) (v := [] ++ [((10 * (c0.toNat - 48) + (c1.toNat - 48) : Nat) : Int)]) (by omega) rfl (by omega) b2
 by_cases f2 : c2 = 58
 case neg => exact ⟨fun F => absurd F.a2 f2, fun _ => s2.2 f2⟩
 rw [show zq153.l6 N (m + 7) h s _ ((1 + 1 : Nat) : Int) a b = _ from s2.1 f2]
 have s3 := stepT (N := N) (m := m + 5) (i := 3) (h := h) (a := a) (b := b) (v := [] ++ [((10 * (c0.toNat - 48) + (c1.toNat - 48) : Nat) : Int)]) (by omega) rfl (by simp) (by omega) b3
 by_cases f3 : isD c3
 case neg => exact ⟨fun F => absurd F.a3 f3, fun _ => s3.2 f3⟩
 rw [show zq153.l6 N (m + 6) h s _ ((2 + 1 : Nat) : Int) a b = _ from s3.1 f3]
 have s4 := stepU (N := N) (m := m + 4) (i := 4) (h := h) (a := a) (b := b) (v := [] ++ [((10 * (c0.toNat - 48) + (c1.toNat - 48) : Nat) : Int)]) (by omega) rfl (by simp) (q f3) (by omega) b4
 by_cases f4 : isD c4
 case neg => exact ⟨fun F => absurd F.a4 f4, fun _ => s4.2 f4⟩
 rw [show zq153.l6 N (m + 5) h s _ ((3 + 1 : Nat) : Int) a b = _ from s4.1 f4]
 have s5 := stepC (N := N) (m := m + 3) (i := 5) (h := h) (a := a) (b := b) (v := [] ++ [((10 * (c0.toNat - 48) + (c1.toNat - 48) : Nat) : Int)] ++ [((10 * (c3.toNat - 48) + (c4.toNat - 48) : Nat) : Int)]) (by omega) rfl (by omega) b5
 by_cases f5 : c5 = 58
 case neg => exact ⟨fun F => absurd F.a5 f5, fun _ => s5.2 f5⟩
 rw [show zq153.l6 N (m + 4) h s _ ((4 + 1 : Nat) : Int) a b = _ from s5.1 f5]
 have s6 := stepT (N := N) (m := m + 2) (i := 6) (h := h) (a := a) (b := b) (v := [] ++ [((10 * (c0.toNat - 48) + (c1.toNat - 48) : Nat) : Int)] ++ [((10 * (c3.toNat - 48) + (c4.toNat - 48) : Nat) : Int)]) (by omega) rfl (by simp) (by omega) b6
 by_cases f6 : isD c6
 case neg => exact ⟨fun F => absurd F.a6 f6, fun _ => s6.2 f6⟩
 rw [show zq153.l6 N (m + 3) h s _ ((5 + 1 : Nat) : Int) a b = _ from s6.1 f6]
 have s7 := stepU (N := N) (m := m + 1) (i := 7) (h := h) (a := a) (b := b) (v := [] ++ [((10 * (c0.toNat - 48) + (c1.toNat - 48) : Nat) : Int)] ++ [((10 * (c3.toNat - 48) + (c4.toNat - 48) : Nat) : Int)]) (by omega) rfl (by simp) (q f6) (by omega) b7
 by_cases f7 : isD c7
 case neg => exact ⟨fun F => absurd F.a7 f7, fun _ => s7.2 f7⟩
 rw [show zq153.l6 N (m + 2) h s _ ((6 + 1 : Nat) : Int) a b = _ from s7.1 f7]
 exact ⟨fun _ => stepE (x := nn c0 c1) (y := nn c3 c4) (z := nn c6 c7), fun hh => absurd ⟨f0, f1, f2, f3, f4, f5, f6, f7⟩ hh⟩
theorem den_mul {S num den : Nat} (hS : S ≤ 86399) (hnum : num ≤ 1000000) (hden : den ≤ 1000000) : w64 (w64 ((S : Int) * (den : Int)) + (num : Int)) = ((S * den + num : Nat) : Int) ∧ S * den + num ≤ 100000000000 := by
 have := Nat.mul_le_mul hS hden
 refine ⟨?_, by omega⟩
 rw [← Int.natCast_mul, w64n (by omega), ← Int.natCast_add, w64n (by omega)]
theorem dial_mul {k den : Nat} (hk : k ≤ 24) (hden : den ≤ 1000000) : w64 (w64 ((k : Int) * 3600) * (den : Int)) = ((k * 3600 * den : Nat) : Int) ∧ k * 3600 * den ≤ 100000000000 := by
 have := Nat.mul_le_mul (show k * 3600 ≤ 86400 by omega) hden
 refine ⟨?_, by omega⟩
 rw [show w64 ((k : Int) * 3600) = ((k * 3600 : Nat) : Int) by rw [w64s (by omega) (by omega)]; omega, ← Int.natCast_mul, w64n (by omega)]
theorem d10_eq {N k x y z num den : Nat} (hN : 1000000000000 < N) {a b : Int} (hk1 : 1 ≤ k) (hk : k ≤ 24) (hx : x ≤ 23) (hy : y ≤ 59) (hz : z ≤ 59) (hnum : num ≤ 1000000) (hd1 : 1 ≤ den) (hden : den ≤ 1000000) :
  zq153.d10 N k [(x : Int), (y : Int), (z : Int)] num den a b = some (mkV (pr ((x * 3600 + y * 60 + z) * den + num) (k * 3600 * den))) := by
 obtain ⟨e1, e2⟩ := den_mul (S := x * 3600 + y * 60 + z) (num := num) (den := den) (by omega) hnum hden
 obtain ⟨e3, e4⟩ := dial_mul hk hden
 have hp : 1 ≤ k * 3600 * den := Nat.mul_pos (by omega) (by omega)
 have e5 : w64 (w64 (w64 (w64 ((x : Int) * 60) + (y : Int)) * 60) + (z : Int)) = ((x * 3600 + y * 60 + z : Nat) : Int) := by
  rw [w64s (n := (x : Int) * 60) (by omega) (by omega), w64s (n := (x : Int) * 60 + (y : Int)) (by omega) (by omega), w64s (n := ((x : Int) * 60 + (y : Int)) * 60) (by omega) (by omega), w64s (by omega) (by omega)]; omega
 unfold zq153.d10 zq153.o10
 rw [dcT (show (0 : Int) < (([(x : Int), (y : Int), (z : Int)] : List Int).length : Int) by simp), cT, show ([(x : Int), (y : Int), (z : Int)] : List Int)[(0 : Int).toNat]? = some (x : Int) from rfl, oB, dcT (show (1 : Int) < (([(x : Int), (y : Int), (z : Int)] : List Int).length : Int) by simp), cT, show ([(x : Int), (y : Int), (z : Int)] : List Int)[(1 : Int).toNat]? = some (y : Int) from rfl, oB, dcT (show (2 : Int) < (([(x : Int), (y : Int), (z : Int)] : List Int).length : Int) by simp), cT, show ([(x : Int), (y : Int), (z : Int)] : List Int)[(2 : Int).toNat]? = some (z : Int) from rfl, oB, e5, e1, e3, make_eq (by omega) hp (by omega)]
 rfl
theorem d9_eq {N k : Nat} (hN : 1000000000000 < N) {a b : Int} {v : List Int} (p0 p1 : ByteArray) :
  (∀ num den : Nat, readL p0 = num → readL p1 = den → 1 ≤ num → num < den → Nat.gcd num den = 1 → zq153.d9 N k v [p0, p1] false a b = zq153.d10 N k v num den a b) ∧
  ((¬ ∃ num den : Nat, readL p0 = num ∧ readL p1 = den ∧ 1 ≤ num ∧ num < den ∧ Nat.gcd num den = 1) → zq153.d9 N k v [p0, p1] false a b = no3) := by
 have sm : ∀ p : ByteArray, readL p < 1000000 := by
  intro p
  apply Classical.byContradiction
  intro hh
  have := (read_is (s := p) (n := readL p) rfl (by omega)).2
  omega
 have s0 := sm p0; have s1 := sm p1
 have e1 : zq153.d9 N k v [p0, p1] false a b = (bif (decide (readL p1 < 2)) then zq153.d11 N k v (readL p0) (readL p1) true a b else
   (zq173.g N (readL p0) 1 (w64 (readL p1 - 1))).bind fun r5 =>
   bif (!r5) then zq153.d11 N k v (readL p0) (readL p1) true a b else
   (zq147.g N (readL p0) (readL p1)).bind fun r6 => zq153.d11 N k v (readL p0) (readL p1) (r6 != 1) a b) := by
  unfold zq153.d9 zq153.o9
  rw [cF, dcT (show (0 : Int) < (([p0, p1] : List ByteArray).length : Int) by simp), cT, show ([p0, p1] : List ByteArray)[(0 : Int).toNat]? = some p0 from rfl, oB, l1Read_eq (by omega), oB, dcT (show (1 : Int) < (([p0, p1] : List ByteArray).length : Int) by simp), cT, show ([p0, p1] : List ByteArray)[(1 : Int).toNat]? = some p1 from rfl, oB, l1Read_eq (by omega), oB]
 constructor
 ·intro num den h1 h2 h3 h4 h5
  rw [e1, h1, h2, dcF (by omega), cF, w64s (by omega) (by omega), l1In_eq, oB, inB_iff.2 ⟨by omega, by omega⟩, nT, cF, common_eq (by omega) (by omega) (by omega), oB, h5, ineF (show ((1 : Nat) : Int) = 1 from rfl)]
  rfl
 ·intro hh
  rw [e1]
  by_cases c1 : readL p1 < 2
  ·rw [dcT c1, cT]; rfl
  ·rw [dcF c1, cF, w64s (by omega) (by omega), l1In_eq, oB]
   cases c2 : inB (readL p0) 1 (readL p1 - 1) with
   | false => rw [nF, cT]; rfl
   | true =>
    have c2' := inB_iff.1 c2
    obtain ⟨num, hn⟩ := Int.eq_ofNat_of_zero_le (show 0 ≤ readL p0 by omega)
    obtain ⟨den, hd⟩ := Int.eq_ofNat_of_zero_le (show 0 ≤ readL p1 by omega)
    rw [nT, cF, hn, hd, common_eq (by omega) (by omega) (by omega), oB, ineT (fun hg => hh ⟨num, den, hn, hd, by omega, by omega, by omega⟩)]
    rfl
theorem d8_none {N k : Nat} {a b : Int} {v : List Int} {s : ByteArray} (hs : s.size = 8) : zq153.d8 N k s v false a b = zq153.d10 N k v 0 1 a b := by
 unfold zq153.d8 zq153.o8
 rw [cF, dcF (by omega), cF]
theorem d8_some {N k : Nat} (hN : 1000000000000 < N) {a b : Int} {v : List Int} {s : ByteArray} {c0 c1 c2 c3 c4 c5 c6 c7 c8 : UInt8} {r : List UInt8} (hl : s.data.toList = c0 :: c1 :: c2 :: c3 :: c4 :: c5 :: c6 :: c7 :: c8 :: r) (hsz : s.size ≤ 1048576) :
  (∀ p0 p1, c8 = 43 → splitL 47 r = [p0, p1] → zq153.d8 N k s v false a b = zq153.d9 N k v [bsOf p0, bsOf p1] false a b) ∧
  ((¬ ∃ p0 p1, c8 = 43 ∧ splitL 47 r = [p0, p1]) → zq153.d8 N k s v false a b = no3) := by
 have hlen : s.data.toList.length = s.size := Array.length_toList
 have h9 : 9 ≤ s.size := by rw [← hlen, hl]; simp
 have b8 := bt_get hl (i := 8) (c := c8) rfl
 have hx : (s.extract (9 : Int).toNat ((s.size : Int) : Int).toNat).data.toList = r := by
  rw [extract_list, tN, ← hlen, hl]
  simp
 have hxs : (s.extract (9 : Int).toNat ((s.size : Int) : Int).toNat).size ≤ s.size := by rw [ByteArray.size_extract]; omega
 have hp : zq178.g N (s.extract (9 : Int).toNat ((s.size : Int) : Int).toNat) 47 = some ((splitL 47 r).map bsOf) := by
  have := l1Split_eq (N := N) (s.extract (9 : Int).toNat ((s.size : Int) : Int).toNat) 47 (by omega) (by omega)
  unfold pieces at this
  rw [hx] at this
  exact this
 have e1 : zq153.d8 N k s v false a b = (bif ((c8.toNat : Int) != 43) then zq153.d9 N k v ((splitL 47 r).map bsOf) true a b else zq153.d9 N k v ((splitL 47 r).map bsOf) ((((splitL 47 r).map bsOf).length : Int) != 2) a b) := by
  unfold zq153.d8 zq153.o8
  rw [cF, dcT (show (s.size : Int) > 8 by omega), cT, dcT (by omega), cT, dcT (show (s.size : Int) ≤ (s.size : Int) by omega), cT, dcT (show (9 : Int) ≤ (s.size : Int) by omega), cT, hp, oB, cT, show bt s 8 = (c8.toNat : Int) from b8]
 constructor
 ·intro p0 p1 h1 h2
  subst h1
  rw [e1, ineF (by decide), cF, h2]; rfl
 ·intro hh
  rw [e1]
  by_cases c : c8 = 43
  ·subst c
   have : (splitL 47 r).length ≠ 2 := by
    intro h2
    match hr : splitL 47 r, h2 with
    | [p0, p1], _ => exact hh ⟨p0, p1, rfl, hr⟩
   rw [ineF (by decide), cF, ineT (by rw [List.length_map]; omega)]; rfl
  ·rw [ineT (fun h => c (UInt8.toNat_inj.1 (by show c8.toNat = 43; omega))), cT]; rfl
theorem time_list {k n d x y z num den : Nat} (hd : 0 < d) (hy : y ≤ 59) (hz : z ≤ 59) (h1 : 3600 * (n * k) / d = x * 3600 + y * 60 + z) (h2 : pr (3600 * (n * k)) d = (num, den)) :
  timeL (n * k * 60) d = dd x ++ [58] ++ dd y ++ [58] ++ dd z ++ tailL (num, den) := by
 have e : 3600 * (n * k) = 60 * (n * k * 60) := by omega
 rw [e] at h1 h2
 have hS := S_eq (M := n * k * 60) hd
 obtain ⟨a1, a2, a3⟩ := hms hS.1 hS.2
 unfold timeL
 rw [← a1, ← a2, ← a3, h1, h2, show (x * 3600 + y * 60 + z) / 3600 = x by omega, show (x * 3600 + y * 60 + z) / 60 % 60 = y by omega, show (x * 3600 + y * 60 + z) % 60 = z by omega]
theorem nn_dd {c e : UInt8} (hc : isD c) (he : isD e) : dd (nn c e) = [c, e] := by
 have h1 := hc.1; have h2 := hc.2; have h3 := he.1; have h4 := he.2
 unfold dd nn
 rw [show 48 + (10 * (c.toNat - 48) + (e.toNat - 48)) / 10 = c.toNat by omega, show 48 + (10 * (c.toNat - 48) + (e.toNat - 48)) % 10 = e.toNat by omega, UInt8.ofNat_toNat, UInt8.ofNat_toNat]
theorem dd_nn {v : Nat} (h : v < 100) : isD (UInt8.ofNat (48 + v / 10)) ∧ isD (UInt8.ofNat (48 + v % 10)) ∧ nn (UInt8.ofNat (48 + v / 10)) (UInt8.ofNat (48 + v % 10)) = v := by
 unfold isD nn
 rw [dig_nat (by omega), dig_nat (by omega)]
 omega
def Reads (h : Int) (s : ByteArray) (r : Int × Int × Bool) : Prop := r = (0, 0, false) ∨ ∃ k n d : Nat, h = k ∧ Dial k n d ∧ s = bsOf (timeL (n * k * 60) d) ∧ r = ((n : Int), (d : Int), true)
theorem reads_mk {k x y z num den : Nat} {s : ByteArray} (hk1 : 2 ≤ k) (hk : k ≤ 24) (hx : x < k) (hy : y ≤ 59) (hz : z ≤ 59) (hn : num < den) (hg : Nat.gcd num den = 1)
  (hs : s.data.toList = dd x ++ [58] ++ dd y ++ [58] ++ dd z ++ tailL (num, den)) : Reads k s (mkV (pr ((x * 3600 + y * 60 + z) * den + num) (k * 3600 * den))) := by
 have hD : 0 < k * 3600 * den := Nat.mul_pos (by omega) (by omega)
 have hp := pr_spec (n := (x * 3600 + y * 60 + z) * den + num) hD
 have ht := told (n := (pr ((x * 3600 + y * 60 + z) * den + num) (k * 3600 * den)).1) (d := (pr ((x * 3600 + y * 60 + z) * den + num) (k * 3600 * den)).2) (show 0 < k by omega) hn hg (show x * 3600 + y * 60 + z < 3600 * k by omega) rfl
 generalize pr ((x * 3600 + y * 60 + z) * den + num) (k * 3600 * den) = f at *
 unfold mkV
 by_cases c : f.2 ≤ 1000000
 ·rw [if_pos c]
  refine .inr ⟨k, f.1, f.2, rfl, ⟨hk1, hk, hp.1, c, hp.2.2.1⟩, ?_, rfl⟩
  apply bs_ext
  rw [bsOf_list, hs, time_list (by have := hp.1; omega) hy hz ht.1 ht.2]
 ·rw [if_neg c]; exact .inl rfl
theorem spec_tot {N : Nat} (hN : 1000000000000 < N) (h : Int) (s : ByteArray) (hsz : s.size ≤ 1048576) : Tot (spec_ParseTime.g N h s) (Reads h s) := by
 have no : ∀ {x : Option (Int × Int × Bool)}, x = no3 → Tot x (Reads h s) := fun e => by rw [e]; exact Tot.now (.inl rfl)
 unfold spec_ParseTime.g spec_ParseTime.o0
 rw [diHours_eq, oB]
 cases hb : inB h 2 24 with
 | false => exact no rfl
 | true =>
  have hb' := inB_iff.1 hb
  obtain ⟨k, rfl⟩ := Int.eq_ofNat_of_zero_le (show 0 ≤ h by omega)
  rw [nT, cF]
  refine Tot.bind (P := Reads k s) ?_ (fun r hr => Tot.now hr)
  unfold zq153.g zq153.o0 zq153.d1 zq153.o1
  by_cases c1 : s.size < 8
  ·rw [dcT (by omega), cT]; exact no rfl
  rw [dcF (by omega), cF]
  by_cases c2 : 22 < s.size
  ·rw [dcT (by omega)]; exact no rfl
  rw [dcF (by omega)]
  dsimp only
  rw [cF]
  have hlen : s.data.toList.length = s.size := Array.length_toList
  match hl : s.data.toList, hlen with
  | c0 :: c1 :: c2 :: c3 :: c4 :: c5 :: c6 :: c7 :: r, hlen =>
   have H := heads (N := N) (by omega) (h := (k : Int)) (a := 0) (b := 0) hl
   by_cases F : Form c0 c1 c2 c3 c4 c5 c6 c7
   case neg => exact no (H.2 F)
   rw [H.1 F]
   by_cases B : (nn c0 c1 : Int) < (k : Int) ∧ nn c3 c4 ≤ 59 ∧ nn c6 c7 ≤ 59
   case neg => rw [if_neg B]; exact no rfl
   rw [if_pos B]
   obtain ⟨B1, B2, B3⟩ := B
   have L8 : ∀ t, s.data.toList = c0 :: c1 :: c2 :: c3 :: c4 :: c5 :: c6 :: c7 :: t → s.data.toList = dd (nn c0 c1) ++ [58] ++ dd (nn c3 c4) ++ [58] ++ dd (nn c6 c7) ++ t := by
    intro t ht
    rw [nn_dd F.a0 F.a1, nn_dd F.a3 F.a4, nn_dd F.a6 F.a7, ht, F.a2, F.a5]; rfl
   match r, hl, hlen with
   | [], hl, hlen =>
    rw [d8_none (by simpa using hlen.symm), show (0 : Int) = ((0 : Nat) : Int) from rfl, show (1 : Int) = ((1 : Nat) : Int) from rfl, d10_eq hN (by omega) (by omega) (by omega) B2 B3 (by omega) (by omega) (by omega)]
    exact Tot.now (reads_mk (by omega) (by omega) (by omega) B2 B3 (by omega) (by decide) (L8 [] hl))
   | c8 :: r, hl, hlen =>
    have H8 := d8_some (N := N) (k := k) hN (a := 0) (b := 0) (v := [(nn c0 c1 : Int), (nn c3 c4 : Int), (nn c6 c7 : Int)]) hl hsz
    by_cases E : ∃ p0 p1, c8 = 43 ∧ splitL 47 r = [p0, p1]
    case neg => exact no (H8.2 E)
    obtain ⟨p0, p1, E1, E2⟩ := E
    rw [H8.1 p0 p1 E1 E2]
    have H9 := d9_eq (N := N) (k := k) hN (a := 0) (b := 0) (v := [(nn c0 c1 : Int), (nn c3 c4 : Int), (nn c6 c7 : Int)]) (bsOf p0) (bsOf p1)
    by_cases G : ∃ num den : Nat, readL (bsOf p0) = num ∧ readL (bsOf p1) = den ∧ 1 ≤ num ∧ num < den ∧ Nat.gcd num den = 1
    case neg => exact no (H9.2 G)
    obtain ⟨num, den, G1, G2, G3, G4, G5⟩ := G
    have r1 := read_is G1 (by omega)
    have r2 := read_is G2 (by omega)
    rw [tN] at r1 r2
    rw [H9.1 num den G1 G2 G3 G4 G5, d10_eq hN (by omega) (by omega) (by omega) B2 B3 (by omega) (by omega) (by omega)]
    refine Tot.now (reads_mk (by omega) (by omega) (by omega) B2 B3 G4 G5 ?_)
    rw [L8 _ hl]
    congr 1
    have q0 : p0 = Lib.decDigits num := by have := congrArg (fun x : ByteArray => x.data.toList) r1.1; simpa [bsOf_list] using this
    have q1 : p1 = Lib.decDigits den := by have := congrArg (fun x : ByteArray => x.data.toList) r2.1; simpa [bsOf_list] using this
    unfold tailL
    rw [if_neg (by show ¬ num = 0; omega), E1, two_split E2, q0, q1]
    simp
  | [], hlen => simp at hlen; omega
  | [_], hlen => simp at hlen; omega
  | [_, _], hlen => simp at hlen; omega
  | [_, _, _], hlen => simp at hlen; omega
  | [_, _, _, _], hlen => simp at hlen; omega
  | [_, _, _, _, _], hlen => simp at hlen; omega
  | [_, _, _, _, _, _], hlen => simp at hlen; omega
  | [_, _, _, _, _, _, _], hlen => simp at hlen; omega
theorem no47 (n : Nat) : (47 : UInt8) ∉ Lib.decDigits n := fun h => by
 have := (dec_digits n _ h).1
 exact absurd this (by decide)
theorem spec_read {N k n d : Nat} (hN : 1000000000000 < N) (h : Dial k n d) : spec_ParseTime.g N k (bsOf (timeL (n * k * 60) d)) = some ((n : Int), (d : Int), true) := by
 have h2 := h.p; have h3 := h.t.le; have h4 := h.k2; have h5 := h.t.lt; have h6 := h.k1
 have hW := div60 (M := n * k * 60) rfl h5 h4
 have hW2 : n * k * 60 / d < 60 * k := by
  refine Nat.div_lt_of_lt_mul ?_
  have : n * k < d * k := Nat.mul_lt_mul_of_pos_right h5 (by omega)
  rw [Nat.mul_left_comm]; omega
 have hS := S_eq (M := n * k * 60) h2
 obtain ⟨a1, a2, a3⟩ := hms hS.1 hS.2
 have hds := den_small (X := n * k) h2 h3
 have hf := pr_spec (n := 60 * (n * k * 60)) h2
 have e36 : 3600 * (n * k) = 60 * (n * k * 60) := by omega
 rw [e36] at hds
 have tl := tail_len hf.1 hds
 have key : ∀ num den : Nat, (num, den) = pr (60 * (n * k * 60)) d → mkV (pr ((n * k * 60 / d / 60 * 3600 + n * k * 60 / d % 60 * 60 + 60 * (n * k * 60 % d) / d) * den + num) (k * 3600 * den)) = ((n : Int), (d : Int), true) := by
  intro num den e
  have := tell (S := n * k * 60 / d / 60 * 3600 + n * k * 60 / d % 60 * 60 + 60 * (n * k * 60 % d) / d) (h := k) (num := num) (den := den) h5 h.t.cop (by omega) (by rw [e36, ← a1, ← a2, ← a3]; omega) (by rw [e36]; exact e)
  rw [this]
  exact mkV_ok h3
 unfold spec_ParseTime.g spec_ParseTime.o0
 rw [diHours_eq, oB, inB_iff.2 ⟨by omega, by omega⟩, nT, cF]
 generalize hx : n * k * 60 / d / 60 = x at *
 generalize hy : n * k * 60 / d % 60 = y at *
 generalize hz : 60 * (n * k * 60 % d) / d = z at *
 have hL : timeL (n * k * 60) d = UInt8.ofNat (48 + x / 10) :: UInt8.ofNat (48 + x % 10) :: 58 :: UInt8.ofNat (48 + y / 10) :: UInt8.ofNat (48 + y % 10) :: 58 :: UInt8.ofNat (48 + z / 10) :: UInt8.ofNat (48 + z % 10) :: tailL (pr (60 * (n * k * 60)) d) := by
  unfold timeL
  rw [hx, hy, hz]; rfl
 have hl : (bsOf (timeL (n * k * 60) d)).data.toList = _ := (bsOf_list _).trans hL
 have hsz : (bsOf (timeL (n * k * 60) d)).size = 8 + (tailL (pr (60 * (n * k * 60)) d)).length := by rw [bsOf_size, hL]; simp; omega
 have dx := dd_nn (v := x) (by omega)
 have dy := dd_nn (v := y) (by omega)
 have dz := dd_nn (v := z) (by omega)
 have H := heads (N := N) (by omega) (h := (k : Int)) (a := 0) (b := 0) hl
 unfold zq153.g zq153.o0 zq153.d1 zq153.o1
 rw [dcF (by omega), cF, dcF (by omega)]
 dsimp only
 rw [cF, H.1 ⟨dx.1, dx.2.1, rfl, dy.1, dy.2.1, rfl, dz.1, dz.2.1⟩, dx.2.2, dy.2.2, dz.2.2, if_pos ⟨by omega, by omega, by omega⟩]
 by_cases c : (pr (60 * (n * k * 60)) d).1 = 0
 ·have hden : (pr (60 * (n * k * 60)) d).2 = 1 := by have := hf.2.2.1; rw [c, Nat.gcd_zero_left] at this; exact this
  have ht : tailL (pr (60 * (n * k * 60)) d) = [] := by unfold tailL; rw [if_pos c]
  rw [ht] at hsz
  rw [d8_none (by simpa using hsz), show (0 : Int) = ((0 : Nat) : Int) from rfl, show (1 : Int) = ((1 : Nat) : Int) from rfl, d10_eq hN (by omega) h4 (by omega) (by omega) (by omega) (by omega) (by omega) (by omega), key 0 1 (by rw [← c, ← hden]), oB]
 ·have ht : tailL (pr (60 * (n * k * 60)) d) = 43 :: (Lib.decDigits (pr (60 * (n * k * 60)) d).1 ++ 47 :: Lib.decDigits (pr (60 * (n * k * 60)) d).2) := by unfold tailL; rw [if_neg c]; simp
  rw [ht] at hl
  have H8 := d8_some (N := N) (k := k) hN (a := 0) (b := 0) (v := [(x : Int), (y : Int), (z : Int)]) hl (by omega)
  rw [H8.1 _ _ rfl (split_two (no47 _) (no47 _))]
  have H9 := d9_eq (N := N) (k := k) hN (a := 0) (b := 0) (v := [(x : Int), (y : Int), (z : Int)]) (bsOf (Lib.decDigits (pr (60 * (n * k * 60)) d).1)) (bsOf (Lib.decDigits (pr (60 * (n * k * 60)) d).2))
  rw [H9.1 _ _ (read_dec (by omega)) (read_dec (by omega)) (by omega) hf.1 hf.2.2.1, d10_eq hN (by omega) h4 (by omega) (by omega) (by omega) (by omega) (by omega) (by omega), key (pr (60 * (n * k * 60)) d).1 (pr (60 * (n * k * 60)) d).2 rfl, oB]
theorem bs_toList (a : ByteArray) : a.toList = a.data.toList := Lib.toList_data a
noncomputable def AT (p : ByteArray) : Int × Bool := zq183.v p
theorem AT_eq (N : Nat) {p : ByteArray} (h : p.size ≤ 281474976710656) : zq183.g N p = some (AT p) := by
 unfold zq183.g
 rw [dcT h]; rfl
noncomputable def RN (p : ByteArray) : Int × Bool := zq69.v p 1000000
theorem RN_eq (N : Nat) {p : ByteArray} (h : p.size ≤ 281474976710656) : zq69.g N p 1000000 = some (RN p) := by
 unfold zq69.g
 rw [dcT h, dcT (by omega)]; rfl
theorem RN_range {p : ByteArray} (h : (RN p).2 = true) : 0 ≤ (RN p).1 ∧ (RN p).1 ≤ 1000000 := by
 unfold RN zq69.v at h ⊢
 rcases ha : Lib.atoiAll p.data.toList with v | _ | _
 ·rw [ha] at h
  simp only at h ⊢
  by_cases c : 0 ≤ v ∧ v ≤ 1000000
  ·rw [if_pos c] at h ⊢
   by_cases c2 : Lib.itoa v = p.toList
   ·rw [if_pos c2]; exact c
   ·rw [if_neg c2] at h; cases h
  ·rw [if_neg c] at h; cases h
 ·rw [ha] at h; cases h
 ·rw [ha] at h; cases h
theorem RN_dec {n : Nat} (hn : n ≤ 1000000) : RN (bsOf (Lib.decDigits n)) = ((n : Int), true) := by
 unfold RN zq69.v
 rw [bsOf_list, atoi_dec (by omega)]
 show (if 0 ≤ (n : Int) ∧ (n : Int) ≤ 1000000 then (if Lib.itoa n = (bsOf (Lib.decDigits n)).toList then ((n : Int), true) else (0, false)) else (0, false)) = _
 rw [if_pos ⟨by omega, by omega⟩, if_pos]
 rw [bs_toList, bsOf_list]
 unfold Lib.itoa
 rw [if_neg (by omega)]; simp
theorem dd_atoi : ((List.range 100).all fun n => match Lib.atoiAll (dd n) with | .ok v => v == (n : Int) | _ => false) = true := by decide +kernel
theorem AT_dd {p : ByteArray} {v : Nat} (hv : v < 100) (hp : p.data.toList = dd v) : AT p = ((v : Int), true) := by
 have := List.all_eq_true.1 dd_atoi v (List.mem_range.2 hv)
 unfold AT zq183.v
 rw [hp]
 revert this
 rcases Lib.atoiAll (dd v) with u | _ | _
 ·intro h
  have : u = (v : Int) := by simpa using h
  rw [this]
 ·intro h; cases h
 ·intro h; cases h
theorem pd5_eq {N k x y z num den : Nat} (hN : 1000000000000 < N) {a b : Int} {s : ByteArray} (hk1 : 2 ≤ k) (hk : k ≤ 24) (hx : x < k) (hy : y ≤ 59) (hz : z ≤ 59) (hnum : num ≤ 1000000) (hd1 : 1 ≤ den) (hden : den ≤ 1000000)
  {f : Nat × Nat} (hf : pr ((x * 3600 + y * 60 + z) * den + num) (k * 3600 * den) = f) :
  (f.2 ≤ 1000000 → s = bsOf (timeL (f.1 * k * 60) f.2) → zq28.d5 N k s num den [(x : Int), (y : Int), (z : Int)] false a b = some (r3 f)) ∧
  (¬ (f.2 ≤ 1000000 ∧ s = bsOf (timeL (f.1 * k * 60) f.2)) → zq28.d5 N k s num den [(x : Int), (y : Int), (z : Int)] false a b = no3) := by
 obtain ⟨e1, e2⟩ := den_mul (S := x * 3600 + y * 60 + z) (num := num) (den := den) (by omega) hnum hden
 obtain ⟨e3, e4⟩ := dial_mul hk hden
 have hp : 1 ≤ k * 3600 * den := Nat.mul_pos (by omega) (by omega)
 have e5 : w64 (w64 (w64 ((x : Int) * 3600) + w64 ((y : Int) * 60)) + (z : Int)) = ((x * 3600 + y * 60 + z : Nat) : Int) := by
  rw [w64s (n := (x : Int) * 3600) (by omega) (by omega), w64s (n := (y : Int) * 60) (by omega) (by omega), w64s (n := (x : Int) * 3600 + (y : Int) * 60) (by omega) (by omega), w64s (by omega) (by omega)]; omega
 have hsp := pr_spec (n := (x * 3600 + y * 60 + z) * den + num) hp
 rw [hf] at hsp
 have e6 : zq28.d5 N k s num den [(x : Int), (y : Int), (z : Int)] false a b = (zq37.g N k (f.1 : Int) (f.2 : Int)).bind fun r5 => bif (!r5.2) then zq28.d6 N true a b f.1 f.2 else zq28.d6 N (!(r5.1.toList == s.toList)) a b f.1 f.2 := by
  unfold zq28.d5 zq28.o5
  rw [cF, dcT (show (0 : Int) < (([(x : Int), (y : Int), (z : Int)] : List Int).length : Int) by simp), cT, show ([(x : Int), (y : Int), (z : Int)] : List Int)[(0 : Int).toNat]? = some (x : Int) from rfl, oB, dcT (show (1 : Int) < (([(x : Int), (y : Int), (z : Int)] : List Int).length : Int) by simp), cT, show ([(x : Int), (y : Int), (z : Int)] : List Int)[(1 : Int).toNat]? = some (y : Int) from rfl, oB, dcT (show (2 : Int) < (([(x : Int), (y : Int), (z : Int)] : List Int).length : Int) by simp), cT, show ([(x : Int), (y : Int), (z : Int)] : List Int)[(2 : Int).toNat]? = some (z : Int) from rfl, oB, e5, e1, e3, part_eq (by omega) hp (by omega) (by omega), hf, oB]
 rw [e6]
 by_cases c : f.2 ≤ 1000000
 ·have hD : Dial k f.1 f.2 := ⟨hk1, hk, hsp.1, c, hsp.2.2.1⟩
  rw [(text_yes (by omega) hD).1, oB]
  dsimp only
  rw [nT, cF, bs_toList, bs_toList, bsOf_list]
  constructor
  ·intro _ hs
   rw [hs, bsOf_list, beq_self_eq_true]; rfl
  ·intro hh
   have : ¬ timeL (f.1 * k * 60) f.2 = s.data.toList := fun e => hh ⟨c, bs_ext (by rw [bsOf_list, e])⟩
   rw [beq_eq_false_iff_ne.mpr this]; rfl
 ·have hb : timeB k f.1 f.2 = false := by
   cases h : timeB k f.1 f.2 with
   | false => rfl
   | true =>
    obtain ⟨_, a', b', _, _, _, _, h6, h7⟩ := timeB_iff.1 h
    have := h7.le
    omega
  rw [(text_no (by omega) hb).1]
  exact ⟨fun hh => absurd hh c, fun _ => rfl⟩
theorem pd3_step {N m : Nat} {h n d a b : Int} {s : ByteArray} {v : List Int} {ps : List ByteArray} {i : Nat} (hi : i < ps.length) (hl : ps.length ≤ 3) (hv : v.length ≤ 3) (hs : ∀ p ∈ ps, p.size ≤ 281474976710656) :
  zq28.l4 N (m + 1) h s n d v ps ps.length i a b = bif !(AT ps[i]).2 then no3 else zq28.l4 N m h s n d (v ++ [(AT ps[i]).1]) ps ps.length ((i + 1 : Nat) : Int) a b := by
 show zq28.d4 N h s n d v ps ps.length i a b _ = _
 unfold zq28.d4 zq28.o4
 rw [dcT (by omega), cT, dcT (show (0 : Int) ≤ (i : Int) by omega), cT, cT, tN, getAt hi, AT_eq N (hs _ (List.getElem_mem hi)), oB, blT (by simp; omega), cT, w1add (by omega)]
theorem pd3_end {N m k : Nat} {n d a b : Int} {s : ByteArray} {ps : List ByteArray} (hk : k ≤ 24) (hl : ps.length = 3) {x y z : Int} :
  zq28.l4 N (m + 1) k s n d [x, y, z] ps ps.length ((3 : Nat) : Int) a b = if (0 ≤ x ∧ x ≤ (k : Int) - 1) ∧ (0 ≤ y ∧ y ≤ 59) ∧ (0 ≤ z ∧ z ≤ 59) then zq28.d5 N k s n d [x, y, z] false a b else no3 := by
 show zq28.d4 N k s n d [x, y, z] ps ps.length ((3 : Nat) : Int) a b _ = _
 unfold zq28.d4 zq28.o4
 rw [dcF (by omega), cF, dcT (show (0 : Int) < (([x, y, z] : List Int).length : Int) by simp), cT, show ([x, y, z] : List Int)[(0 : Int).toNat]? = some x from rfl, oB, w64s (by omega) (by omega), within_eq, oB]
 have un : ∀ v, zq28.d5 N k s n d v true a b = no3 := fun v => rfl
 cases c1 : inB x 0 ((k : Int) - 1) with
 | false => rw [if_neg (fun hh => inB_not.1 c1 hh.1), nF, cT]; exact un _
 | true =>
  rw [nT, cF, dcT (show (1 : Int) < (([x, y, z] : List Int).length : Int) by simp), cT, show ([x, y, z] : List Int)[(1 : Int).toNat]? = some y from rfl, oB, within_eq, oB]
  cases c2 : inB y 0 59 with
  | false => rw [if_neg (fun hh => inB_not.1 c2 hh.2.1), nF, cT]; exact un _
  | true =>
   rw [nT, cF, dcT (show (2 : Int) < (([x, y, z] : List Int).length : Int) by simp), cT, show ([x, y, z] : List Int)[(2 : Int).toNat]? = some z from rfl, oB, within_eq, oB]
   cases c3 : inB z 0 59 with
   | false => rw [if_neg (fun hh => inB_not.1 c3 hh.2.2), nF]; exact un _
   | true => rw [if_pos ⟨inB_iff.1 c1, inB_iff.1 c2, inB_iff.1 c3⟩, nT]
theorem pd3_eq {N k : Nat} (hN : 100 ≤ N) {n d a b : Int} {s : ByteArray} (hk : k ≤ 24) (h8 : 8 ≤ s.size) (hsz : s.size ≤ 1048576) :
  zq28.d3 N k s n d a b = if ((AT (s.extract 0 2)).2 = true ∧ (AT (s.extract 3 5)).2 = true ∧ (AT (s.extract 6 8)).2 = true) ∧ (0 ≤ (AT (s.extract 0 2)).1 ∧ (AT (s.extract 0 2)).1 ≤ (k : Int) - 1) ∧ (0 ≤ (AT (s.extract 3 5)).1 ∧ (AT (s.extract 3 5)).1 ≤ 59) ∧ (0 ≤ (AT (s.extract 6 8)).1 ∧ (AT (s.extract 6 8)).1 ≤ 59)
   then zq28.d5 N k s n d [(AT (s.extract 0 2)).1, (AT (s.extract 3 5)).1, (AT (s.extract 6 8)).1] false a b else no3 := by
 obtain ⟨m, hm⟩ : ∃ m, N = m + 4 := ⟨N - 4, by omega⟩
 have hps : ∀ p ∈ [s.extract 0 2, s.extract 3 5, s.extract 6 8], p.size ≤ 281474976710656 := by
  intro p hp
  simp only [List.mem_cons, List.not_mem_nil, or_false] at hp
  rcases hp with rfl | rfl | rfl <;> (rw [ByteArray.size_extract]; omega)
 have e0 : zq28.d3 N k s n d a b = zq28.l4 N (m + 4) k s n d [] [s.extract 0 2, s.extract 3 5, s.extract 6 8] ([s.extract 0 2, s.extract 3 5, s.extract 6 8] : List ByteArray).length ((0 : Nat) : Int) a b := by
  unfold zq28.d3 zq28.o3
  rw [dcT (show (2 : Int) ≤ (s.size : Int) by omega), cT, dcT (show (5 : Int) ≤ (s.size : Int) by omega), cT, dcT (show (8 : Int) ≤ (s.size : Int) by omega), cT]
  dsimp only
  rw [show zq28.l4 N N = zq28.l4 N (m + 4) from congrArg _ hm]; rfl
 rw [e0, pd3_step (i := 0) (by simp) (by simp) (by simp) hps]
 show (bif !(AT (s.extract 0 2)).2 then no3 else zq28.l4 N (m + 3) k s n d ([(AT (s.extract 0 2)).1]) [s.extract 0 2, s.extract 3 5, s.extract 6 8] ([s.extract 0 2, s.extract 3 5, s.extract 6 8] : List ByteArray).length ((1 : Nat) : Int) a b) = _
 cases c0 : (AT (s.extract 0 2)).2 with
 | false => rw [nF, cT, if_neg (fun hh => by cases hh.1.1)]
 | true =>
  rw [nT, cF, pd3_step (i := 1) (by simp) (by simp) (by simp) hps]
  show (bif !(AT (s.extract 3 5)).2 then no3 else zq28.l4 N (m + 2) k s n d ([(AT (s.extract 0 2)).1, (AT (s.extract 3 5)).1]) [s.extract 0 2, s.extract 3 5, s.extract 6 8] ([s.extract 0 2, s.extract 3 5, s.extract 6 8] : List ByteArray).length ((2 : Nat) : Int) a b) = _
  cases c1 : (AT (s.extract 3 5)).2 with
  | false => rw [nF, cT, if_neg (fun hh => by cases hh.1.2.1)]
  | true =>
   rw [nT, cF, pd3_step (i := 2) (by simp) (by simp) (by simp) hps]
   show (bif !(AT (s.extract 6 8)).2 then no3 else zq28.l4 N (m + 1) k s n d ([(AT (s.extract 0 2)).1, (AT (s.extract 3 5)).1, (AT (s.extract 6 8)).1]) [s.extract 0 2, s.extract 3 5, s.extract 6 8] ([s.extract 0 2, s.extract 3 5, s.extract 6 8] : List ByteArray).length ((3 : Nat) : Int) a b) = _
   cases c2 : (AT (s.extract 6 8)).2 with
   | false => rw [nF, cT, if_neg (fun hh => by cases hh.1.2.2)]
   | true =>
    rw [nT, cF, pd3_end hk rfl]
    by_cases c : (0 ≤ (AT (s.extract 0 2)).1 ∧ (AT (s.extract 0 2)).1 ≤ (k : Int) - 1) ∧ (0 ≤ (AT (s.extract 3 5)).1 ∧ (AT (s.extract 3 5)).1 ≤ 59) ∧ (0 ≤ (AT (s.extract 6 8)).1 ∧ (AT (s.extract 6 8)).1 ≤ 59)
    ·rw [if_pos c, if_pos ⟨⟨rfl, rfl, rfl⟩, c⟩]
    ·rw [if_neg c, if_neg (fun hh => c hh.2)]
theorem pd3_tot {N k num den : Nat} (hN : 1000000000000 < N) {a b : Int} {s : ByteArray} (hk1 : 2 ≤ k) (hk : k ≤ 24) (h8 : 8 ≤ s.size) (hsz : s.size ≤ 1048576) (hnum : num ≤ 1000000) (hd1 : 1 ≤ den) (hden : den ≤ 1000000) :
  Tot (zq28.d3 N k s num den a b) (Reads k s) := by
 rw [pd3_eq (by omega) hk h8 hsz]
 split
 ·rename_i c
  obtain ⟨_, c1, c2, c3⟩ := c
  obtain ⟨x, hx⟩ := Int.eq_ofNat_of_zero_le c1.1
  obtain ⟨y, hy⟩ := Int.eq_ofNat_of_zero_le c2.1
  obtain ⟨z, hz⟩ := Int.eq_ofNat_of_zero_le c3.1
  rw [hx] at c1 ⊢
  rw [hy] at c2 ⊢
  rw [hz] at c3 ⊢
  have hp : 1 ≤ k * 3600 * den := Nat.mul_pos (by omega) (by omega)
  have hsp := pr_spec (n := (x * 3600 + y * 60 + z) * den + num) hp
  have H := pd5_eq (N := N) (num := num) (den := den) hN (a := a) (b := b) (s := s) hk1 hk (show x < k by omega) (show y ≤ 59 by omega) (show z ≤ 59 by omega) hnum hd1 hden rfl
  generalize pr ((x * 3600 + y * 60 + z) * den + num) (k * 3600 * den) = f at *
  by_cases c : f.2 ≤ 1000000 ∧ s = bsOf (timeL (f.1 * k * 60) f.2)
  ·rw [H.1 c.1 c.2]
   exact Tot.now (.inr ⟨k, f.1, f.2, rfl, ⟨hk1, hk, hsp.1, c.1, hsp.2.2.1⟩, c.2, rfl⟩)
  ·rw [H.2 c]; exact Tot.now (.inl rfl)
 ·exact Tot.now (.inl rfl)
theorem ext_rest {s : ByteArray} (h : 9 ≤ s.size) : ((s.extract 8 s.size).extract 1 (s.extract 8 s.size).size).data.toList = s.data.toList.drop 9 := by
 have hlen : s.data.toList.length = s.size := Array.length_toList
 rw [extract_list, extract_list, ByteArray.size_extract, List.take_of_length_le (by rw [List.length_drop, List.length_take]; omega), List.take_of_length_le (by omega), List.drop_drop]
noncomputable def cutB (s : ByteArray) : ByteArray × ByteArray := if Lib.indexByte s.data.toList 47 < 0 then (s, ⟨#[]⟩) else (s.extract 0 (Lib.indexByte s.data.toList 47).toNat, s.extract ((Lib.indexByte s.data.toList 47).toNat + 1) s.size)
theorem cut_eq (N : Nat) (s : ByteArray) (hs : s.size ≤ 1048576) : ∃ b, zq186.g N s (⟨#[47]⟩ : ByteArray) = some ((cutB s).1, (cutB s).2, b) := by
 have h2 : zq186.g N s (⟨#[47]⟩ : ByteArray) = (bif decide (s.size < 4294967281) then some (if Lib.indexByte s.data.toList 47 < 0 then (s, ⟨#[]⟩, false) else (s.extract 0 (Lib.indexByte s.data.toList 47).toNat, s.extract ((Lib.indexByte s.data.toList 47).toNat + 1) s.size, true)) else none) := rfl
 rw [h2, dcT (by omega), cT]
 unfold cutB
 by_cases c : Lib.indexByte s.data.toList 47 < 0
 ·rw [if_pos c, if_pos c]; exact ⟨_, rfl⟩
 ·rw [if_neg c, if_neg c]; exact ⟨_, rfl⟩
theorem cutB_size (s : ByteArray) : (cutB s).1.size ≤ s.size ∧ (cutB s).2.size ≤ s.size := by
 unfold cutB
 split
 ·exact ⟨Nat.le_refl _, Nat.zero_le _⟩
 ·rw [ByteArray.size_extract, ByteArray.size_extract]; omega
theorem indexByte_sep (c : UInt8) (r : List UInt8) : ∀ a : List UInt8, c ∉ a → Lib.indexByte (a ++ c :: r) c = (a.length : Int)
 | [], _ => by simp [Lib.indexByte]
 | b :: a, h => by
  rw [List.mem_cons, not_or] at h
  have ih := indexByte_sep c r a h.2
  rw [List.cons_append]
  unfold Lib.indexByte
  have hb : (b == c) = false := by rw [beq_eq_false_iff_ne]; exact fun e => h.1 e.symm
  simp only [hb, ih, List.length_cons]
  simp
theorem cut_sep {s : ByteArray} {x y : List UInt8} (h : s.data.toList = x ++ 47 :: y) (hx : (47 : UInt8) ∉ x) : cutB s = (bsOf x, bsOf y) := by
 have hlen : s.data.toList.length = s.size := Array.length_toList
 have hi := indexByte_sep 47 y x hx
 unfold cutB
 rw [h, hi, if_neg (by omega), tN]
 refine Prod.ext ?_ ?_
 ·apply bs_ext
  rw [extract_list, bsOf_list, h]; simp
 ·apply bs_ext
  rw [extract_list, bsOf_list, List.take_of_length_le (by omega), h]
  rw [show x ++ 47 :: y = (x ++ [47]) ++ y by simp, List.drop_left' (by simp)]
theorem top_eq {N k : Nat} (hN : 1000000000000 < N) {s : ByteArray} (hk1 : 2 ≤ k) (hk : k ≤ 24) (h8 : 8 ≤ s.size) (hsz : s.size ≤ 1048576) :
  zq28.g N k s = if s.size = 8 then zq28.d3 N k s 0 1 0 0 else
   (let Q := (s.extract 8 s.size).extract 1 (s.extract 8 s.size).size
    if (RN (cutB Q).1).2 = true ∧ (RN (cutB Q).2).2 = true ∧ (RN (cutB Q).2).1 ≠ 0 then zq28.d3 N k s (RN (cutB Q).1).1 (RN (cutB Q).2).1 0 0 else no3) := by
 have hlen : s.data.toList.length = s.size := Array.length_toList
 unfold zq28.g zq28.o0 zq28.d1 zq28.o1
 rw [isDial_eq, oB, inB_iff.2 ⟨by omega, by omega⟩, nT, cF, dcF (show ¬ (s.size : Int) < 8 by omega)]
 dsimp only
 rw [cF, dcT (show (0 : Int) ≤ (s.size : Int) by omega), cT, dcT (show (s.size : Int) ≤ (s.size : Int) by omega), cT, dcT (show (8 : Int) ≤ (s.size : Int) by omega), cT, tN, show (8 : Int).toNat = 8 from rfl, show (1 : Int).toNat = 1 from rfl, bs_toList, bs_toList]
 have hR : (s.extract 8 s.size).data.toList = s.data.toList.drop 8 := by rw [extract_list, List.take_of_length_le (by omega)]
 have hRs : (s.extract 8 s.size).size = s.size - 8 := by rw [ByteArray.size_extract]; omega
 by_cases c : s.size = 8
 ·rw [if_pos c, hR, List.drop_eq_nil_of_le (by omega)]; rfl
 ·have hne : ((s.extract 8 s.size).data.toList == (⟨#[]⟩ : ByteArray).data.toList) = false := by
   rw [beq_eq_false_iff_ne, hR]
   intro e
   have := congrArg List.length e
   rw [List.length_drop] at this
   simp at this
   omega
  rw [if_neg c, hne, nF, cT, dcT (by omega), cT, dcT (Int.le_refl _), cT, dcT (show (1 : Int) ≤ ((s.extract 8 s.size).size : Int) by omega), cT, tN]
  have hQs : ((s.extract 8 s.size).extract 1 (s.extract 8 s.size).size).size ≤ 1048576 := by rw [ByteArray.size_extract]; omega
  generalize (s.extract 8 s.size).extract 1 (s.extract 8 s.size).size = Q at *
  obtain ⟨b, hc⟩ := cut_eq N Q hQs
  have hz := cutB_size Q
  rw [hc, oB]
  dsimp only
  rw [RN_eq N (by omega), oB, RN_eq N (by omega), oB]
  cases c1 : (RN (cutB Q).1).2 with
  | false => rw [nF, cT, if_neg (fun hh => by cases hh.1)]; rfl
  | true =>
   rw [nT, cF]
   cases c2 : (RN (cutB Q).2).2 with
   | false => rw [nF, cT, if_neg (fun hh => by cases hh.2.1)]; rfl
   | true =>
    rw [nT, cF]
    by_cases c3 : (RN (cutB Q).2).1 = 0
    ·rw [ieqT c3, if_neg (fun hh => hh.2.2 c3)]; rfl
    ·rw [ieqF c3, if_pos ⟨rfl, rfl, c3⟩]; rfl
theorem impl_tot {N : Nat} (hN : 1000000000000 < N) (h : Int) (s : ByteArray) (hsz : s.size ≤ 1048576) : Tot (zq28.g N h s) (Reads h s) := by
 have no : ∀ {x : Option (Int × Int × Bool)}, x = no3 → Tot x (Reads h s) := fun e => by rw [e]; exact Tot.now (.inl rfl)
 cases hb : inB h 2 24 with
 | false =>
  refine no ?_
  unfold zq28.g zq28.o0
  rw [isDial_eq, hb]; rfl
 | true =>
  have hb' := inB_iff.1 hb
  obtain ⟨k, rfl⟩ := Int.eq_ofNat_of_zero_le (show 0 ≤ h by omega)
  by_cases c1 : s.size < 8
  ·refine no ?_
   unfold zq28.g zq28.o0
   rw [isDial_eq, hb, oB, nT, cF, dcT (by omega)]; rfl
  ·rw [top_eq hN (by omega) (by omega) (by omega) hsz]
   by_cases c2 : s.size = 8
   ·rw [if_pos c2]
    exact pd3_tot (num := 0) (den := 1) hN (by omega) (by omega) (by omega) hsz (by omega) (by omega) (by omega)
   ·rw [if_neg c2]
    dsimp only
    generalize (s.extract 8 s.size).extract 1 (s.extract 8 s.size).size = Q at *
    split
    ·rename_i c
     have r1 := RN_range c.1
     have r2 := RN_range c.2.1
     have r3 := c.2.2
     obtain ⟨num, hn⟩ := Int.eq_ofNat_of_zero_le r1.1
     obtain ⟨den, hd⟩ := Int.eq_ofNat_of_zero_le r2.1
     rw [hn, hd]
     exact pd3_tot hN (by omega) (by omega) (by omega) hsz (by omega) (by omega) (by omega)
    ·exact no rfl
theorem zq68 {N k n d : Nat} (hN : 1000000000000 < N) (h : Dial k n d) : zq28.g N k (bsOf (timeL (n * k * 60) d)) = some ((n : Int), (d : Int), true) := by
 have h2 := h.p; have h3 := h.t.le; have h4 := h.k2; have h5 := h.t.lt; have h6 := h.k1
 have hW := div60 (M := n * k * 60) rfl h5 h4
 have hW2 : n * k * 60 / d < 60 * k := by
  refine Nat.div_lt_of_lt_mul ?_
  have : n * k < d * k := Nat.mul_lt_mul_of_pos_right h5 (by omega)
  rw [Nat.mul_left_comm]; omega
 have hS := S_eq (M := n * k * 60) h2
 obtain ⟨a1, a2, a3⟩ := hms hS.1 hS.2
 have hds := den_small (X := n * k) h2 h3
 have hf := pr_spec (n := 60 * (n * k * 60)) h2
 have e36 : 3600 * (n * k) = 60 * (n * k * 60) := by omega
 rw [e36] at hds
 have tl := tail_len hf.1 hds
 have key : ∀ num den : Nat, (num, den) = pr (60 * (n * k * 60)) d → pr ((n * k * 60 / d / 60 * 3600 + n * k * 60 / d % 60 * 60 + 60 * (n * k * 60 % d) / d) * den + num) (k * 3600 * den) = (n, d) := by
  intro num den e
  exact tell (S := n * k * 60 / d / 60 * 3600 + n * k * 60 / d % 60 * 60 + 60 * (n * k * 60 % d) / d) (h := k) (num := num) (den := den) h5 h.t.cop (by omega) (by rw [e36, ← a1, ← a2, ← a3]; omega) (by rw [e36]; exact e)
 generalize hx : n * k * 60 / d / 60 = x at *
 generalize hy : n * k * 60 / d % 60 = y at *
 generalize hz : 60 * (n * k * 60 % d) / d = z at *
 have hL : timeL (n * k * 60) d = UInt8.ofNat (48 + x / 10) :: UInt8.ofNat (48 + x % 10) :: 58 :: UInt8.ofNat (48 + y / 10) :: UInt8.ofNat (48 + y % 10) :: 58 :: UInt8.ofNat (48 + z / 10) :: UInt8.ofNat (48 + z % 10) :: tailL (pr (60 * (n * k * 60)) d) := by
  unfold timeL
  rw [hx, hy, hz]; rfl
 have hl : (bsOf (timeL (n * k * 60) d)).data.toList = _ := (bsOf_list _).trans hL
 have hsz : (bsOf (timeL (n * k * 60) d)).size = 8 + (tailL (pr (60 * (n * k * 60)) d)).length := by rw [bsOf_size, hL]; simp; omega
 have fin : ∀ num den : Nat, (num, den) = pr (60 * (n * k * 60)) d → num ≤ 1000000 → 1 ≤ den → den ≤ 1000000 → zq28.d3 N k (bsOf (timeL (n * k * 60) d)) num den 0 0 = some ((n : Int), (d : Int), true) := by
  intro num den e q1 q2 q3
  have A0 : AT ((bsOf (timeL (n * k * 60) d)).extract 0 2) = ((x : Int), true) := AT_dd (by omega) (by rw [extract_list, hl]; rfl)
  have A1 : AT ((bsOf (timeL (n * k * 60) d)).extract 3 5) = ((y : Int), true) := AT_dd (by omega) (by rw [extract_list, hl]; rfl)
  have A2 : AT ((bsOf (timeL (n * k * 60) d)).extract 6 8) = ((z : Int), true) := AT_dd (by omega) (by rw [extract_list, hl]; rfl)
  rw [pd3_eq (by omega) h4 (by omega) (by omega), A0, A1, A2, if_pos ⟨⟨rfl, rfl, rfl⟩, ⟨by show (0 : Int) ≤ (x : Int); omega, by show (x : Int) ≤ _; omega⟩, ⟨by show (0 : Int) ≤ (y : Int); omega, by show (y : Int) ≤ _; omega⟩, ⟨by show (0 : Int) ≤ (z : Int); omega, by show (z : Int) ≤ _; omega⟩⟩]
  exact (pd5_eq hN h6 h4 (by omega) (by omega) (by omega) q1 q2 q3 (key num den e)).1 h3 rfl
 rw [top_eq hN h6 h4 (by omega) (by omega)]
 by_cases c : (pr (60 * (n * k * 60)) d).1 = 0
 ·have hden : (pr (60 * (n * k * 60)) d).2 = 1 := by have := hf.2.2.1; rw [c, Nat.gcd_zero_left] at this; exact this
  have ht : tailL (pr (60 * (n * k * 60)) d) = [] := by unfold tailL; rw [if_pos c]
  rw [ht] at hsz
  rw [if_pos (by simpa using hsz)]
  exact fin 0 1 (by rw [← c, ← hden]) (by omega) (by omega) (by omega)
 ·have ht : tailL (pr (60 * (n * k * 60)) d) = 43 :: (Lib.decDigits (pr (60 * (n * k * 60)) d).1 ++ 47 :: Lib.decDigits (pr (60 * (n * k * 60)) d).2) := by unfold tailL; rw [if_neg c]; simp
  rw [if_neg (by rw [hsz, ht]; simp)]
  have hQ := ext_rest (s := bsOf (timeL (n * k * 60) d)) (by rw [hsz, ht]; simp; omega)
  dsimp only
  generalize ((bsOf (timeL (n * k * 60) d)).extract 8 (bsOf (timeL (n * k * 60) d)).size).extract 1 ((bsOf (timeL (n * k * 60) d)).extract 8 (bsOf (timeL (n * k * 60) d)).size).size = Q at *
  rw [hl, ht] at hQ
  have hc := cut_sep (x := Lib.decDigits (pr (60 * (n * k * 60)) d).1) (y := Lib.decDigits (pr (60 * (n * k * 60)) d).2) hQ (no47 _)
  rw [hc]
  dsimp only
  rw [RN_dec (by omega), RN_dec (by omega), if_pos ⟨rfl, rfl, by show ¬ (((pr (60 * (n * k * 60)) d).2 : Nat) : Int) = 0; omega⟩]
  exact fin (pr (60 * (n * k * 60)) d).1 (pr (60 * (n * k * 60)) d).2 rfl (by omega) (by omega) (by omega)
theorem parse_eq {N : Nat} (hN : 1000000000000 < N) (h : Int) (s : ByteArray) (hsz : s.size ≤ 1048576) : ∃ r, zq28.g N h s = some r ∧ spec_ParseTime.g N h s = some r ∧ Reads h s r := by
 obtain ⟨r, h1, h2⟩ := impl_tot hN h s hsz
 obtain ⟨r', h3, h4⟩ := spec_tot hN h s hsz
 refine ⟨r, h1, ?_, h2⟩
 rw [h3]
 rcases h2 with h2 | ⟨k, n, d, e1, e2, e3, e4⟩
 ·rcases h4 with h4 | ⟨k, n, d, e1, e2, e3, e4⟩
  ·rw [h2, h4]
  ·subst e1 e3
   rw [zq68 hN e2] at h1
   rw [e4]; exact h1
 ·subst e1 e3
  rw [spec_read hN e2] at h3
  rw [e4, ← h3]
theorem rn_dec {n L : Nat} (hn : n ≤ L) (hL : n < 1000000000000000000) : zq69.v (bsOf (Lib.decDigits n)) (L : Int) = ((n : Int), true) := by
 unfold zq69.v
 rw [bsOf_list, atoi_dec (by omega)]
 show (if 0 ≤ (n : Int) ∧ (n : Int) ≤ (L : Int) then (if Lib.itoa n = (bsOf (Lib.decDigits n)).toList then ((n : Int), true) else (0, false)) else (0, false)) = _
 rw [if_pos ⟨by omega, by omega⟩, if_pos]
 rw [bs_toList, bsOf_list]
 unfold Lib.itoa
 rw [if_neg (by omega)]; simp
theorem rn_of {p : ByteArray} {L : Nat} : (∃ n : Nat, n ≤ L ∧ p = bsOf (Lib.decDigits n) ∧ zq69.v p (L : Int) = ((n : Int), true)) ∨ zq69.v p (L : Int) = (0, false) := by
 unfold zq69.v
 rcases ha : Lib.atoiAll p.data.toList with v | _ | _
 ·simp only
  by_cases c : 0 ≤ v ∧ v ≤ (L : Int)
  ·rw [if_pos c]
   by_cases c2 : Lib.itoa v = p.toList
   ·rw [if_pos c2]
    refine .inl ⟨v.toNat, by omega, ?_, by rw [show ((v.toNat : Nat) : Int) = v by omega]⟩
    apply bs_ext
    rw [bsOf_list, ← bs_toList, ← c2]
    unfold Lib.itoa
    rw [if_neg (by omega)]
   ·rw [if_neg c2]; exact .inr rfl
  ·rw [if_neg c]; exact .inr rfl
 ·exact .inr rfl
 ·exact .inr rfl
theorem rn_g (N : Nat) {p : ByteArray} {L : Nat} (h : p.size ≤ 281474976710656) (hL : L ≤ 9223372036854775807) : zq69.g N p (L : Int) = some (zq69.v p (L : Int)) := by
 unfold zq69.g
 rw [dcT h, dcT (by omega)]; rfl
theorem word_num {N : Nat} (hN : 10000 ≤ N) (s : ByteArray) (hs : s.size ≤ 1048576) : (∃ n : Nat, n ≤ 999999 ∧ zq69.g N s 999999 = some ((n : Int), true) ∧ zq176.g N s = some (n : Int)) ∨ (zq69.g N s 999999 = some (0, false) ∧ ∃ z : Int, z < 0 ∧ zq176.g N s = some z) := by
 have hg := rn_g N (p := s) (L := 999999) (by omega) (by omega)
 rw [l1Read_eq hN]
 rcases rn_of (p := s) (L := 999999) with ⟨n, h1, h2, h3⟩ | h
 ·refine .inl ⟨n, h1, ?_, ?_⟩
  ·exact hg.trans (congrArg some h3)
  ·rw [h2, read_dec (by omega)]
 ·refine .inr ⟨hg.trans (congrArg some h), readL s, ?_, rfl⟩
  refine Int.not_le.1 fun h0 => ?_
  obtain ⟨e, hlt⟩ := read_is (s := s) rfl h0
  have := rn_dec (n := (readL s).toNat) (L := 999999) (by omega) (by omega)
  rw [← e, show zq69.v s ((999999 : Nat) : Int) = (0, false) from h] at this
  exact Bool.noConfusion (congrArg Prod.snd this)
theorem cut_at (s : ByteArray) : ((cutB s).2 = ⟨#[]⟩) ∨ s.data.toList = (cutB s).1.data.toList ++ 47 :: (cutB s).2.data.toList := by
 have hlen : s.data.toList.length = s.size := Array.length_toList
 unfold cutB
 by_cases c : Lib.indexByte s.data.toList 47 < 0
 ·rw [if_pos c]; exact .inl rfl
 ·rw [if_neg c]
  obtain ⟨i, hi⟩ := Int.eq_ofNat_of_zero_le (show 0 ≤ Lib.indexByte s.data.toList 47 by omega)
  obtain ⟨h1, _⟩ := Lib.indexByte_some hi
  obtain ⟨hl, h2⟩ := List.getElem?_eq_some_iff.1 h1
  refine .inr ?_
  rw [hi, tN]
  dsimp only
  rw [extract_list, extract_list, List.drop_zero, List.take_of_length_le (l := s.data.toList) (i := s.size) (by omega), ← h2, List.getElem_cons_drop, List.take_append_drop]
theorem dig_ne (n : Nat) : bsOf (Lib.decDigits n) ≠ ⟨#[]⟩ := fun h => dec_ne n (by have := congrArg (·.data.toList) h; simpa [bsOf_list] using this)
theorem million : (⟨#[49, 48, 48, 48, 48, 48, 48]⟩ : ByteArray) = bsOf (Lib.decDigits 1000000) := by
 apply bs_ext
 rw [bsOf_list]
 decide +kernel
theorem size_list (s : ByteArray) : s.size = s.data.toList.length := Array.length_toList.symm
theorem ParseSpan_eq {N : Nat} (hN : 10000000 ≤ N) (s : ByteArray) (hs : s.size ≤ 1000000) : ∃ r, zq27.g N s = some r ∧ zq120.g N s = some r ∧ (r = (0, 0, false) ∨ ∃ p q : Nat, r = ((p : Int), (q : Int), true) ∧ spanB p q = true) := by
 obtain ⟨bb, hcut⟩ := cut_eq N s (by omega)
 obtain ⟨z1, z2⟩ := cutB_size s
 have hw := hs
 have e10 : (10 : Nat) ^ 7 = 10000000 := by decide
 have e5 : (10 : Nat) ^ 5 = 100000 := by decide
 have hsp := l1Split_eq (N := N) s 47 (by omega) (by omega)
 have hsp : zq178.g N s 47 = some (pieces 47 s) := hsp
 -- what the reference says of two parts
 have two : ∀ x y : List UInt8, splitL 47 s.data.toList = [x, y] → s.size ≤ 20 → zq120.g N s = zq120.d2 N 0 0 (if bsOf x = bsOf (Lib.decDigits 1000000) then 1000000 else readL (bsOf x)) (readL (bsOf y)) := by
  intro x y hxy h20
  have hp : pieces 47 s = [bsOf x, bsOf y] := by unfold pieces; rw [hxy]; rfl
  unfold zq120.g zq120.o0
  rw [hsp, oB, hp, dcF (by omega), cF]
  unfold zq120.d1 zq120.o1
  simp only [List.length_cons, List.length_nil, Nat.zero_add, show ((1 + 1 : Nat) : Int) = 2 from rfl, bne_self_eq_false, cF, show decide ((0 : Int) < 2) = true from rfl, show decide ((1 : Int) < 2) = true from rfl, cT, show (0 : Int).toNat = 0 from rfl, show (1 : Int).toNat = 1 from rfl, List.getElem?_cons_zero, List.getElem?_cons_succ, oB, l1Read_eq (show 10000 ≤ N by omega)]
  rw [million]
  by_cases c : bsOf x = bsOf (Lib.decDigits 1000000)
  ·rw [if_pos c, c, beq_self_eq_true, cT]
  ·rw [if_neg c]
   have : ((bsOf x).toList == (bsOf (Lib.decDigits 1000000)).toList) = false := by
    cases hq : ((bsOf x).toList == (bsOf (Lib.decDigits 1000000)).toList) with
    | false => rfl
    | true =>
     have hq := eq_of_beq hq
     rw [bs_toList, bs_toList] at hq
     exact absurd (bs_ext hq) c
   rw [this, cF]
 have no : (¬ (∃ x y, splitL 47 s.data.toList = [x, y]) ∨ s.size > 20) → zq120.g N s = some (0, 0, false) := by
  intro h
  unfold zq120.g zq120.o0
  rw [hsp, oB]
  by_cases h20 : (s.size : Int) > 20
  ·rw [dcT h20]; rfl
  ·rw [dcF h20, cF]
   have hx := h.resolve_right (by omega)
   have hl : (pieces 47 s).length ≠ 2 := by
    intro h2
    unfold pieces at h2
    rw [List.length_map] at h2
    match hq : splitL 47 s.data.toList, h2 with
    | [x, y], _ => exact hx ⟨x, y, hq⟩
   rw [ineT (show ¬ ((pieces 47 s).length : Int) = 2 by omega)]; rfl
 have d2 : ∀ n d : Int, zq120.d2 N 0 0 n d = some (if spanB n d = true then (n, d, true) else (0, 0, false)) := by
  intro n d
  unfold zq120.d2 zq120.o2
  rw [(IsSpan_eq hN _ _).2, oB]
  cases spanB n d <;> rfl
 have hi : zq27.g N s = some (if (zq69.v (cutB s).1 1000000).2 = true ∧ (zq69.v (cutB s).2 10000).2 = true ∧ spanB (zq69.v (cutB s).1 1000000).1 (zq69.v (cutB s).2 10000).1 = true then ((zq69.v (cutB s).1 1000000).1, (zq69.v (cutB s).2 10000).1, true) else (0, 0, false)) := by
  have g1 : zq69.g N (cutB s).1 1000000 = some (zq69.v (cutB s).1 1000000) := rn_g N (L := 1000000) (by omega) (by omega)
  have g2 : zq69.g N (cutB s).2 10000 = some (zq69.v (cutB s).2 10000) := rn_g N (L := 10000) (by omega) (by omega)
  unfold zq27.g zq27.o0
  rw [hcut, oB]
  dsimp only
  rw [g1, oB, g2, oB]
  generalize zq69.v (cutB s).1 1000000 = u
  generalize zq69.v (cutB s).2 10000 = v
  obtain ⟨u1, u2⟩ := u
  obtain ⟨v1, v2⟩ := v
  cases u2 with
  | false => rfl
  | true =>
   cases v2 with
   | false => rfl
   | true =>
    dsimp only
    rw [nT, cF, cF, (IsSpan_eq hN _ _).1, oB]
    cases hb : spanB u1 v1 with
    | false => simp [zq27.d1, zq27.o1]
    | true => simp [zq27.d1, zq27.o1]
 rw [hi]
 by_cases hok : (zq69.v (cutB s).1 1000000).2 = true ∧ (zq69.v (cutB s).2 10000).2 = true ∧ spanB (zq69.v (cutB s).1 1000000).1 (zq69.v (cutB s).2 10000).1 = true
 ·rw [if_pos hok]
  obtain ⟨k1, k2, k3⟩ := hok
  rcases rn_of (p := (cutB s).1) (L := 1000000) with ⟨n, n1, n2, n3⟩ | h
  rotate_left
  ·rw [show zq69.v (cutB s).1 1000000 = (0, false) from h] at k1; cases k1
  rcases rn_of (p := (cutB s).2) (L := 10000) with ⟨d, d1, d2', d3⟩ | h
  rotate_left
  ·rw [show zq69.v (cutB s).2 10000 = (0, false) from h] at k2; cases k2
  have n3 : zq69.v (cutB s).1 1000000 = ((n : Int), true) := n3
  have d3 : zq69.v (cutB s).2 10000 = ((d : Int), true) := d3
  rw [n3, d3] at k3 ⊢
  dsimp only at k3 ⊢
  have hat := (cut_at s).resolve_left (by rw [d2']; exact dig_ne d)
  rw [n2, d2', bsOf_list, bsOf_list] at hat
  have hsl := split_two (no47 n) (no47 d)
  rw [← hat] at hsl
  have ln := dec_len 6 n (by omega)
  have ld := dec_len 4 d (by omega)
  have hsz : s.size ≤ 20 := by rw [size_list, hat, List.length_append, List.length_cons]; omega
  refine ⟨_, rfl, ?_, .inr ⟨n, d, rfl, k3⟩⟩
  rw [two _ _ hsl hsz, d2, read_dec (n := d) (by omega)]
  by_cases c : bsOf (Lib.decDigits n) = bsOf (Lib.decDigits 1000000)
  ·rw [if_pos c]
   have hc : Lib.decDigits n = Lib.decDigits 1000000 := by have := congrArg (·.data.toList) c; simpa [bsOf_list] using this
   have hv := valD_dec n
   rw [hc, valD_dec] at hv
   subst hv
   exact congrArg some (if_pos (show spanB 1000000 (d : Int) = true from k3))
  ·rw [if_neg c, read_dec, if_pos k3]
   refine Nat.lt_of_le_of_ne n1 fun h => c (by rw [h])
 ·rw [if_neg hok]
  refine ⟨_, rfl, ?_, .inl rfl⟩
  by_cases hx : (∃ x y, splitL 47 s.data.toList = [x, y]) ∧ s.size ≤ 20
  ·obtain ⟨⟨x, y, hxy⟩, h20⟩ := hx
   rw [two x y hxy h20, d2]
   by_cases hsb : spanB (if bsOf x = bsOf (Lib.decDigits 1000000) then 1000000 else readL (bsOf x)) (readL (bsOf y)) = true
   ·exfalso
    refine hok ?_
    obtain ⟨p, q, ep, eq, p1, q1, q2⟩ := spanB_nat hsb
    have hat := two_split hxy
    obtain ⟨ey, yl⟩ := read_is (s := bsOf y) (n := (q : Int)) eq (by omega)
    rw [tN] at ey
    have hy : y = Lib.decDigits q := by have := congrArg (·.data.toList) ey; simpa [bsOf_list] using this
    have hxp : bsOf x = bsOf (Lib.decDigits p) := by
     by_cases c : bsOf x = bsOf (Lib.decDigits 1000000)
     ·rw [if_pos c] at ep
      rw [c, show p = 1000000 by omega]
     ·rw [if_neg c] at ep
      have := (read_is (s := bsOf x) (n := (p : Int)) ep (by omega)).1
      rwa [tN] at this
    have hxd : x = Lib.decDigits p := by have := congrArg (·.data.toList) hxp; simpa [bsOf_list] using this
    subst hy; subst hxd
    have hc := cut_sep hat (no47 p)
    rw [hc]
    have r1 : zq69.v (bsOf (Lib.decDigits p)) 1000000 = ((p : Int), true) := rn_dec (L := 1000000) p1 (by omega)
    have r2 : zq69.v (bsOf (Lib.decDigits q)) 10000 = ((q : Int), true) := rn_dec (L := 10000) q2 (by omega)
    dsimp only
    rw [r1, r2]
    refine ⟨rfl, rfl, ?_⟩
    rw [ep, eq] at hsb
    exact hsb
   ·rw [if_neg hsb]
  ·refine no ?_
   by_cases h1 : ∃ x y, splitL 47 s.data.toList = [x, y]
   ·exact .inr (Nat.not_le.1 fun h => hx ⟨h1, h⟩)
   ·exact .inl h1
def frT (p q : Nat) : ByteArray := bsOf (Lib.decDigits p ++ [47] ++ Lib.decDigits q)
def noT : ByteArray := ⟨#[110, 111]⟩
theorem fr_gen {N p q : Nat} (hN : 100 ≤ N) (hp : p ≤ 100000000000) (hq : q ≤ 100000000000) : zq78.g N p q = some (frT p q) ∧ zq75.g N p q = some (frT p q) ∧ zq139.g N p q true = some (frT p q) ∧ zq136.g N p q true = some (frT p q) := by
 have e12 : (10 : Nat) ^ 12 = 1000000000000 := by decide
 have l1 := dec_len 11 p (by omega)
 have l2 := dec_len 11 q (by omega)
 unfold zq78.g zq78.o0 zq75.g zq75.o0 zq139.g zq139.o0 zq136.g zq136.o0 frT
 rw [itoa_eq N (by omega), itoa_eq N (by omega), num_eq hN (by omega), num_eq hN (by omega)]
 simp only [oB, nT, cF]
 rw [hb (by simp [lit47, bsOf_size]; omega), hb (by simp [lit47, bsOf_size, bsOf_append]; omega), lit47, bsOf_append, bsOf_append]
 exact ⟨rfl, rfl, rfl, rfl⟩
def mkT (a b : Nat) : Int × Int × Bool := if 1 ≤ b then (((pr a b).1 : Int), ((pr a b).2 : Int), true) else (0, 0, false)
theorem Make_eq {N a b : Nat} (hN : 1000000000000 < N) (ha : a ≤ 999999) (hb : b ≤ 999999) : zq25.g N a b = some (mkT a b) ∧ zq119.g N a b = some (mkT a b) := by
 unfold zq25.g zq25.o0 zq119.g zq119.o0 mkT
 have h1 : inB (a : Int) (-1000000000000) 1000000000000 = true := inB_iff.2 (by omega)
 rw [within_eq, within_eq, l1In_eq, l1In_eq, h1]
 simp only [oB, nT, cF]
 by_cases h : 1 ≤ b
 ·have h2 : inB (b : Int) 1 1000000000000 = true := inB_iff.2 (by omega)
  have hs := pr_spec (n := a) (d := b) (by omega)
  rw [h2, if_pos h, nT]
  unfold zq25.d1 zq25.o1 zq119.d1 zq119.o1
  rw [cF, cF, part_eq (by omega) (by omega) (by omega) (by omega), make_eq (by omega) (by omega) (by omega), oB, oB]
  dsimp only
  rw [ifTurn_pr (by omega) (by omega), mkV_ok (by omega)]
  exact ⟨rfl, rfl⟩
 ·have h2 : inB (b : Int) 1 1000000000000 = false := inB_not.2 (by omega)
  rw [h2, if_neg h]
  exact ⟨rfl, rfl⟩
theorem two_turns {N a b c d : Nat} (hN : 10000000 ≤ N) (h1 : Turn a b) (h2 : Turn c d) : zq44.g N ([(⟨(a : Int), (b : Int)⟩ : S25), (⟨(c : Int), (d : Int)⟩ : S25)] : List S25) = some true := by
 rw [areTurns_eq hN _ (by simp)]
 simp [turnB_T h1, turnB_T h2]
theorem Add_eq {N a b c d : Nat} (hN : 1000000000000 < N) (h1 : Turn a b) (h2 : Turn c d) : zq2.g N a b c d = some (mkV (fadd (a, b) (c, d))) ∧ zq104.g N a b c d = some (mkV (fadd (a, b) (c, d))) := by
 unfold zq2.g zq2.o0 zq104.g zq104.o0
 rw [two_turns (by omega) h1 h2, diGood_eq (by omega), diGood_eq (by omega), turnB_T h1, turnB_T h2]
 simp only [oB, nT, cF]
 rw [plus_eq hN h1 h2, oB]
 unfold zq104.d1 zq104.o1
 dsimp only
 rw [diAdd_plus hN h1 h2, cF]
 constructor
 ·have := ifTurn_pr (N := N) (n := a * d + c * b) (by omega) (Nat.mul_pos h1.p h2.p)
  show ((zq56.g N ((fadd (a, b) (c, d)).1 : Int) ((fadd (a, b) (c, d)).2 : Int)).bind _) = _
  rw [show zq56.g N ((fadd (a, b) (c, d)).1 : Int) ((fadd (a, b) (c, d)).2 : Int) = some (mkV (fadd (a, b) (c, d))) from this]; rfl
 ·rfl
theorem Less_eq {N a b c d : Nat} (hN : 1000000000000 < N) (h1 : Turn a b) (h2 : Turn c d) : zq23.g N a b c d = some (mkV (fsub (a, b) (c, d))) ∧ zq117.g N a b c d = some (mkV (fsub (a, b) (c, d))) := by
 unfold zq23.g zq23.o0 zq117.g zq117.o0
 rw [two_turns (by omega) h1 h2, diGood_eq (by omega), diGood_eq (by omega), turnB_T h1, turnB_T h2]
 simp only [oB, nT, cF]
 rw [minus_eq hN h1 h2, oB]
 unfold zq117.d1 zq117.o1
 dsimp only
 rw [diAdd_minus hN h1 h2, cF]
 constructor
 ·have := ifTurn_pr (N := N) (n := a * d + (b * d - c * b)) (by omega) (Nat.mul_pos h1.p h2.p)
  show ((zq56.g N ((fsub (a, b) (c, d)).1 : Int) ((fsub (a, b) (c, d)).2 : Int)).bind _) = _
  rw [show zq56.g N ((fsub (a, b) (c, d)).1 : Int) ((fsub (a, b) (c, d)).2 : Int) = some (mkV (fsub (a, b) (c, d))) from this]; rfl
 ·rfl
theorem Count_eq {N k : Nat} (h1 : 2 ≤ k) (h2 : k ≤ 24) : zq7.g N k = some (((k * k - k : Nat) : Int), true) ∧ zq108.g N k = some (((k * k - k : Nat) : Int), true) := by
 have e1 : 2 * k ≤ k * k := Nat.mul_le_mul_right k h1
 have e2 : k * k ≤ 24 * 24 := Nat.mul_le_mul h2 h2
 have hb : inB (k : Int) 2 24 = true := inB_iff.2 (by omega)
 unfold zq7.g zq7.o0 zq108.g zq108.o0
 rw [isDial_eq, diHours_eq, hb, oB, oB, nT, cF, cF, ← Int.natCast_mul, w64n (a := k * k) (by omega)]
 constructor
 ·rw [w64s (by omega) (by omega), show ((k * k : Nat) : Int) - (k : Int) = ((k * k - k : Nat) : Int) by omega]
 ·rw [w64s (n := ((k * k : Nat) : Int) - 1) (by omega) (by omega), w64s (n := (k : Int) - 1) (by omega) (by omega), w64s (by omega) (by omega), show ((k * k : Nat) : Int) - 1 - ((k : Int) - 1) = ((k * k - k : Nat) : Int) by omega]
def tailT (r : List ByteArray) : List UInt8 := Lib.joinTail [44] (r.map (·.data.toList))
def joinT : List ByteArray → ByteArray
 | [] => ⟨#[45]⟩
 | x :: r => bsOf (x.data.toList ++ tailT r)
theorem tailT_cons (x : ByteArray) (r : List ByteArray) : tailT (x :: r) = [44] ++ x.data.toList ++ tailT r := by
 unfold tailT Lib.joinTail
 simp
theorem tailT_len : ∀ (r : List ByteArray) (m : Nat), (∀ x ∈ r, x.size ≤ m) → (tailT r).length ≤ (m + 1) * r.length
 | [], m, h => by unfold tailT Lib.joinTail; simp
 | x :: r, m, h => by
  have ih := tailT_len r m fun y hy => h y (List.mem_cons_of_mem _ hy)
  have hx := h x (List.mem_cons_self ..)
  rw [size_list] at hx
  rw [tailT_cons]
  simp only [List.length_append, List.length_cons, List.length_nil]
  rw [Nat.mul_add]
  omega
theorem lit44 : (⟨#[44]⟩ : ByteArray) = bsOf [44] := rfl
theorem texts_l {N : Nat} (r : List ByteArray) (hr : r.length ≤ 1000000) (hm : ∀ x ∈ r, x.size ≤ 40) : ∀ (j i f : Nat) (L : List UInt8), i + j = r.length → j < f → L.length ≤ 41 * (i + 1) →
  zq138.l1 N f (bsOf L) r r.length i = some (bsOf (L ++ tailT (r.drop i)))
 | 0, i, f+1, L, hi, hf, hL => by
  unfold zq138.l1 zq138.d1 zq138.o1
  rw [dcF (by omega), cF, List.drop_eq_nil_of_le (by omega)]
  show _ = some (bsOf (L ++ []))
  rw [List.append_nil]
 | j+1, i, f+1, L, hi, hf, hL => by
  have hlt : i < r.length := by omega
  have hx := hm r[i] (List.getElem_mem hlt)
  have hx2 := hx
  rw [size_list] at hx2
  unfold zq138.l1 zq138.d1 zq138.o1
  rw [dcT (show (i : Int) < (r.length : Int) by omega), cT, dcT (show (0 : Int) ≤ (i : Int) by omega), cT, cT, tN, getAt hlt, lit44, bsOf_lit r[i], bsOf_append, bsOf_append]
  rw [Nat.ble_eq_true_of_le (by rw [bsOf_size, bsOf_size]; simp only [List.length_cons, List.length_nil]; omega), cT, Nat.ble_eq_true_of_le (by rw [bsOf_size, bsOf_size]; simp only [List.length_append, List.length_cons, List.length_nil]; omega), cT, w1add (by omega)]
  refine (texts_l r hr hm j (i + 1) f _ (by omega) (by omega) (by simp only [List.length_append, List.length_cons, List.length_nil]; omega)).trans ?_
  rw [List.drop_eq_getElem_cons hlt, tailT_cons]
  simp only [List.append_assoc]
 | _, _, 0, _, _, hf, _ => by omega
theorem coTexts_eq {N : Nat} (ts : List ByteArray) (hN : 1000000 < N) (hr : ts.length ≤ 1000000) (hm : ∀ x ∈ ts, x.size ≤ 40) : zq138.g N ts = some (joinT ts) := by
 match ts, hr, hm with
 | [], _, _ => rfl
 | x :: r, hr, hm =>
  have hx := hm x (List.mem_cons_self ..)
  rw [size_list] at hx
  simp only [List.length_cons] at hr
  have h := texts_l (N := N) r (by omega) (fun y hy => hm y (List.mem_cons_of_mem _ hy)) r.length 0 N x.data.toList (by omega) (by omega) (by omega)
  unfold zq138.g zq138.o0
  rw [ieqF (by simp only [List.length_cons]; omega), cF, dcT (by simp only [List.length_cons]; omega), cT]
  show (bif decide ((0 : Int) ≤ ((x :: r).length : Int)) then _ else none) = _
  rw [dcT (by omega), cT, dcT (Int.le_refl _), cT, dcT (by simp only [List.length_cons]; omega), cT, tN, List.take_length]
  rw [bsOf_eq] at h
  exact h
theorem joinOr_eq {N : Nat} (ts : List ByteArray) (hr : ts.length ≤ 1000000) (hm : ∀ x ∈ ts, x.size ≤ 40) : zq65.g N ts = some (joinT ts) := by
 match ts, hr, hm with
 | [], _, _ => rfl
 | x :: r, hr, hm =>
  have hx := hm x (List.mem_cons_self ..)
  rw [size_list] at hx
  have ht := tailT_len r 40 fun y hy => hm y (List.mem_cons_of_mem _ hy)
  simp only [List.length_cons] at hr
  have hj : Lib.join ((x :: r).map (·.data.toList)) [44] = x.data.toList ++ tailT r := by
   rw [List.map_cons, Lib.join_cons]; rfl
  unfold zq65.g zq65.o0
  rw [ieqF (by simp only [List.length_cons]; omega), cF]
  have hg : zq187.g N (x :: r) (⟨#[44]⟩ : ByteArray) = (bif decide ((Lib.join ((x :: r).map (·.data.toList)) [44]).length ≤ 140737488355328 ∧ (x :: r).length ≤ 140737488355328) then some ⟨(Lib.join ((x :: r).map (·.data.toList)) [44]).toArray⟩ else none) := rfl
  rw [hg, hj, dcT ⟨by rw [List.length_append]; omega, by simp only [List.length_cons]; omega⟩]
  rfl
def trT (f : Nat × Nat) : ByteArray := frT f.1 f.2
def Sml (f : Nat × Nat) : Prop := f.1 ≤ 1000000 ∧ f.2 ≤ 1000000
theorem trT_size {f : Nat × Nat} (h : Sml f) : (trT f).size ≤ 40 := by
 have e7 : (10 : Nat) ^ 7 = 10000000 := by decide
 have l1 := dec_len 6 f.1 (by have := h.1; omega)
 have l2 := dec_len 6 f.2 (by have := h.2; omega)
 unfold trT frT
 rw [bsOf_size]
 simp only [List.length_append, List.length_cons, List.length_nil]
 omega
theorem trT_all {l : List (Nat × Nat)} (h : ∀ t ∈ l, Sml t) : ∀ x ∈ l.map trT, x.size ≤ 40 := by
 intro x hx
 obtain ⟨t, ht, rfl⟩ := List.mem_map.1 hx
 exact trT_size (h t ht)
theorem map_take_succ {α β : Type} (g : α → β) {l : List α} {i : Nat} (h : i < l.length) : (l.take i).map g ++ [g l[i]] = (l.take (i + 1)).map g := by
 rw [List.take_succ_eq_append_getElem h, List.map_append]; rfl
theorem with_l {N : Nat} (hN : 1000000 < N) {l : List (Nat × Nat)} (hl : l.length ≤ 24) (hs : ∀ t ∈ l, Sml t) (b1 b2 : Bool) : ∀ (j i f : Nat), i + j = l.length → j < f →
  zq80.l1 N f b1 b2 ((l.take i).map trT) (l.map sT) l.length i = some (joinT (l.map trT), b1 && b2)
 | 0, i, f+1, hi, hf => by
  unfold zq80.l1 zq80.d1 zq80.o1
  rw [dcF (by omega), cF, List.take_of_length_le (by omega), joinOr_eq _ (by rw [List.length_map]; omega) (trT_all hs)]
  cases b1 <;> rfl
 | j+1, i, f+1, hi, hf => by
  have hlt : i < l.length := by omega
  have hm : i < (l.map sT).length := by rw [List.length_map]; exact hlt
  have hx := hs l[i] (List.getElem_mem hlt)
  have e : (l.map sT)[i] = sT l[i] := List.getElem_map ..
  have ft := (fr_gen (N := N) (p := l[i].1) (q := l[i].2) (by omega) (by have := hx.1; omega) (by have := hx.2; omega)).1
  unfold zq80.l1 zq80.d1 zq80.o1
  rw [dcT (by omega), cT, dcT (by omega), cT, dcT (by omega), cT, tN, getAt hm, e]
  show ((zq78.g N (l[i].1 : Int) (l[i].2 : Int)).bind _) = _
  rw [ft, oB, blT (by simp; omega), cT, w1add (by omega)]
  have ih := with_l hN hl hs b1 b2 j (i + 1) f (by omega) (by omega)
  rw [← map_take_succ trT hlt] at ih
  exact ih
 | _, _, 0, _, hf => by omega
theorem turns_l {N : Nat} (hN : 1000000 < N) {l : List (Nat × Nat)} (hl : l.length ≤ 24) (hs : ∀ t ∈ l, Sml t) : ∀ (j i f : Nat), i + j = l.length → j < f →
  zq140.l2 N f ((l.take i).map trT) (l.map sT) l.length i = some (joinT (l.map trT))
 | 0, i, f+1, hi, hf => by
  unfold zq140.l2 zq140.d2 zq140.o2
  rw [dcF (by omega), cF, List.take_of_length_le (by omega), coTexts_eq _ hN (by rw [List.length_map]; omega) (trT_all hs)]; rfl
 | j+1, i, f+1, hi, hf => by
  have hlt : i < l.length := by omega
  have hm : i < (l.map sT).length := by rw [List.length_map]; exact hlt
  have hx := hs l[i] (List.getElem_mem hlt)
  have e : (l.map sT)[i] = sT l[i] := List.getElem_map ..
  have ft := (fr_gen (N := N) (p := l[i].1) (q := l[i].2) (by omega) (by have := hx.1; omega) (by have := hx.2; omega)).2.2.1
  unfold zq140.l2 zq140.d2 zq140.o2
  rw [dcT (by omega), cT, dcT (by omega), cT, dcT (by omega), cT, tN, getAt hm, e]
  show ((zq139.g N (l[i].1 : Int) (l[i].2 : Int) true).bind _) = _
  rw [ft, oB, blT (by simp; omega), cT, w1add (by omega)]
  have ih := turns_l hN hl hs j (i + 1) f (by omega) (by omega)
  rw [← map_take_succ trT hlt] at ih
  exact ih
 | _, _, 0, _, hf => by omega
def reply (x : ByteArray × Bool) : ByteArray := if x.2 = true then x.1 else noT
theorem tW_list (h n d : Int) : ∃ l : List (Nat × Nat), (tW h n d).1 = l.map sT ∧ l.length ≤ 24 ∧ ∀ t ∈ l, Sml t := by
 unfold tW
 split
 ·rename_i hb
  obtain ⟨k, a, b, rfl, h1, h2, rfl, rfl, T⟩ := timeB_iff.1 hb
  simp only [tN]
  unfold timesL
  split
  ·rename_i hok
   refine ⟨(List.range' 0 (k - 1)).map (rt a b (k - 1)), ?_, by rw [List.length_map, List.length_range']; omega, ?_⟩
   ·unfold rts; rw [List.map_map]; rfl
   ·intro t ht
    obtain ⟨x, hx, rfl⟩ := List.mem_map.1 ht
    have h3 : (rt a b (k - 1) x).2 ≤ 1000000 := of_decide_eq_true (List.all_eq_true.1 hok x hx)
    have h4 : (rt a b (k - 1) x).1 < (rt a b (k - 1) x).2 := (pr_spec (n := a + x * b) (d := b * (k - 1)) (Nat.mul_pos T.p (by omega))).1
    exact ⟨by omega, h3⟩
  ·exact ⟨[], rfl, by simp, by simp⟩
 ·exact ⟨[], rfl, by simp, by simp⟩
theorem with_reply {N k n d : Nat} (hN : 100000000000000 < N) (hn : n ≤ 999999) (hd : d ≤ 999999) : ∃ x, zq80.g N k n d = some x ∧
  (((mkT n d).2.2 = false ∧ x.2 = false) ∨ ((mkT n d).2.2 = true ∧ zq140.g N (tW k (mkT n d).1 (mkT n d).2.1).1 (tW k (mkT n d).1 (mkT n d).2.1).2 = some (reply x))) := by
 obtain ⟨l, e, hl, hs⟩ := tW_list k (mkT n d).1 (mkT n d).2.1
 have hw := with_l (N := N) (by omega) hl hs (mkT n d).2.2 (tW k (mkT n d).1 (mkT n d).2.1).2 l.length 0 N (by omega) (by omega)
 have ht := turns_l (N := N) (by omega) hl hs l.length 0 N (by omega) (by omega)
 refine ⟨(joinT (l.map trT), (mkT n d).2.2 && (tW k (mkT n d).1 (mkT n d).2.1).2), ?_, ?_⟩
 ·unfold zq80.g zq80.o0
  rw [(Make_eq (by omega) hn hd).1, oB, (With_eq hN _ _ _).1, oB, e, List.length_map]
  exact hw
 ·cases hm : (mkT n d).2.2 with
  | false => exact .inl ⟨rfl, rfl⟩
  | true =>
   refine .inr ⟨rfl, ?_⟩
   unfold zq140.g zq140.o0 reply
   cases hq : (tW k (mkT n d).1 (mkT n d).2.1).2 with
   | false => rfl
   | true =>
    obtain ⟨M, rfl⟩ : ∃ M, N = M + 1 := ⟨N - 1, by omega⟩
    rw [e, List.length_map]
    exact ht
theorem chain_at {num den most : Nat} : ∀ {R : List (Nat × Nat)} {lp lq i : Nat} {f : Nat × Nat}, Chain num den most lp lq R → R[i]? = some f → f.2 ≤ most ∧ f.1 ≤ f.2
 | (p, q) :: t, lp, lq, 0, f, h, hf => by
  simp only [List.getElem?_cons_zero, Option.some.injEq] at hf
  subst hf
  exact ⟨h.1.1, h.1.2.1⟩
 | (p, q) :: t, lp, lq, i+1, f, h, hf => by
  rw [List.getElem?_cons_succ] at hf
  exact chain_at h.2 hf
 | [], _, _, _, _, _, hf => by simp at hf
theorem chain_sml {num den most : Nat} (hm : most ≤ 100000) {R : List (Nat × Nat)} {lp lq : Nat} (h : Chain num den most lp lq R) : ∀ t ∈ R, Sml t := by
 intro t ht
 obtain ⟨i, hi⟩ := List.mem_iff_getElem?.1 ht
 have := chain_at h hi
 exact ⟨by omega, by omega⟩
theorem best_l {N : Nat} (hN : 1000000 < N) {R : List (Nat × Nat)} (hl : R.length ≤ 200000) (hs : ∀ t ∈ R, Sml t) (ok : Bool) : ∀ (j i f : Nat), i + j = R.length → j < f →
  zq47.l1 N f ok ((R.take i).map trT) (R.map row) R.length i = some (joinT (R.map trT), ok)
 | 0, i, f+1, hi, hf => by
  unfold zq47.l1 zq47.d1 zq47.o1
  rw [dcF (by omega), cF, List.take_of_length_le (by omega), joinOr_eq _ (by rw [List.length_map]; omega) (trT_all hs)]; rfl
 | j+1, i, f+1, hi, hf => by
  have hlt : i < R.length := by omega
  have hm : i < (R.map row).length := by rw [List.length_map]; exact hlt
  have hx := hs R[i] (List.getElem_mem hlt)
  have e : (R.map row)[i] = row R[i] := List.getElem_map ..
  have ft := (fr_gen (N := N) (p := R[i].1) (q := R[i].2) (by omega) (by have := hx.1; omega) (by have := hx.2; omega)).1
  have ih := best_l hN hl hs ok j (i + 1) f (by omega) (by omega)
  rw [← map_take_succ trT hlt] at ih
  unfold zq47.l1 zq47.d1 zq47.o1
  rw [dcT (by omega), cT, dcT (by omega), cT, dcT (by omega), cT, tN, getAt hm, e]
  generalize R[i] = t at *
  have e7 : (10 : Nat) ^ 7 = 10000000 := by decide
  have l1 := dec_len 6 t.1 (by have := hx.1; omega)
  have l2 := dec_len 6 t.2 (by have := hx.2; omega)
  unfold row
  simp only [List.length_cons, List.length_nil, Nat.zero_add, show decide ((0 : Int) < ((1 + 1 : Nat) : Int)) = true from rfl, show decide ((1 : Int) < ((1 + 1 : Nat) : Int)) = true from rfl, cT, show (0 : Int).toNat = 0 from rfl, show (1 : Int).toNat = 1 from rfl, List.getElem?_cons_zero, List.getElem?_cons_succ, oB]
  rw [itoa_eq N (by have := hx.1; omega), itoa_eq N (by have := hx.2; omega)]
  simp only [oB]
  rw [hb (by simp [lit47, bsOf_size]; omega), hb (by simp [lit47, bsOf_size, bsOf_append]; omega), blT (by simp; omega), cT, w1add (by omega), lit47, bsOf_append, bsOf_append]
  exact ih
 | _, _, 0, _, hf => by omega
theorem asked_l {N : Nat} (hN : 1000000 < N) {R : List (Nat × Nat)} (hl : R.length ≤ 200000) (hs : ∀ t ∈ R, Sml t) (x1 x2 x3 x4 x5 x6 x7 : Int) (x8 : ByteArray) (x9 x10 : Int) (x11 : List Int) : ∀ (j i f : Nat), i + j = R.length → j < f →
  zq129.l2 N f ((R.take i).map trT) (R.map row) R.length i x1 x2 x3 x4 x5 x6 x7 x8 x9 x10 x11 = some (joinT (R.map trT), x1, x2, x3, x4, x5, x6, x7, x8, x9, x10, x11)
 | 0, i, f+1, hi, hf => by
  unfold zq129.l2 zq129.d2 zq129.o2
  rw [dcF (by omega), cF, List.take_of_length_le (by omega), coTexts_eq _ hN (by rw [List.length_map]; omega) (trT_all hs)]; rfl
 | j+1, i, f+1, hi, hf => by
  have hlt : i < R.length := by omega
  have hm : i < (R.map row).length := by rw [List.length_map]; exact hlt
  have hx := hs R[i] (List.getElem_mem hlt)
  have e : (R.map row)[i] = row R[i] := List.getElem_map ..
  have ih := asked_l hN hl hs x1 x2 x3 x4 x5 x6 x7 x8 x9 x10 x11 j (i + 1) f (by omega) (by omega)
  rw [← map_take_succ trT hlt] at ih
  unfold zq129.l2 zq129.d2 zq129.o2
  rw [dcT (by omega), cT, dcT (by omega), cT, dcT (by omega), cT, tN, getAt hm, e]
  generalize R[i] = t at *
  have e7 : (10 : Nat) ^ 7 = 10000000 := by decide
  have l1 := dec_len 6 t.1 (by have := hx.1; omega)
  have l2 := dec_len 6 t.2 (by have := hx.2; omega)
  unfold row
  simp only [List.length_cons, List.length_nil, Nat.zero_add, show decide ((0 : Int) < ((1 + 1 : Nat) : Int)) = true from rfl, show decide ((1 : Int) < ((1 + 1 : Nat) : Int)) = true from rfl, cT, show (0 : Int).toNat = 0 from rfl, show (1 : Int).toNat = 1 from rfl, List.getElem?_cons_zero, List.getElem?_cons_succ, oB]
  rw [num_eq (by omega) (by have := hx.1; omega), num_eq (by omega) (by have := hx.2; omega)]
  simp only [oB]
  rw [hb (by simp [lit47, bsOf_size]; omega), hb (by simp [lit47, bsOf_size, bsOf_append]; omega), blT (by simp; omega), cT, w1add (by omega), lit47, bsOf_append, bsOf_append]
  exact ih
 | _, _, 0, _, hf => by omega
theorem best_reply {N : Nat} (hN : 1000000 < N) (a b c : Int) : ∃ x r, zq47.g N a b c = some x ∧ zq107.g N a b c = some r ∧ r.2 = x.2 ∧
  ∀ (x1 x2 x3 x4 x5 x6 x7 : Int) (x8 : ByteArray) (x9 x10 : Int) (x11 : List Int), r.2 = true → zq129.l1 N N r.1 r.1.length 0 x1 x2 x3 x4 x5 x6 x7 x8 x9 x10 x11 = some (x.1, x1, x2, x3, x4, x5, x6, x7, x8, x9, x10, x11) := by
 obtain ⟨r, e1, e2, h⟩ := Best_eq (N := N) (by omega) a b c
 have key : ∃ R : List (Nat × Nat), r.1 = R.map row ∧ R.length ≤ 200000 ∧ ∀ t ∈ R, Sml t := by
  rcases h with rfl | ⟨num, den, most, R, _, _, _, _, _, _, hm, rfl, hc, hl, _⟩
  ·exact ⟨[], rfl, by simp, by simp⟩
  ·exact ⟨R, rfl, hl, chain_sml hm hc⟩
 obtain ⟨R, eR, hl, hs⟩ := key
 refine ⟨(joinT (R.map trT), r.2), r, ?_, e2, rfl, ?_⟩
 ·unfold zq47.g zq47.o0
  rw [e1, oB, eR, List.length_map]
  exact best_l hN hl hs r.2 R.length 0 N (by omega) (by omega)
 ·intro x1 x2 x3 x4 x5 x6 x7 x8 x9 x10 x11 _
  have ha := asked_l hN hl hs x1 x2 x3 x4 x5 x6 x7 x8 x9 x10 x11 R.length 0 N (by omega) (by omega)
  obtain ⟨M, rfl⟩ : ∃ M, N = M + 1 := ⟨N - 1, by omega⟩
  rw [eR, List.length_map]
  exact ha
theorem leap_reply {N y : Nat} (hy : y ≤ 999999) : ∃ r x, zq66.g N (y : Int) = some x ∧ zq116.g N 4 100 400 (y : Int) = some r ∧ x = (if r.1 = true then (⟨#[121, 101, 115]⟩ : ByteArray) else (⟨#[110, 111, 116]⟩ : ByteArray), r.2) := by
 obtain ⟨r, e1, e2⟩ := Leap_eq (N := N) hy
 refine ⟨r, _, ?_, e2, rfl⟩
 unfold zq66.g zq66.o0
 rw [e1, oB]
 obtain ⟨r1, r2⟩ := r
 cases r1 <;> rfl
theorem splitK_cons_ne (c b : UInt8) (h : b ≠ c) : ∀ (k : Nat) (l : List UInt8), Lib.splitK [c] 0 k (b :: l) = onHead [b] (Lib.splitK [c] 0 k l)
 | 0, l => rfl
 | k + 1, l => by
  have hp : ([c] : List UInt8).isPrefixOf (b :: l) = false := by simp [List.isPrefixOf, Ne.symm h]
  have hix : Lib.index (b :: l) [c] = if Lib.index l [c] == -1 then -1 else Lib.index l [c] + 1 := by rw [Lib.index, hp]; simp
  unfold Lib.splitK
  rw [hix]
  have hge := Lib.index_ge l [c]
  by_cases hm : Lib.index l [c] = -1
  ·simp [hm, onHead]
  ·have hm' : (Lib.index l [c] == -1) = false := by simpa using hm
   have h2 : (Lib.index l [c] + 1 == -1) = false := by
    rw [beq_eq_false_iff_ne]; omega
   simp only [hm', Bool.false_eq_true, if_false, h2, onHead]
   rw [show (Lib.index l [c] + 1).toNat = (Lib.index l [c]).toNat + 1 by omega]
   simp only [Nat.add_zero, List.length_singleton, List.take_succ_cons, List.drop_succ_cons, List.singleton_append]
theorem splitK_all (c : UInt8) : ∀ l : List UInt8, Lib.splitK [c] 0 (l.count c) l = splitL c l
 | [] => rfl
 | b :: l => by
  have ih := splitK_all c l
  unfold splitL
  by_cases h : b = c
  ·subst h
   rw [if_pos rfl, List.count_cons_self, ← ih]
   have hix : Lib.index (b :: l) [b] = 0 := by rw [Lib.index]; simp [List.isPrefixOf]
   rw [Lib.splitK, hix]
   simp
  ·rw [if_neg h, List.count_cons_of_ne (by simpa using h), splitK_cons_ne c b h, ih]
theorem splitS_eq {N : Nat} (s : ByteArray) (c : UInt8) (hs : s.size < 4294967281) : zq188.g N s (⟨#[c]⟩ : ByteArray) = some (pieces c s) := by
 have h2 : zq188.g N s (⟨#[c]⟩ : ByteArray) = (bif decide (s.size < 4294967281) then some (Lib.splitB ⟨#[c]⟩ 0 (Lib.countB s ⟨#[c]⟩) s) else none) := rfl
 rw [h2, decide_eq_true hs, cT]
 congr 1
 apply map_data_inj
 rw [Lib.splitB_data]
 have h3 : Lib.countB s ⟨#[c]⟩ = s.data.toList.count c := by rw [show Lib.countB s ⟨#[c]⟩ = Lib.count s.data.toList [c] from rfl, Lib.count_one]
 rw [h3, show (⟨#[c]⟩ : ByteArray).data.toList = [c] from rfl, splitK_all]
 unfold pieces
 rw [List.map_map]
 conv => lhs; rw [← List.map_id (splitL c s.data.toList)]
 exact List.map_congr_left (fun x _ => (bsOf_list x).symm)
noncomputable def carB (N : Nat) (h a b e f c d : Int) (r1 : List ByteArray) : Option zq48.R :=
 bif (decide (0 < (r1.length : Int))) then
 (r1[(0 : Int).toNat]?).bind fun x2 =>
 (zq53.g N x2).bind fun r3 =>
 bif (!r3.2) then
  zq48.d1 N r1 r3.1 true h a b e f c d 0 0 0 0 0 0 0
 else
 zq48.d1 N r1 r3.1 ((w64 ((r1.length : Int) - 1)) != (r3.1.size : Int)) h a b e f c d 0 0 0 0 0 0 0
 else
 none
noncomputable def reaB (N : Nat) (h a b e f c d : Int) (r1 : List ByteArray) : Option zq133.R :=
 bif (decide (0 < (r1.length : Int))) then
 (r1[(0 : Int).toNat]?).bind fun x2 =>
 (zq135.g N x2).bind fun r3 =>
 bif ((r3.size : Int) != (w64 ((r1.length : Int) - 1))) then
  some ((⟨#[]⟩ : ByteArray), h, a, b, e, f, c, d, ⟨#[]⟩, 0, 0, ([] : List Int), false)
 else
 bif (decide (0 ≤ (r1.length : Int))) then
  bif (decide ((r1.length : Int) ≤ (r1.length : Int))) then
  bif (decide (1 ≤ (r1.length : Int))) then
   zq133.l1 N N r1 r3 ((r1.take ((r1.length : Int) : Int).toNat).drop (1 : Int).toNat) (((r1.take ((r1.length : Int) : Int).toNat).drop (1 : Int).toNat).length : Int) 0 0 0 0 0 0 0 0 ⟨#[]⟩ 0 0 h a b e f c d ⟨#[]⟩ 0 0
  else
  none
  else
  none
 else
 none
 else
 none
noncomputable def stpB (N : Nat) (h a b e f c d : Int) (r1 : zq133.R) : Option zq137.R :=
 bif (!r1.2.2.2.2.2.2.2.2.2.2.2.2) then
 some (h, a, b, e, f, c, d, (⟨#[119, 104, 97, 116]⟩ : ByteArray))
 else
 bif (r1.1.toList == (⟨#[100, 105, 97, 108]⟩ : ByteArray).toList) then
 zq137.d1 N r1.1 true h a b e f c d 0 0 0 0 0 0 0 r1.2.1 r1.2.2.1 r1.2.2.2.1 r1.2.2.2.2.1 r1.2.2.2.2.2.1 r1.2.2.2.2.2.2.1 r1.2.2.2.2.2.2.2.1 r1.2.2.2.2.2.2.2.2.1 r1.2.2.2.2.2.2.2.2.2.1 r1.2.2.2.2.2.2.2.2.2.2.1 r1.2.2.2.2.2.2.2.2.2.2.2.1
 else
 bif (r1.1.toList == (⟨#[115, 101, 116]⟩ : ByteArray).toList) then
 zq137.d1 N r1.1 true h a b e f c d 0 0 0 0 0 0 0 r1.2.1 r1.2.2.1 r1.2.2.2.1 r1.2.2.2.2.1 r1.2.2.2.2.2.1 r1.2.2.2.2.2.2.1 r1.2.2.2.2.2.2.2.1 r1.2.2.2.2.2.2.2.2.1 r1.2.2.2.2.2.2.2.2.2.1 r1.2.2.2.2.2.2.2.2.2.2.1 r1.2.2.2.2.2.2.2.2.2.2.2.1
 else
 bif (r1.1.toList == (⟨#[116, 117, 114, 110]⟩ : ByteArray).toList) then
 zq137.d1 N r1.1 true h a b e f c d 0 0 0 0 0 0 0 r1.2.1 r1.2.2.1 r1.2.2.2.1 r1.2.2.2.2.1 r1.2.2.2.2.2.1 r1.2.2.2.2.2.2.1 r1.2.2.2.2.2.2.2.1 r1.2.2.2.2.2.2.2.2.1 r1.2.2.2.2.2.2.2.2.2.1 r1.2.2.2.2.2.2.2.2.2.2.1 r1.2.2.2.2.2.2.2.2.2.2.2.1
 else
 bif (r1.1.toList == (⟨#[111, 110]⟩ : ByteArray).toList) then
 zq137.d1 N r1.1 true h a b e f c d 0 0 0 0 0 0 0 r1.2.1 r1.2.2.1 r1.2.2.2.1 r1.2.2.2.2.1 r1.2.2.2.2.2.1 r1.2.2.2.2.2.2.1 r1.2.2.2.2.2.2.2.1 r1.2.2.2.2.2.2.2.2.1 r1.2.2.2.2.2.2.2.2.2.1 r1.2.2.2.2.2.2.2.2.2.2.1 r1.2.2.2.2.2.2.2.2.2.2.2.1
 else
 bif (r1.1.toList == (⟨#[111, 102, 102]⟩ : ByteArray).toList) then
 zq137.d1 N r1.1 true h a b e f c d 0 0 0 0 0 0 0 r1.2.1 r1.2.2.1 r1.2.2.2.1 r1.2.2.2.2.1 r1.2.2.2.2.2.1 r1.2.2.2.2.2.2.1 r1.2.2.2.2.2.2.2.1 r1.2.2.2.2.2.2.2.2.1 r1.2.2.2.2.2.2.2.2.2.1 r1.2.2.2.2.2.2.2.2.2.2.1 r1.2.2.2.2.2.2.2.2.2.2.2.1
 else
 bif (r1.1.toList == (⟨#[109, 105, 114, 114, 111, 114]⟩ : ByteArray).toList) then
 zq137.d1 N r1.1 true h a b e f c d 0 0 0 0 0 0 0 r1.2.1 r1.2.2.1 r1.2.2.2.1 r1.2.2.2.2.1 r1.2.2.2.2.2.1 r1.2.2.2.2.2.2.1 r1.2.2.2.2.2.2.2.1 r1.2.2.2.2.2.2.2.2.1 r1.2.2.2.2.2.2.2.2.2.1 r1.2.2.2.2.2.2.2.2.2.2.1 r1.2.2.2.2.2.2.2.2.2.2.2.1
 else
 bif (r1.1.toList == (⟨#[115, 119, 97, 112]⟩ : ByteArray).toList) then
 zq137.d1 N r1.1 true h a b e f c d 0 0 0 0 0 0 0 r1.2.1 r1.2.2.1 r1.2.2.2.1 r1.2.2.2.2.1 r1.2.2.2.2.2.1 r1.2.2.2.2.2.2.1 r1.2.2.2.2.2.2.2.1 r1.2.2.2.2.2.2.2.2.1 r1.2.2.2.2.2.2.2.2.2.1 r1.2.2.2.2.2.2.2.2.2.2.1 r1.2.2.2.2.2.2.2.2.2.2.2.1
 else
 zq137.d1 N r1.1 (r1.1.toList == (⟨#[99, 108, 111, 99, 107]⟩ : ByteArray).toList) h a b e f c d 0 0 0 0 0 0 0 r1.2.1 r1.2.2.1 r1.2.2.2.1 r1.2.2.2.2.1 r1.2.2.2.2.2.1 r1.2.2.2.2.2.2.1 r1.2.2.2.2.2.2.2.1 r1.2.2.2.2.2.2.2.2.1 r1.2.2.2.2.2.2.2.2.2.1 r1.2.2.2.2.2.2.2.2.2.2.1 r1.2.2.2.2.2.2.2.2.2.2.2.1
noncomputable def chgB (N : Nat) (h a b e f c d : Int) (L : List ByteArray) (n : List Int) (s1 s2 : Int) (x : ByteArray) (r3 : zq49.R) : Option zq48.R :=
   bif r3.2.2.2.2.2.2.2.2 then
   zq48.d2 N L r3.2.2.2.2.2.2.2.1 r3.2.2.2.2.2.2.2.2 (⟨#[]⟩ : ByteArray) r3.2.2.2.2.2.2.2.1 h a b e f c d 0 0 0 0 0 0 0 n s1 s2 x r3.1 r3.2.1 r3.2.2.1 r3.2.2.2.1 r3.2.2.2.2.1 r3.2.2.2.2.2.1 r3.2.2.2.2.2.2.1
   else
   zq48.d2 N L r3.2.2.2.2.2.2.2.1 r3.2.2.2.2.2.2.2.2 (⟨#[]⟩ : ByteArray) false h a b e f c d 0 0 0 0 0 0 0 n s1 s2 x r3.1 r3.2.1 r3.2.2.1 r3.2.2.2.1 r3.2.2.2.2.1 r3.2.2.2.2.2.1 r3.2.2.2.2.2.2.1
theorem carry_is (N : Nat) (h a b e f c d : Int) (s : ByteArray) : zq48.g N h a b e f c d s = (zq188.g N s (⟨#[32]⟩ : ByteArray)).bind (carB N h a b e f c d) := rfl
theorem read_is0 (N : Nat) (h a b e f c d : Int) (s : ByteArray) : zq133.g N h a b e f c d s = (zq178.g N s 32).bind (reaB N h a b e f c d) := rfl
theorem step_is (N : Nat) (h a b e f c d : Int) (s : ByteArray) : zq137.g N h a b e f c d s = (zq133.g N h a b e f c d s).bind (stpB N h a b e f c d) := rfl
def deskB (h a b e f c d : Int) : Bool := timeB h a b && clockB e f c d
theorem IsDesk_eq {N : Nat} (hN : 10000000 ≤ N) (h a b e f c d : Int) : zq15.g N h a b e f c d = some (deskB h a b e f c d) ∧ zq128.g N h a b e f c d = some (deskB h a b e f c d) := by
 unfold zq15.g zq15.o0 zq128.g zq128.o0 deskB
 rw [isTime_eq hN, diAsked_eq hN]
 cases timeB h a b with
 | false => exact ⟨rfl, rfl⟩
 | true =>
  simp only [oB, cT, Bool.true_and]
  rw [(IsClock_eq hN _ _ _ _).1, (IsClock_eq hN _ _ _ _).2]
  exact ⟨rfl, rfl⟩
def txD (h a b : Int) : ByteArray := bsOf (timeL (a.toNat * h.toNat * 60) b.toNat)
theorem text_desk {N : Nat} (hN : 10000000 ≤ N) {h a b : Int} (hb : timeB h a b = true) : zq37.g N h a b = some (txD h a b, true) ∧ zq154.g N h a b = some (txD h a b) := by
 obtain ⟨k, n, d, rfl, h1, h2, rfl, rfl, T⟩ := timeB_iff.1 hb
 have := text_yes hN ⟨h1, h2, T⟩
 unfold txD
 simp only [tN]
 exact ⟨this.1, this.2.2⟩
def whatT : ByteArray := ⟨#[119, 104, 97, 116]⟩
def chgR (h a b e f c d : Int) (h' a' b' e' f' c' d' : Int) (ok : Bool) : Int × Int × Int × Int × Int × Int × Int × ByteArray :=
 if (ok && deskB h' a' b' e' f' c' d') = true then (h', a', b', e', f', c', d', txD h' a' b') else (h, a, b, e, f, c, d, noT)
theorem chg_no (N : Nat) (h a b e f c d : Int) (L : List ByteArray) (n : List Int) (s1 s2 : Int) (x : ByteArray) (h' a' b' e' f' c' d' : Int) : chgB N h a b e f c d L n s1 s2 x (h', a', b', e', f', c', d', false, true) = some (h, a, b, e, f, c, d, noT) := rfl
theorem chg_tail {N : Nat} (hN : 10000000 ≤ N) (h a b e f c d : Int) (L : List ByteArray) (n : List Int) (s1 s2 : Int) (x : ByteArray) (h' a' b' e' f' c' d' : Int) (ok : Bool) :
  (zq49.d3 N ok h' a' b' e' f' c' d' 0 0 0 0 0 0 0).bind (chgB N h a b e f c d L n s1 s2 x) = some (chgR h a b e f c d h' a' b' e' f' c' d' ok) := by
 unfold zq49.d3 zq49.o3 chgR
 cases ok with
 | false => exact chg_no ..
 | true =>
  rw [cT, (IsDesk_eq hN _ _ _ _ _ _ _).1]
  cases hd : deskB h' a' b' e' f' c' d' with
  | false => exact chg_no ..
  | true =>
   have ht : timeB h' a' b' = true := by unfold deskB at hd; rw [Bool.and_eq_true] at hd; exact hd.1
   show zq48.d2 N L true true ⟨#[]⟩ true h a b e f c d 0 0 0 0 0 0 0 n s1 s2 x h' a' b' e' f' c' d' = _
   unfold zq48.d2 zq48.o2
   rw [cT, (text_desk hN ht).1]
   rfl
theorem mov_tail {N : Nat} (hN : 10000000 ≤ N) (h a b e f c d : Int) (x : ByteArray) (s1 s2 : Int) (n : List Int) (h' a' b' e' f' c' d' : Int) (ok : Bool) :
  ∃ y z w v, zq132.d1 N ok h a b e f c d x s1 s2 n h' a' b' e' f' c' d' = some ((chgR h a b e f c d h' a' b' e' f' c' d' ok).2.2.2.2.2.2.2, (chgR h a b e f c d h' a' b' e' f' c' d' ok).1, (chgR h a b e f c d h' a' b' e' f' c' d' ok).2.1, (chgR h a b e f c d h' a' b' e' f' c' d' ok).2.2.1, (chgR h a b e f c d h' a' b' e' f' c' d' ok).2.2.2.1, (chgR h a b e f c d h' a' b' e' f' c' d' ok).2.2.2.2.1, (chgR h a b e f c d h' a' b' e' f' c' d' ok).2.2.2.2.2.1, (chgR h a b e f c d h' a' b' e' f' c' d' ok).2.2.2.2.2.2.1, y, z, w, v) := by
 refine ⟨x, s1, s2, n, ?_⟩
 unfold zq132.d1 zq132.o1 zq130.g zq130.o0 chgR
 cases ok with
 | false => rfl
 | true =>
  rw [nT, cF, (IsDesk_eq hN _ _ _ _ _ _ _).2]
  cases hd : deskB h' a' b' e' f' c' d' with
  | false => rfl
  | true =>
   have ht : timeB h' a' b' = true := by unfold deskB at hd; rw [Bool.and_eq_true] at hd; exact hd.1
   show ((zq130.d1 N false h a b e f c d x s1 s2 n h' a' b' e' f' c' d').bind _) = _
   unfold zq130.d1 zq130.o1
   rw [cF, (text_desk hN ht).2]
   rfl
theorem chgR_ok {h a b e f c d h' a' b' e' f' c' d' : Int} {ok : Bool} (hd : deskB h a b e f c d = true) : ∃ q1 q2 q3 q4 q5 q6 q7 t, chgR h a b e f c d h' a' b' e' f' c' d' ok = (q1, q2, q3, q4, q5, q6, q7, t) ∧ deskB q1 q2 q3 q4 q5 q6 q7 = true ∧ ((q1, q2, q3, q4, q5, q6, q7) = (h, a, b, e, f, c, d) ∨ t = txD q1 q2 q3) := by
 unfold chgR
 split
 ·rename_i hc
  rw [Bool.and_eq_true] at hc
  exact ⟨_, _, _, _, _, _, _, _, rfl, hc.2, .inr rfl⟩
 ·exact ⟨_, _, _, _, _, _, _, _, rfl, hd, .inl rfl⟩
theorem ans_i (N : Nat) (h a b e f c d : Int) (L : List ByteArray) (ok : Bool) (t : ByteArray) : zq48.d4 N ok t h a b e f c d 0 0 0 0 0 0 0 h a b e f c d = some (h, a, b, e, f, c, d, reply (t, ok)) := by
 unfold zq48.d4 zq48.o4 reply
 cases ok <;> rfl
def Fr (r : Int × Int × Bool) : Prop := r = (0, 0, false) ∨ ∃ p q : Nat, r = ((p : Int), (q : Int), true) ∧ p ≤ 100000000000 ∧ q ≤ 100000000000
theorem Fr.mk {f : Nat × Nat} : Fr (mkV f) ∨ f.1 > f.2 := by
 unfold mkV
 by_cases h : f.2 ≤ 1000000
 ·by_cases h2 : f.1 ≤ f.2
  ·rw [if_pos h]; exact .inl (.inr ⟨_, _, rfl, by omega, by omega⟩)
  ·exact .inr (by omega)
 ·rw [if_neg h]; exact .inl (.inl rfl)
theorem Fr.pr {n D : Nat} (hD : 0 < D) : Fr (mkV (pr n D)) := Fr.mk.resolve_right (by have := (pr_spec (n := n) hD).1; omega)
theorem Fr.sp {r : Int × Int × Bool} (h : SpR r) : Fr r := by
 rcases h with h | ⟨p, q, h, h1, h2⟩
 ·exact .inl h
 ·exact .inr ⟨p, q, h, by omega, by omega⟩
theorem turn_ans {N : Nat} (hN : 100 ≤ N) {r : Int × Int × Bool} (h : Fr r) : ∃ x, zq77.g N r.1 r.2.1 r.2.2 = some x ∧ zq139.g N r.1 r.2.1 r.2.2 = some (reply x) := by
 rcases h with rfl | ⟨p, q, rfl, h1, h2⟩
 ·refine ⟨(frT 0 0, false), ?_, rfl⟩
  have := (fr_gen (N := N) (p := 0) (q := 0) hN (by omega) (by omega)).1
  unfold zq77.g zq77.o0
  dsimp only
  rw [show zq78.g N 0 0 = some (frT 0 0) from this]; rfl
 ·obtain ⟨e1, _, e3, _⟩ := fr_gen (N := N) hN h1 h2
  refine ⟨(frT p q, true), ?_, e3⟩
  unfold zq77.g zq77.o0
  rw [e1]; rfl
theorem span_ans {N : Nat} (hN : 100 ≤ N) {r : Int × Int × Bool} (h : Fr r) : ∃ x, zq74.g N r.1 r.2.1 r.2.2 = some x ∧ zq136.g N r.1 r.2.1 r.2.2 = some (reply x) := by
 rcases h with rfl | ⟨p, q, rfl, h1, h2⟩
 ·refine ⟨(frT 0 0, false), ?_, rfl⟩
  have := (fr_gen (N := N) (p := 0) (q := 0) hN (by omega) (by omega)).2.1
  unfold zq74.g zq74.o0
  dsimp only
  rw [show zq75.g N 0 0 = some (frT 0 0) from this]; rfl
 ·obtain ⟨_, e2, _, e4⟩ := fr_gen (N := N) hN h1 h2
  refine ⟨(frT p q, true), ?_, e4⟩
  unfold zq74.g zq74.o0
  rw [e2]; rfl
end Go.Proofs.YtdidghlibfopgaaGreatDoor.M
