/- Plain lemmas about what the functions compute (part 2). No conditions but those stated. -/
import Derived.Test.YtdidghlibfopgaaGreatDoorPlFnDeskLines1
namespace Go.Proofs.YtdidghlibfopgaaGreatDoor.M
open Go Go.PM Go.Proofs.YtdidghlibfopgaaGreatDoor.P
set_option linter.unusedVariables false
set_option linter.unusedSimpArgs false
set_option maxRecDepth 100000
abbrev nE : ByteArray := ⟨#[]⟩
abbrev nI : List Int := []
abbrev w_dial : ByteArray := ⟨#[100, 105, 97, 108]⟩
abbrev w_set : ByteArray := ⟨#[115, 101, 116]⟩
abbrev w_turn : ByteArray := ⟨#[116, 117, 114, 110]⟩
abbrev w_on : ByteArray := ⟨#[111, 110]⟩
abbrev w_off : ByteArray := ⟨#[111, 102, 102]⟩
abbrev w_mirror : ByteArray := ⟨#[109, 105, 114, 114, 111, 114]⟩
abbrev w_swap : ByteArray := ⟨#[115, 119, 97, 112]⟩
abbrev w_clock : ByteArray := ⟨#[99, 108, 111, 99, 107]⟩
abbrev w_show : ByteArray := ⟨#[115, 104, 111, 119]⟩
abbrev w_where : ByteArray := ⟨#[119, 104, 101, 114, 101]⟩
abbrev w_long : ByteArray := ⟨#[108, 111, 110, 103]⟩
abbrev w_angle : ByteArray := ⟨#[97, 110, 103, 108, 101]⟩
abbrev w_small : ByteArray := ⟨#[115, 109, 97, 108, 108]⟩
abbrev w_with : ByteArray := ⟨#[119, 105, 116, 104]⟩
abbrev w_shown : ByteArray := ⟨#[115, 104, 111, 119, 110]⟩
abbrev w_ahead : ByteArray := ⟨#[97, 104, 101, 97, 100]⟩
abbrev w_right : ByteArray := ⟨#[114, 105, 103, 104, 116]⟩
abbrev w_every : ByteArray := ⟨#[101, 118, 101, 114, 121]⟩
abbrev w_unsure : ByteArray := ⟨#[117, 110, 115, 117, 114, 101]⟩
abbrev w_other : ByteArray := ⟨#[111, 116, 104, 101, 114]⟩
abbrev w_leap : ByteArray := ⟨#[108, 101, 97, 112]⟩
abbrev w_best : ByteArray := ⟨#[98, 101, 115, 116]⟩
abbrev f_N : ByteArray := ⟨#[78]⟩
abbrev g_N : ByteArray := ⟨#[110]⟩
abbrev f_T : ByteArray := ⟨#[84]⟩
abbrev g_T : ByteArray := ⟨#[116]⟩
abbrev f_S : ByteArray := ⟨#[83]⟩
abbrev g_S : ByteArray := ⟨#[115]⟩
abbrev f_NN : ByteArray := ⟨#[78, 78]⟩
abbrev g_NN : ByteArray := ⟨#[110, 110]⟩
abbrev f_NNN : ByteArray := ⟨#[78, 78, 78]⟩
abbrev g_NNN : ByteArray := ⟨#[110, 110, 110]⟩
def Chg (N : Nat) (h a b e f c d : Int) (w : ByteArray) (n : List Int) (x : ByteArray) : Prop := ∃ (h' a' b' e' f' c' d' : Int) (ok : Bool), (∀ L, (zq49.g N h a b e f c d w n 0 0 x).bind (chgB N h a b e f c d L n 0 0 x) = some (chgR h a b e f c d h' a' b' e' f' c' d' ok)) ∧ zq123.g N w h a b e f c d x 0 0 n = zq123.d1 N ok h a b e f c d x 0 0 n h' a' b' e' f' c' d'
theorem Chg.mk {N : Nat} (hN : 200000000000000 ≤ N) {h a b e f c d : Int} {w : ByteArray} {n : List Int} {x : ByteArray} (h' a' b' e' f' c' d' : Int) (ok : Bool) (e1 : zq49.g N h a b e f c d w n 0 0 x = zq49.d3 N ok h' a' b' e' f' c' d' 0 0 0 0 0 0 0) (e2 : zq123.g N w h a b e f c d x 0 0 n = zq123.d1 N ok h a b e f c d x 0 0 n h' a' b' e' f' c' d') : Chg N h a b e f c d w n x :=
 ⟨h', a', b', e', f', c', d', ok, fun L => by rw [e1]; exact chg_tail (by omega) .., e2⟩
def Ans (N : Nat) (h a b e f c d : Int) (w : ByteArray) (n : List Int) (s1 s2 : Int) : Prop := ∃ y, zq46.g N h a b e f c d w n s1 s2 nE = some y ∧ zq120.g N w h a b e f c d nE s1 s2 n = some (reply y, h, a, b, e, f, c, d, nE, s1, s2, n)
theorem mirr_eq {N a b : Nat} (hN : 10000000 ≤ N) (T : Turn a b) : zq26.g N a b = some (((pr (b - a) b).1 : Int), ((pr (b - a) b).2 : Int), true) ∧ zq143.g N a b = some (((pr (b - a) b).1 : Int), ((pr (b - a) b).2 : Int)) := by
 refine ⟨?_, (mirror_eq hN T).2⟩
 unfold zq26.g zq26.o0
 rw [IsTurn_eq hN, turnB_T T, oB, nT, cF, (mirror_eq hN T).1]; rfl
theorem set_eq {N : Nat} (hN : 1000000000000 < N) {h a b e f c d : Nat} (Td : Dial h a b) (K : Clk e f c d) (x : ByteArray) (hx : x.size ≤ 1000000) : ∃ r, zq28.g N h x = some r ∧ zq144.g N h x = some r := by
 obtain ⟨r, e1, e2, _⟩ := parse_eq hN (h : Int) x (by omega)
 refine ⟨r, e1, ?_⟩
 unfold spec_ParseTime.g spec_ParseTime.o0 at e2
 have hb : inB (h : Int) 2 24 = true := inB_iff.2 (by have := Td.k1; have := Td.k2; omega)
 rw [diHours_eq, hb, oB, nT, cF] at e2
 obtain ⟨r', h1, h2⟩ := Option.bind_eq_some_iff.1 e2
 rw [h1]
 cases h2
 rfl
theorem c_dial {N : Nat} (hN : 200000000000000 ≤ N) {h a b e f c d : Nat} (Td : Dial h a b) (K : Clk e f c d) (n : Nat) : Chg N h a b e f c d w_dial [(n : Int)] nE := .mk hN n a b e f c d true (by kernel_rfl) (by kernel_rfl)
theorem c_clock {N : Nat} (hN : 200000000000000 ≤ N) {h a b e f c d : Nat} (Td : Dial h a b) (K : Clk e f c d) (n m : Nat) : Chg N h a b e f c d w_clock [(n : Int), (m : Int)] nE := .mk hN h a b a b n m true (by kernel_rfl) (by kernel_rfl)
theorem c_set {N : Nat} (hN : 200000000000000 ≤ N) {h a b e f c d : Nat} (Td : Dial h a b) (K : Clk e f c d) (x : ByteArray) (hx : x.size ≤ 1000000) : Chg N h a b e f c d w_set nI x := by
 obtain ⟨r, r1, r2⟩ := set_eq (N := N) (by omega) Td K x hx
 refine .mk hN h r.1 r.2.1 e f c d r.2.2 ?_ ?_
 ·rw [show zq49.g N h a b e f c d w_set nI 0 0 x = (zq28.g N h x).bind fun r2 => zq49.d3 N r2.2.2 h r2.1 r2.2.1 e f c d 0 0 0 0 0 0 0 by kernel_rfl, r1]; rfl
 ·rw [show zq123.g N w_set h a b e f c d x 0 0 nI = (zq144.g N h x).bind fun r2 => zq123.d1 N r2.2.2 h a b e f c d x 0 0 nI h r2.1 r2.2.1 e f c d by kernel_rfl, r2]; rfl
theorem made_eq (N : Nat) (h a b e f c d : Int) (n m : Int) : zq122.g N h a b e f c d nE 0 0 [n, m] = (zq110.g N n m).bind fun r3 => some (r3.1, r3.2.1, r3.2.2, h, a, b, e, f, c, d, nE, 0, 0, [n, m]) := by kernel_rfl
theorem c_turn {N : Nat} (hN : 200000000000000 ≤ N) {h a b e f c d : Nat} (Td : Dial h a b) (K : Clk e f c d) (n m : Nat) (hn : n ≤ 999999) (hm : m ≤ 999999) : Chg N h a b e f c d w_turn [(n : Int), (m : Int)] nE := by
 have mk := Make_eq (N := N) (by omega) hn hm
 unfold Chg
 rw [show zq49.g N h a b e f c d w_turn [(n : Int), (m : Int)] 0 0 nE = (zq25.g N n m).bind fun r3 => bif (!r3.2.2) then some (0, 0, 0, 0, 0, 0, 0, false, true) else zq49.d3 N r3.2.2 h r3.1 r3.2.1 e f c d 0 0 0 0 0 0 0 by kernel_rfl, show zq123.g N w_turn h a b e f c d nE 0 0 [(n : Int), (m : Int)] = (zq122.g N h a b e f c d nE 0 0 [(n : Int), (m : Int)]).bind fun r3 => zq123.d1 N r3.2.2.1 r3.2.2.2.1 r3.2.2.2.2.1 r3.2.2.2.2.2.1 r3.2.2.2.2.2.2.1 r3.2.2.2.2.2.2.2.1 r3.2.2.2.2.2.2.2.2.1 r3.2.2.2.2.2.2.2.2.2.1 r3.2.2.2.2.2.2.2.2.2.2.1 r3.2.2.2.2.2.2.2.2.2.2.2.1 r3.2.2.2.2.2.2.2.2.2.2.2.2.1 r3.2.2.2.2.2.2.2.2.2.2.2.2.2 h r3.1 r3.2.1 e f c d by kernel_rfl, made_eq, mk.1, mk.2]
 unfold mkT
 by_cases h0 : 1 ≤ m
 ·rw [if_pos h0]
  exact ⟨h, _, _, e, f, c, d, true, fun L => chg_tail (by omega) _ _ _ _ _ _ _ L _ 0 0 _ _ _ _ _ _ _ _ true, rfl⟩
 ·rw [if_neg h0]
  exact ⟨0, 0, 0, 0, 0, 0, 0, false, fun _ => rfl, rfl⟩
theorem c_on {N : Nat} (hN : 200000000000000 ≤ N) {h a b e f c d : Nat} (Td : Dial h a b) (K : Clk e f c d) (n m : Nat) (hn : n ≤ 999999) (hm : m ≤ 999999) : Chg N h a b e f c d w_on [(n : Int), (m : Int)] nE := by
 have mk := Make_eq (N := N) (by omega) hn hm
 unfold Chg
 rw [show zq49.g N h a b e f c d w_on [(n : Int), (m : Int)] 0 0 nE = (zq25.g N n m).bind fun r3 => bif (!r3.2.2) then some (0, 0, 0, 0, 0, 0, 0, false, true) else (zq2.g N a b r3.1 r3.2.1).bind fun r4 => zq49.d3 N r4.2.2 h r4.1 r4.2.1 e f c d 0 0 0 0 0 0 0 by kernel_rfl, show zq123.g N w_on h a b e f c d nE 0 0 [(n : Int), (m : Int)] = (zq122.g N h a b e f c d nE 0 0 [(n : Int), (m : Int)]).bind fun r3 => bif (!r3.2.2.1) then some (noT, r3.2.2.2.1, r3.2.2.2.2.1, r3.2.2.2.2.2.1, r3.2.2.2.2.2.2.1, r3.2.2.2.2.2.2.2.1, r3.2.2.2.2.2.2.2.2.1, r3.2.2.2.2.2.2.2.2.2.1, r3.2.2.2.2.2.2.2.2.2.2.1, r3.2.2.2.2.2.2.2.2.2.2.2.1, r3.2.2.2.2.2.2.2.2.2.2.2.2.1, r3.2.2.2.2.2.2.2.2.2.2.2.2.2) else (zq94.g N a b r3.1 r3.2.1).bind fun r4 => zq123.d1 N r4.2.2 r3.2.2.2.1 r3.2.2.2.2.1 r3.2.2.2.2.2.1 r3.2.2.2.2.2.2.1 r3.2.2.2.2.2.2.2.1 r3.2.2.2.2.2.2.2.2.1 r3.2.2.2.2.2.2.2.2.2.1 r3.2.2.2.2.2.2.2.2.2.2.1 r3.2.2.2.2.2.2.2.2.2.2.2.1 r3.2.2.2.2.2.2.2.2.2.2.2.2.1 r3.2.2.2.2.2.2.2.2.2.2.2.2.2 h r4.1 r4.2.1 e f c d by kernel_rfl, made_eq, mk.1, mk.2]
 unfold mkT
 by_cases h0 : 1 ≤ m
 ·rw [if_pos h0]
  have hT : Turn (pr n m).1 (pr n m).2 := pr_Turn (by omega) (by omega)
  have q := Add_eq (N := N) (by omega) Td.t hT
  simp only [oB, nT, cF]
  rw [q.1, q.2]
  exact ⟨h, _, _, e, f, c, d, _, fun L => chg_tail (by omega) _ _ _ _ _ _ _ L _ 0 0 _ _ _ _ _ _ _ _ _, rfl⟩
 ·rw [if_neg h0]
  exact ⟨0, 0, 0, 0, 0, 0, 0, false, fun _ => rfl, rfl⟩
theorem c_off {N : Nat} (hN : 200000000000000 ≤ N) {h a b e f c d : Nat} (Td : Dial h a b) (K : Clk e f c d) (n m : Nat) (hn : n ≤ 999999) (hm : m ≤ 999999) : Chg N h a b e f c d w_off [(n : Int), (m : Int)] nE := by
 have mk := Make_eq (N := N) (by omega) hn hm
 unfold Chg
 rw [show zq49.g N h a b e f c d w_off [(n : Int), (m : Int)] 0 0 nE = (zq25.g N n m).bind fun r3 => bif (!r3.2.2) then some (0, 0, 0, 0, 0, 0, 0, false, true) else (zq23.g N a b r3.1 r3.2.1).bind fun r4 => zq49.d3 N r4.2.2 h r4.1 r4.2.1 e f c d 0 0 0 0 0 0 0 by kernel_rfl, show zq123.g N w_off h a b e f c d nE 0 0 [(n : Int), (m : Int)] = (zq122.g N h a b e f c d nE 0 0 [(n : Int), (m : Int)]).bind fun r3 => bif (!r3.2.2.1) then some (noT, r3.2.2.2.1, r3.2.2.2.2.1, r3.2.2.2.2.2.1, r3.2.2.2.2.2.2.1, r3.2.2.2.2.2.2.2.1, r3.2.2.2.2.2.2.2.2.1, r3.2.2.2.2.2.2.2.2.2.1, r3.2.2.2.2.2.2.2.2.2.2.1, r3.2.2.2.2.2.2.2.2.2.2.2.1, r3.2.2.2.2.2.2.2.2.2.2.2.2.1, r3.2.2.2.2.2.2.2.2.2.2.2.2.2) else (zq108.g N a b r3.1 r3.2.1).bind fun r4 => zq123.d1 N r4.2.2 r3.2.2.2.1 r3.2.2.2.2.1 r3.2.2.2.2.2.1 r3.2.2.2.2.2.2.1 r3.2.2.2.2.2.2.2.1 r3.2.2.2.2.2.2.2.2.1 r3.2.2.2.2.2.2.2.2.2.1 r3.2.2.2.2.2.2.2.2.2.2.1 r3.2.2.2.2.2.2.2.2.2.2.2.1 r3.2.2.2.2.2.2.2.2.2.2.2.2.1 r3.2.2.2.2.2.2.2.2.2.2.2.2.2 h r4.1 r4.2.1 e f c d by kernel_rfl, made_eq, mk.1, mk.2]
 unfold mkT
 by_cases h0 : 1 ≤ m
 ·rw [if_pos h0]
  have hT : Turn (pr n m).1 (pr n m).2 := pr_Turn (by omega) (by omega)
  have q := Less_eq (N := N) (by omega) Td.t hT
  simp only [oB, nT, cF]
  rw [q.1, q.2]
  exact ⟨h, _, _, e, f, c, d, _, fun L => chg_tail (by omega) _ _ _ _ _ _ _ L _ 0 0 _ _ _ _ _ _ _ _ _, rfl⟩
 ·rw [if_neg h0]
  exact ⟨0, 0, 0, 0, 0, 0, 0, false, fun _ => rfl, rfl⟩
theorem c_mirror {N : Nat} (hN : 200000000000000 ≤ N) {h a b e f c d : Nat} (Td : Dial h a b) (K : Clk e f c d) : Chg N h a b e f c d w_mirror nI nE := by
 have q := mirr_eq (N := N) (by omega) Td.t
 unfold Chg
 rw [show zq49.g N h a b e f c d w_mirror nI 0 0 nE = (zq26.g N a b).bind fun r3 => zq49.d3 N r3.2.2 h r3.1 r3.2.1 e f c d 0 0 0 0 0 0 0 by kernel_rfl, show zq123.g N w_mirror h a b e f c d nE 0 0 nI = (zq143.g N a b).bind fun r3 => zq123.d1 N true h a b e f c d nE 0 0 nI h r3.1 r3.2 e f c d by kernel_rfl, q.1, q.2]
 exact ⟨h, _, _, e, f, c, d, true, fun L => chg_tail (by omega) _ _ _ _ _ _ _ L _ 0 0 _ _ _ _ _ _ _ _ true, rfl⟩
theorem c_swap {N : Nat} (hN : 200000000000000 ≤ N) {h a b e f c d : Nat} (Td : Dial h a b) (K : Clk e f c d) : Chg N h a b e f c d w_swap nI nE := by
 have q := ExchangedTime_eq (N := N) (by omega) h a b
 unfold Chg
 rw [show zq49.g N h a b e f c d w_swap nI 0 0 nE = (zq10.g N h a b).bind fun r3 => zq49.d3 N r3.2.2 h r3.1 r3.2.1 e f c d 0 0 0 0 0 0 0 by kernel_rfl, show zq123.g N w_swap h a b e f c d nE 0 0 nI = (zq103.g N h a b).bind fun r3 => zq123.d1 N r3.2.2 h a b e f c d nE 0 0 nI h r3.1 r3.2.1 e f c d by kernel_rfl, q.1, q.2]
 exact ⟨h, _, _, e, f, c, d, _, fun L => chg_tail (by omega) _ _ _ _ _ _ _ L _ 0 0 _ _ _ _ _ _ _ _ _, rfl⟩
theorem a_show {N : Nat} (hN : 200000000000000 ≤ N) {h a b e f c d : Nat} (Td : Dial h a b) (K : Clk e f c d) : Ans N h a b e f c d w_show nI 0 0 := by
 unfold Ans
 rw [show zq46.g N h a b e f c d w_show nI 0 0 nE = (zq37.g N h a b).bind fun r1 => some (r1.1, r1.2) by kernel_rfl, show zq120.g N w_show h a b e f c d nE 0 0 nI = (zq145.g N h a b).bind fun r1 => some (r1, (h : Int), (a : Int), (b : Int), (e : Int), (f : Int), (c : Int), (d : Int), nE, 0, 0, []) by kernel_rfl]
 have q := text_desk (N := N) (by omega) Td.b
 rw [q.1, q.2]
 exact ⟨(txD h a b, true), rfl, rfl⟩
theorem a_where {N : Nat} (hN : 200000000000000 ≤ N) {h a b e f c d : Nat} (Td : Dial h a b) (K : Clk e f c d) : Ans N h a b e f c d w_where nI 0 0 := by
 unfold Ans
 rw [show zq46.g N h a b e f c d w_where nI 0 0 nE = (zq78.g N a b).bind fun r2 => some (r2, true) by kernel_rfl, show zq120.g N w_where h a b e f c d nE 0 0 nI = (zq130.g N a b true).bind fun r1 => some (r1, (h : Int), (a : Int), (b : Int), (e : Int), (f : Int), (c : Int), (d : Int), nE, 0, 0, []) by kernel_rfl]
 have q := fr_gen (N := N) (p := a) (q := b) (by omega) (by have := Td.t.lt; have := Td.t.le; omega) (by have := Td.t.le; omega)
 rw [q.1, q.2.2.1]
 exact ⟨(frT a b, true), rfl, rfl⟩
theorem a_long {N : Nat} (hN : 200000000000000 ≤ N) {h a b e f c d : Nat} (Td : Dial h a b) (K : Clk e f c d) : Ans N h a b e f c d w_long nI 0 0 := by
 unfold Ans
 rw [show zq46.g N h a b e f c d w_long nI 0 0 nE = (zq24.g N h a b).bind fun r3 => (zq77.g N r3.1 r3.2.1 r3.2.2).bind fun r4 => some (r4.1, r4.2) by kernel_rfl, show zq120.g N w_long h a b e f c d nE 0 0 nI = (zq109.g N h a b).bind fun r3 => (zq130.g N r3.1 r3.2.1 r3.2.2).bind fun r4 => some (r4, (h : Int), (a : Int), (b : Int), (e : Int), (f : Int), (c : Int), (d : Int), nE, 0, 0, []) by kernel_rfl]
 have q := Long_yes (N := N) (by omega) Td
 rw [q.1, q.2]
 simp only [oB]
 obtain ⟨y, y1, y2⟩ := turn_ans (N := N) (by omega) (r := r3 (pr (a * h) b)) (show Fr (r3 (pr (a * h) b)) from .inr ⟨_, _, rfl, by have := (pr_spec (n := a * h) Td.p); have := Td.t.le; omega, by have := (pr_spec (n := a * h) Td.p); have := Td.t.le; omega⟩)
 rw [y1, y2]
 exact ⟨y, rfl, rfl⟩
theorem a_angle {N : Nat} (hN : 200000000000000 ≤ N) {h a b e f c d : Nat} (Td : Dial h a b) (K : Clk e f c d) : Ans N h a b e f c d w_angle nI 0 0 := by
 unfold Ans
 rw [show zq46.g N h a b e f c d w_angle nI 0 0 nE = (zq4.g N h a b).bind fun r3 => (zq77.g N r3.1 r3.2.1 r3.2.2).bind fun r4 => some (r4.1, r4.2) by kernel_rfl, show zq120.g N w_angle h a b e f c d nE 0 0 nI = (zq96.g N h a b).bind fun r3 => (zq130.g N r3.1 r3.2.1 r3.2.2).bind fun r4 => some (r4, (h : Int), (a : Int), (b : Int), (e : Int), (f : Int), (c : Int), (d : Int), nE, 0, 0, []) by kernel_rfl]
 have q := Angle_yes (N := N) (by omega) Td
 rw [q.1, q.2]
 simp only [oB]
 obtain ⟨y, y1, y2⟩ := turn_ans (N := N) (by omega) (r := r3 (pr (a * (h - 1)) b)) (show Fr (r3 (pr (a * (h - 1)) b)) from .inr ⟨_, _, rfl, by have := (pr_spec (n := a * (h - 1)) Td.p); have := Td.t.le; omega, by have := (pr_spec (n := a * (h - 1)) Td.p); have := Td.t.le; omega⟩)
 rw [y1, y2]
 exact ⟨y, rfl, rfl⟩
theorem small_bd {n D : Nat} (hD : 0 < D) : (smallV (pr n D)).1 ≤ D ∧ (smallV (pr n D)).2 ≤ D := by
 have h1 := pr_spec (n := n) hD
 have h2 := pr_spec (n := (pr n D).2 - (pr n D).1) (d := (pr n D).2) (by omega)
 unfold smallV
 split <;> omega
theorem a_small {N : Nat} (hN : 200000000000000 ≤ N) {h a b e f c d : Nat} (Td : Dial h a b) (K : Clk e f c d) : Ans N h a b e f c d w_small nI 0 0 := by
 unfold Ans
 rw [show zq46.g N h a b e f c d w_small nI 0 0 nE = (zq34.g N h a b).bind fun r3 => (zq77.g N r3.1 r3.2.1 r3.2.2).bind fun r4 => some (r4.1, r4.2) by kernel_rfl, show zq120.g N w_small h a b e f c d nE 0 0 nI = (zq115.g N h a b).bind fun r3 => (zq130.g N r3.1 r3.2.1 r3.2.2).bind fun r4 => some (r4, (h : Int), (a : Int), (b : Int), (e : Int), (f : Int), (c : Int), (d : Int), nE, 0, 0, []) by kernel_rfl]
 have q := small_yes (N := N) (by omega) Td
 rw [q.1, q.2]
 simp only [oB]
 obtain ⟨y, y1, y2⟩ := turn_ans (N := N) (by omega) (r := r3 (smallV (pr (a * (h - 1)) b))) (show Fr (r3 (smallV (pr (a * (h - 1)) b))) from .inr ⟨_, _, rfl, by have := small_bd (n := a * (h - 1)) Td.p; have := Td.t.le; omega, by have := small_bd (n := a * (h - 1)) Td.p; have := Td.t.le; omega⟩)
 rw [y1, y2]
 exact ⟨y, rfl, rfl⟩
theorem a_with {N : Nat} (hN : 200000000000000 ≤ N) {h a b e f c d : Nat} (Td : Dial h a b) (K : Clk e f c d) (n m : Nat) (hn : n ≤ 999999) (hm : m ≤ 999999) : Ans N h a b e f c d w_with [(n : Int), (m : Int)] 0 0 := by
 unfold Ans
 rw [show zq46.g N h a b e f c d w_with [(n : Int), (m : Int)] 0 0 nE = (zq80.g N h n m).bind fun r11 => some (r11.1, r11.2) by kernel_rfl, show zq120.g N w_with h a b e f c d nE 0 0 [(n : Int), (m : Int)] = (zq122.g N h a b e f c d nE 0 0 [(n : Int), (m : Int)]).bind fun r9 => bif (!r9.2.2.1) then some (noT, r9.2.2.2.1, r9.2.2.2.2.1, r9.2.2.2.2.2.1, r9.2.2.2.2.2.2.1, r9.2.2.2.2.2.2.2.1, r9.2.2.2.2.2.2.2.2.1, r9.2.2.2.2.2.2.2.2.2.1, r9.2.2.2.2.2.2.2.2.2.2.1, r9.2.2.2.2.2.2.2.2.2.2.2.1, r9.2.2.2.2.2.2.2.2.2.2.2.2.1, r9.2.2.2.2.2.2.2.2.2.2.2.2.2) else (zq118.g N h r9.1 r9.2.1).bind fun r10 => (zq131.g N r10.1 r10.2).bind fun r11 => some (r11, r9.2.2.2.1, r9.2.2.2.2.1, r9.2.2.2.2.2.1, r9.2.2.2.2.2.2.1, r9.2.2.2.2.2.2.2.1, r9.2.2.2.2.2.2.2.2.1, r9.2.2.2.2.2.2.2.2.2.1, r9.2.2.2.2.2.2.2.2.2.2.1, r9.2.2.2.2.2.2.2.2.2.2.2.1, r9.2.2.2.2.2.2.2.2.2.2.2.2.1, r9.2.2.2.2.2.2.2.2.2.2.2.2.2) by kernel_rfl]
 obtain ⟨y, y1, y2⟩ := with_reply (N := N) (k := h) (by omega) hn hm
 rw [y1, made_eq, (Make_eq (N := N) (by omega) hn hm).2]
 refine ⟨y, rfl, ?_⟩
 simp only [oB]
 rcases y2 with ⟨k1, k2⟩ | ⟨k1, k2⟩
 ·rw [k1]
  have : reply y = noT := by unfold reply; rw [k2]; rfl
  rw [this]; rfl
 ·rw [k1, nT, cF, (With_eq (by omega) _ _ _).2, oB, k2]; rfl
theorem Fr_sh {e f c d : Nat} (K : Clk e f c d) {s1 s2 : Int} (hs : s1 = 0 ∧ s2 = 0 ∨ spanB s1 s2 = true) (l : Int) : Fr (shV e f c d s1 s2 l) := by
 unfold shV
 split
 ·rename_i hc
  rw [Bool.and_eq_true] at hc
  obtain ⟨x, y, rfl, rfl, x1, y1, y2⟩ := spanB_nat hc.2
  simp only [tN]
  have hp : 0 < y * d * f := Nat.mul_pos (Nat.mul_pos y1 K.d1) (Nat.lt_of_le_of_lt (Nat.zero_le _) K.t.lt)
  obtain ⟨m, k, _, e'⟩ := prZ_rep ((x : Int) * ((c : Int) - l * (d : Int)) * (f : Int) + (e : Int) * ((y * d : Nat) : Int)) hp
  rw [e']
  exact Fr.pr hp
 ·exact .inl rfl
theorem a_shown {N : Nat} (hN : 200000000000000 ≤ N) {h a b e f c d : Nat} (Td : Dial h a b) (K : Clk e f c d) (s1 s2 : Int) (hs : s1 = 0 ∧ s2 = 0 ∨ spanB s1 s2 = true) : Ans N h a b e f c d w_shown nI s1 s2 := by
 unfold Ans
 rw [show zq46.g N h a b e f c d w_shown nI s1 s2 nE = (zq33.g N e f c d s1 s2).bind fun r3 => (zq77.g N r3.1 r3.2.1 r3.2.2).bind fun r4 => some (r4.1, r4.2) by kernel_rfl, show zq120.g N w_shown h a b e f c d nE s1 s2 nI = (zq114.g N e f c d s1 s2).bind fun r3 => (zq130.g N r3.1 r3.2.1 r3.2.2).bind fun r4 => some (r4, (h : Int), (a : Int), (b : Int), (e : Int), (f : Int), (c : Int), (d : Int), nE, s1, s2, []) by kernel_rfl]
 have q := Shown_eq (N := N) (by omega) e f c d s1 s2
 rw [q.1, q.2]
 simp only [oB]
 obtain ⟨y, y1, y2⟩ := turn_ans (N := N) (by omega) (Fr_sh K hs _)
 rw [y1, y2]
 exact ⟨y, rfl, rfl⟩
theorem a_ahead {N : Nat} (hN : 200000000000000 ≤ N) {h a b e f c d : Nat} (Td : Dial h a b) (K : Clk e f c d) (s1 s2 : Int) (hs : s1 = 0 ∧ s2 = 0 ∨ spanB s1 s2 = true) : Ans N h a b e f c d w_ahead nI s1 s2 := by
 unfold Ans
 rw [show zq46.g N h a b e f c d w_ahead nI s1 s2 nE = (zq3.g N e f c d s1 s2).bind fun r3 => (zq77.g N r3.1 r3.2.1 r3.2.2).bind fun r4 => some (r4.1, r4.2) by kernel_rfl, show zq120.g N w_ahead h a b e f c d nE s1 s2 nI = (zq95.g N e f c d s1 s2).bind fun r3 => (zq130.g N r3.1 r3.2.1 r3.2.2).bind fun r4 => some (r4, (h : Int), (a : Int), (b : Int), (e : Int), (f : Int), (c : Int), (d : Int), nE, s1, s2, []) by kernel_rfl]
 have q := Ahead_eq (N := N) (by omega) e f c d s1 s2
 rw [q.1, q.2]
 simp only [oB]
 obtain ⟨y, y1, y2⟩ := turn_ans (N := N) (by omega) (Fr_sh K hs _)
 rw [y1, y2]
 exact ⟨y, rfl, rfl⟩
theorem a_right {N : Nat} (hN : 200000000000000 ≤ N) {h a b e f c d : Nat} (Td : Dial h a b) (K : Clk e f c d) : Ans N h a b e f c d w_right nI 0 0 := by
 unfold Ans
 rw [show zq46.g N h a b e f c d w_right nI 0 0 nE = (zq13.g N e f c d).bind fun r3 => (zq74.g N r3.1 r3.2.1 r3.2.2).bind fun r4 => some (r4.1, r4.2) by kernel_rfl, show zq120.g N w_right h a b e f c d nE 0 0 nI = (zq106.g N e f c d).bind fun r3 => (zq127.g N r3.1 r3.2.1 r3.2.2).bind fun r4 => some (r4, (h : Int), (a : Int), (b : Int), (e : Int), (f : Int), (c : Int), (d : Int), nE, 0, 0, []) by kernel_rfl]
 obtain ⟨r, q1, q2, q3⟩ := First_eq (N := N) (by omega) K
 rw [q1, q2]
 simp only [oB]
 obtain ⟨y, y1, y2⟩ := span_ans (N := N) (by omega) (Fr.sp q3)
 rw [y1, y2]
 exact ⟨y, rfl, rfl⟩
theorem a_every {N : Nat} (hN : 200000000000000 ≤ N) {h a b e f c d : Nat} (Td : Dial h a b) (K : Clk e f c d) : Ans N h a b e f c d w_every nI 0 0 := by
 unfold Ans
 rw [show zq46.g N h a b e f c d w_every nI 0 0 nE = (zq29.g N e f c d).bind fun r3 => (zq74.g N r3.1 r3.2.1 r3.2.2).bind fun r4 => some (r4.1, r4.2) by kernel_rfl, show zq120.g N w_every h a b e f c d nE 0 0 nI = (zq112.g N e f c d).bind fun r3 => (zq127.g N r3.1 r3.2.1 r3.2.2).bind fun r4 => some (r4, (h : Int), (a : Int), (b : Int), (e : Int), (f : Int), (c : Int), (d : Int), nE, 0, 0, []) by kernel_rfl]
 obtain ⟨r, q1, q2, q3⟩ := Every_eq (N := N) (by omega) K
 rw [q1, q2]
 simp only [oB]
 obtain ⟨y, y1, y2⟩ := span_ans (N := N) (by omega) (Fr.sp q3)
 rw [y1, y2]
 exact ⟨y, rfl, rfl⟩
theorem a_unsure {N : Nat} (hN : 200000000000000 ≤ N) {h a b e f c d : Nat} (Td : Dial h a b) (K : Clk e f c d) : Ans N h a b e f c d w_unsure nI 0 0 := by
 unfold Ans
 rw [show zq46.g N h a b e f c d w_unsure nI 0 0 nE = (zq7.g N h).bind fun r20 => (zq179.g N r20.1).bind fun r21 => some (r21, r20.2) by kernel_rfl, show zq120.g N w_unsure h a b e f c d nE 0 0 nI = (zq98.g N h).bind fun r20 => (zq170.g N r20.1).bind fun r21 => some (r21, (h : Int), (a : Int), (b : Int), (e : Int), (f : Int), (c : Int), (d : Int), nE, 0, 0, []) by kernel_rfl]
 have q := Count_eq (N := N) Td.k1 Td.k2
 have hk : h * h ≤ 24 * 24 := Nat.mul_le_mul Td.k2 Td.k2
 rw [q.1, q.2]
 simp only [oB]
 rw [itoa_eq N (by omega), num_eq (by omega) (by omega)]
 exact ⟨(bsOf (Lib.decDigits (h * h - h)), true), rfl, rfl⟩
theorem a_other {N : Nat} (hN : 200000000000000 ≤ N) {h a b e f c d : Nat} (Td : Dial h a b) (K : Clk e f c d) (n : Nat) : Ans N h a b e f c d w_other [(n : Int)] 0 0 := by
 unfold Ans
 rw [show zq46.g N h a b e f c d w_other [(n : Int)] 0 0 nE = (zq35.g N h n a b).bind fun r22 => some (r22.1, r22.2) by kernel_rfl, show zq120.g N w_other h a b e f c d nE 0 0 [(n : Int)] = (zq116.g N h n a b).bind fun r23 => bif (!r23.2) then some (noT, (h : Int), (a : Int), (b : Int), (e : Int), (f : Int), (c : Int), (d : Int), nE, 0, 0, [(n : Int)]) else some (r23.1, (h : Int), (a : Int), (b : Int), (e : Int), (f : Int), (c : Int), (d : Int), nE, 0, 0, [(n : Int)]) by kernel_rfl]
 obtain ⟨r, q1, q2, _⟩ := Tell_eq (N := N) (by omega) (h : Int) n a b
 rw [q1, q2]
 refine ⟨r, rfl, ?_⟩
 obtain ⟨r1, r2⟩ := r
 cases r2 <;> rfl
theorem a_leap {N : Nat} (hN : 200000000000000 ≤ N) {h a b e f c d : Nat} (Td : Dial h a b) (K : Clk e f c d) (n : Nat) (hn : n ≤ 999999) : Ans N h a b e f c d w_leap [(n : Int)] 0 0 := by
 unfold Ans
 rw [show zq46.g N h a b e f c d w_leap [(n : Int)] 0 0 nE = (zq66.g N n).bind fun r24 => some (r24.1, r24.2) by kernel_rfl, show zq120.g N w_leap h a b e f c d nE 0 0 [(n : Int)] = (zq107.g N 4 100 400 n).bind fun r25 => bif (!r25.2) then some (noT, (h : Int), (a : Int), (b : Int), (e : Int), (f : Int), (c : Int), (d : Int), nE, 0, 0, [(n : Int)]) else bif r25.1 then some ((⟨#[121, 101, 115]⟩ : ByteArray), (h : Int), (a : Int), (b : Int), (e : Int), (f : Int), (c : Int), (d : Int), nE, 0, 0, [(n : Int)]) else some ((⟨#[110, 111, 116]⟩ : ByteArray), (h : Int), (a : Int), (b : Int), (e : Int), (f : Int), (c : Int), (d : Int), nE, 0, 0, [(n : Int)]) by kernel_rfl]
 obtain ⟨r, x, q1, q2, q3⟩ := leap_reply (N := N) hn
 rw [q1, q2]
 refine ⟨x, rfl, ?_⟩
 subst q3
 obtain ⟨r1, r2⟩ := r
 cases r1 <;> cases r2 <;> rfl
theorem a_best {N : Nat} (hN : 200000000000000 ≤ N) {h a b e f c d : Nat} (Td : Dial h a b) (K : Clk e f c d) (n m o : Nat) : Ans N h a b e f c d w_best [(n : Int), (m : Int), (o : Int)] 0 0 := by
 unfold Ans
 rw [show zq46.g N h a b e f c d w_best [(n : Int), (m : Int), (o : Int)] 0 0 nE = (zq47.g N n m o).bind fun r26 => some (r26.1, r26.2) by kernel_rfl, show zq120.g N w_best h a b e f c d nE 0 0 [(n : Int), (m : Int), (o : Int)] = (zq97.g N n m o).bind fun r29 => bif (!r29.2) then some (noT, (h : Int), (a : Int), (b : Int), (e : Int), (f : Int), (c : Int), (d : Int), nE, 0, 0, [(n : Int), (m : Int), (o : Int)]) else zq120.l1 N N r29.1 (r29.1.length : Int) 0 h a b e f c d nE 0 0 [(n : Int), (m : Int), (o : Int)] by kernel_rfl]
 obtain ⟨x, r, q1, q2, q3, q4⟩ := best_reply (N := N) (by omega) n m o
 rw [q1, q2]
 refine ⟨x, rfl, ?_⟩
 simp only [oB]
 cases hr : r.2 with
 | false =>
  have : reply x = noT := by unfold reply; rw [← q3, hr]; rfl
  rw [this]; rfl
 | true =>
  have : reply x = x.1 := by unfold reply; rw [← q3, hr]; rfl
  rw [nT, cF, q4 _ _ _ _ _ _ _ _ _ _ _ hr, this]
noncomputable def movB (r1 : zq123.R) : Option zq128.R := some (r1.2.1, r1.2.2.1, r1.2.2.2.1, r1.2.2.2.2.1, r1.2.2.2.2.2.1, r1.2.2.2.2.2.2.1, r1.2.2.2.2.2.2.2.1, r1.1)
noncomputable def rdB (N : Nat) (h a b e f c d : Int) (L : List ByteArray) (w : ByteArray) (r1 : zq68.R) : Option zq48.R := bif (!r1.2.2.2.2) then some (h, a, b, e, f, c, d, whatT) else (zq49.g N h a b e f c d w r1.1 r1.2.1 r1.2.2.1 r1.2.2.2.1).bind (chgB N h a b e f c d L r1.1 r1.2.1 r1.2.2.1 r1.2.2.2.1)
def Same (h a b e f c d : Int) (x : Option zq48.R) (y : Option zq128.R) : Prop := ∃ (q1 q2 q3 q4 q5 q6 q7 : Int) (t : ByteArray), x = some (q1, q2, q3, q4, q5, q6, q7, t) ∧ y = some (q1, q2, q3, q4, q5, q6, q7, t) ∧ deskB q1 q2 q3 q4 q5 q6 q7 = true ∧ ((q1, q2, q3, q4, q5, q6, q7) = (h, a, b, e, f, c, d) ∨ t = txD q1 q2 q3)
def Both (N : Nat) (h a b e f c d : Int) (L : List ByteArray) : Prop := Same h a b e f c d (carB N h a b e f c d L) ((reaB N h a b e f c d L).bind (stpB N h a b e f c d))
def After (N : Nat) (h a b e f c d : Int) (ws : List ByteArray) (w : ByteArray) (n : List Int) (s1 s2 : Int) (x : ByteArray) : Prop := Same h a b e f c d ((zq49.g N h a b e f c d w n s1 s2 x).bind (chgB N h a b e f c d (w :: ws) n s1 s2 x)) (stpB N h a b e f c d (w, h, a, b, e, f, c, d, x, s1, s2, n, true))
theorem same_bad {h a b e f c d : Int} (hd : deskB h a b e f c d = true) {t : ByteArray} {x : Option zq48.R} {y : Option zq128.R} (h1 : x = some (h, a, b, e, f, c, d, t)) (h2 : y = some (h, a, b, e, f, c, d, t)) : Same h a b e f c d x y := ⟨_, _, _, _, _, _, _, t, h1, h2, hd, .inl rfl⟩
theorem desk_of {h a b e f c d : Nat} (Td : Dial h a b) (K : Clk e f c d) : deskB h a b e f c d = true := by
 unfold deskB
 rw [Td.b, K.b]; rfl
theorem after_chg {N : Nat} (hN : 10000000 ≤ N) {h a b e f c d : Int} (hd : deskB h a b e f c d = true) {w : ByteArray} {n : List Int} {x : ByteArray} (ws : List ByteArray) (hc : Chg N h a b e f c d w n x) (hs : stpB N h a b e f c d (w, h, a, b, e, f, c, d, x, 0, 0, n, true) = (zq123.g N w h a b e f c d x 0 0 n).bind movB) : After N h a b e f c d ws w n 0 0 x := by
 obtain ⟨h', a', b', e', f', c', d', ok, k1, k2⟩ := hc
 obtain ⟨y, z, u, v, e1⟩ := mov_tail hN h a b e f c d x 0 0 n h' a' b' e' f' c' d' ok
 obtain ⟨q1, q2, q3, q4, q5, q6, q7, t, e2, e3, e4⟩ := chgR_ok (h' := h') (a' := a') (b' := b') (e' := e') (f' := f') (c' := c') (d' := d') (ok := ok) hd
 rw [e2] at e1
 refine ⟨q1, q2, q3, q4, q5, q6, q7, t, (k1 _).trans (congrArg some e2), ?_, e3, e4⟩
 rw [hs, k2, e1]; rfl
theorem ask_tail (N : Nat) (h a b e f c d : Int) (w : ByteArray) (ws : List ByteArray) (n : List Int) (s1 s2 : Int) (x : ByteArray) : chgB N h a b e f c d (w :: ws) n s1 s2 x (0, 0, 0, 0, 0, 0, 0, false, false) = (zq46.g N h a b e f c d w n s1 s2 x).bind fun r2 => zq48.d4 N r2.2 r2.1 h a b e f c d 0 0 0 0 0 0 0 h a b e f c d := by
 show zq48.d2 N (w :: ws) false false ⟨#[]⟩ false h a b e f c d 0 0 0 0 0 0 0 n s1 s2 x 0 0 0 0 0 0 0 = _
 unfold zq48.d2 zq48.o2 zq48.d3 zq48.o3
 simp only [cF, nF, cT]
 rw [dcT (by simp only [List.length_cons]; omega), cT]
 rfl
theorem after_ans {N : Nat} {h a b e f c d : Int} (hd : deskB h a b e f c d = true) {w : ByteArray} {n : List Int} {s1 s2 : Int} (ws : List ByteArray) (ha : Ans N h a b e f c d w n s1 s2) (hi : zq49.g N h a b e f c d w n s1 s2 nE = some (0, 0, 0, 0, 0, 0, 0, false, false)) (hs : stpB N h a b e f c d (w, h, a, b, e, f, c, d, nE, s1, s2, n, true) = (zq120.g N w h a b e f c d nE s1 s2 n).bind fun r2 => some (h, a, b, e, f, c, d, r2.1)) : After N h a b e f c d ws w n s1 s2 nE := by
 obtain ⟨y, k1, k2⟩ := ha
 refine same_bad hd (t := reply y) ?_ ?_
 ·rw [hi, oB, ask_tail, k1, oB, ans_i _ _ _ _ _ _ _ _ []]
 ·rw [hs, k2]; rfl
theorem len_w {w : ByteArray} {ws : List ByteArray} (hb : ws.length ≤ 1000000) : w64 (((w :: ws).length : Int) - 1) = (ws.length : Int) := by
 rw [w64s (by simp only [List.length_cons]; omega) (by simp only [List.length_cons]; omega)]
 simp only [List.length_cons]; omega
theorem pre_car (N : Nat) (h a b e f c d : Int) (w : ByteArray) (ws : List ByteArray) (F : ByteArray) (ok : Bool) (hf : zq53.g N w = some (F, ok)) : carB N h a b e f c d (w :: ws) = (bif (!ok) then zq48.d1 N (w :: ws) F true h a b e f c d 0 0 0 0 0 0 0 else zq48.d1 N (w :: ws) F ((w64 (((w :: ws).length : Int) - 1)) != (F.size : Int)) h a b e f c d 0 0 0 0 0 0 0) := by
 unfold carB
 rw [dcT (by simp only [List.length_cons]; omega), cT]
 rw [show (w :: ws)[Int.toNat 0]? = some w from rfl, oB, hf]; rfl
theorem car_rd (N : Nat) (h a b e f c d : Int) (w : ByteArray) (ws : List ByteArray) (F : ByteArray) (hb : ws.length ≤ 1000000) (hf : zq53.g N w = some (F, true)) (hl : ws.length = F.size) : carB N h a b e f c d (w :: ws) = (zq68.g N F ws).bind (rdB N h a b e f c d (w :: ws) w) := by
 rw [pre_car N h a b e f c d w ws F true hf, nT, cF, len_w hb, ineF (show (ws.length : Int) = (F.size : Int) by omega)]
 unfold zq48.d1 zq48.o1
 rw [cF, dcT (by omega), cT, dcT (Int.le_refl _), cT, dcT (by simp only [List.length_cons]; omega), cT, tN, List.take_length, dcT (show (0 : Int) < ((w :: ws).length : Int) by simp only [List.length_cons]; omega)]
 rfl
theorem rea_rd (N : Nat) (h a b e f c d : Int) (w : ByteArray) (ws : List ByteArray) (S : ByteArray) (hb : ws.length ≤ 1000000) (hs : zq126.g N w = some S) (hl : ws.length = S.size) : reaB N h a b e f c d (w :: ws) = zq124.l1 N N (w :: ws) S ws (ws.length : Int) 0 0 0 0 0 0 0 0 ⟨#[]⟩ 0 0 h a b e f c d ⟨#[]⟩ 0 0 := by
 unfold reaB
 rw [dcT (by simp only [List.length_cons]; omega), cT]
 rw [show (w :: ws)[Int.toNat 0]? = some w from rfl, oB, hs, oB, len_w hb, ineF (show (S.size : Int) = (ws.length : Int) by omega), cF, dcT (by omega), cT, dcT (Int.le_refl _), cT, dcT (by simp only [List.length_cons]; omega), cT, tN, List.take_length]
 rfl
theorem pre_rea (N : Nat) (h a b e f c d : Int) (w : ByteArray) (ws : List ByteArray) (S : ByteArray) (hb : ws.length ≤ 1000000) (hs : zq126.g N w = some S) (hl : ws.length ≠ S.size) : reaB N h a b e f c d (w :: ws) = some (nE, h, a, b, e, f, c, d, nE, 0, 0, nI, false) := by
 unfold reaB
 rw [dcT (by simp only [List.length_cons]; omega), cT]
 rw [show (w :: ws)[Int.toNat 0]? = some w from rfl, oB, hs, oB, len_w hb, ineT (show ¬ (S.size : Int) = (ws.length : Int) by omega)]; rfl
theorem both_len {N : Nat} {h a b e f c d : Int} {w : ByteArray} {ws : List ByteArray} {F S : ByteArray} (hd : deskB h a b e f c d = true) (hb : ws.length ≤ 1000000) (hf : zq53.g N w = some (F, true)) (hs : zq126.g N w = some S) (he : S.size = F.size) (hl : ws.length ≠ F.size) : Both N h a b e f c d (w :: ws) := by
 refine same_bad hd (t := whatT) ?_ ?_
 ·rw [pre_car N h a b e f c d w ws F true hf, nT, cF, len_w hb, ineT (show ¬ (ws.length : Int) = (F.size : Int) by omega)]; rfl
 ·rw [pre_rea N h a b e f c d w ws S hb hs (by omega)]; rfl
theorem rI_0 (M : Nat) : zq68.g (M + 9) nE [] = some (nI, 0, 0, nE, true) := by kernel_rfl
theorem rS_0 (M : Nat) (h a b e f c d : Int) (w : ByteArray) : zq124.l1 (M + 9) (M + 9) [w] nE [] 0 0 0 0 0 0 0 0 0 ⟨#[]⟩ 0 0 h a b e f c d ⟨#[]⟩ 0 0 = some (w, h, a, b, e, f, c, d, nE, 0, 0, nI, true) := by kernel_rfl
theorem form_0 {M : Nat} (hN : 200000000000000 ≤ M + 9) {h a b e f c d : Int} (hd : deskB h a b e f c d = true) {w : ByteArray} (hf : zq53.g (M + 9) w = some (nE, true)) (hs : zq126.g (M + 9) w = some nE) (K : After (M + 9) h a b e f c d [] w nI 0 0 nE) : Both (M + 9) h a b e f c d [w] := by
 unfold Both
 rw [car_rd (M + 9) h a b e f c d w [] nE (by simp) hf rfl, rea_rd (M + 9) h a b e f c d w [] nE (by simp) hs rfl, rI_0]
 rw [show (([] : List ByteArray).length : Int) = 0 from rfl, rS_0]
 exact K
theorem rI_T (M : Nat) (p : ByteArray) : zq68.g (M + 9) f_T [p] = some (nI, 0, 0, p, true) := by kernel_rfl
theorem rS_T (M : Nat) (h a b e f c d : Int) (w : ByteArray) (p : ByteArray) : zq124.l1 (M + 9) (M + 9) [w, p] g_T [p] 1 0 0 0 0 0 0 0 0 ⟨#[]⟩ 0 0 h a b e f c d ⟨#[]⟩ 0 0 = some (w, h, a, b, e, f, c, d, p, 0, 0, nI, true) := by kernel_rfl
theorem form_T {M : Nat} (hN : 200000000000000 ≤ M + 9) {h a b e f c d : Int} (hd : deskB h a b e f c d = true) {w : ByteArray} (hf : zq53.g (M + 9) w = some (f_T, true)) (hs : zq126.g (M + 9) w = some g_T) (p : ByteArray) (hp : p.size ≤ 1000000) (K : After (M + 9) h a b e f c d [p] w nI 0 0 p) : Both (M + 9) h a b e f c d [w, p] := by
 unfold Both
 rw [car_rd (M + 9) h a b e f c d w [p] f_T (by simp) hf rfl, rea_rd (M + 9) h a b e f c d w [p] g_T (by simp) hs rfl, rI_T]
 rw [show (([p] : List ByteArray).length : Int) = 1 from rfl, rS_T]
 exact K
theorem rI_S (M : Nat) (p : ByteArray) : zq68.g (M + 9) f_S [p] = (zq27.g (M + 9) p).bind fun r3 => bif (!r3.2.2) then some (nI, (0 : Int), (0 : Int), nE, false) else some (nI, r3.1, r3.2.1, nE, true) := by kernel_rfl
theorem rS_S (M : Nat) (h a b e f c d : Int) (w : ByteArray) (p : ByteArray) : zq124.l1 (M + 9) (M + 9) [w, p] g_S [p] 1 0 0 0 0 0 0 0 0 ⟨#[]⟩ 0 0 h a b e f c d ⟨#[]⟩ 0 0 = (zq111.g (M + 9) p).bind fun r3 => bif (!r3.2.2) then some (nE, h, a, b, e, f, c, d, nE, r3.1, r3.2.1, nI, false) else some (w, h, a, b, e, f, c, d, nE, r3.1, r3.2.1, nI, true) := by kernel_rfl
theorem form_S {M : Nat} (hN : 200000000000000 ≤ M + 9) {h a b e f c d : Int} (hd : deskB h a b e f c d = true) {w : ByteArray} (hf : zq53.g (M + 9) w = some (f_S, true)) (hs : zq126.g (M + 9) w = some g_S) (p : ByteArray) (hp : p.size ≤ 1000000) (K : ∀ s1 s2 : Int, spanB s1 s2 = true → After (M + 9) h a b e f c d [p] w nI s1 s2 nE) : Both (M + 9) h a b e f c d [w, p] := by
 unfold Both
 rw [car_rd (M + 9) h a b e f c d w [p] f_S (by simp) hf rfl, rea_rd (M + 9) h a b e f c d w [p] g_S (by simp) hs rfl, rI_S]
 rw [show (([p] : List ByteArray).length : Int) = 1 from rfl, rS_S]
 obtain ⟨r, i0, j0, hr⟩ := ParseSpan_eq (N := M + 9) (by omega) p hp
 rw [i0, j0]
 rcases hr with rfl | ⟨s1, s2, rfl, hsp⟩
 ·exact same_bad hd (t := whatT) rfl rfl
 ·exact K _ _ hsp
theorem rI_N (M : Nat) (p : ByteArray) : zq68.g (M + 9) f_N [p] = (zq69.g (M + 9) p 999999).bind fun r1 => bif (!r1.2) then some (nI, (0 : Int), (0 : Int), nE, false) else some ([r1.1], 0, 0, nE, true) := by kernel_rfl
theorem rS_N (M : Nat) (h a b e f c d : Int) (w : ByteArray) (p : ByteArray) : zq124.l1 (M + 9) (M + 9) [w, p] g_N [p] 1 0 0 0 0 0 0 0 0 ⟨#[]⟩ 0 0 h a b e f c d ⟨#[]⟩ 0 0 = (zq171.g (M + 9) p).bind fun r1 => bif (!(decide (r1 ≥ 0))) then some (nE, h, a, b, e, f, c, d, nE, 0, 0, [r1], false) else some (w, h, a, b, e, f, c, d, nE, 0, 0, [r1], true) := by kernel_rfl
theorem form_N {M : Nat} (hN : 200000000000000 ≤ M + 9) {h a b e f c d : Int} (hd : deskB h a b e f c d = true) {w : ByteArray} (hf : zq53.g (M + 9) w = some (f_N, true)) (hs : zq126.g (M + 9) w = some g_N) (p : ByteArray) (hp : p.size ≤ 1000000) (K : ∀ n : Nat, n ≤ 999999 → After (M + 9) h a b e f c d [p] w [(n : Int)] 0 0 nE) : Both (M + 9) h a b e f c d [w, p] := by
 unfold Both
 rw [car_rd (M + 9) h a b e f c d w [p] f_N (by simp) hf rfl, rea_rd (M + 9) h a b e f c d w [p] g_N (by simp) hs rfl, rI_N]
 rw [show (([p] : List ByteArray).length : Int) = 1 from rfl, rS_N]
 rcases word_num (N := M + 9) (by omega) p (by omega) with ⟨n, hn, i0, j0⟩ | ⟨i0, z, hz, j0⟩
 rotate_left
 ·rw [i0, j0]
  refine same_bad hd (t := whatT) rfl ?_
  simp only [oB, dcF (show ¬ z ≥ 0 by omega), nF, nT, cT, cF]
  rfl
 rw [i0, j0]
 have := K n hn
 simp only [oB, dcT (show (n : Int) ≥ 0 by omega), nT, cF]
 exact this
theorem rI_NN (M : Nat) (p q : ByteArray) : zq68.g (M + 9) f_NN [p, q] = (zq69.g (M + 9) p 999999).bind fun r1 => bif (!r1.2) then some (nI, (0 : Int), (0 : Int), nE, false) else (zq69.g (M + 9) q 999999).bind fun r2 => bif (!r2.2) then some (nI, (0 : Int), (0 : Int), nE, false) else some ([r1.1, r2.1], 0, 0, nE, true) := by kernel_rfl
theorem rS_NN (M : Nat) (h a b e f c d : Int) (w : ByteArray) (p q : ByteArray) : zq124.l1 (M + 9) (M + 9) [w, p, q] g_NN [p, q] 2 0 0 0 0 0 0 0 0 ⟨#[]⟩ 0 0 h a b e f c d ⟨#[]⟩ 0 0 = (zq171.g (M + 9) p).bind fun r1 => bif (!(decide (r1 ≥ 0))) then some (nE, h, a, b, e, f, c, d, nE, 0, 0, [r1], false) else (zq171.g (M + 9) q).bind fun r2 => bif (!(decide (r2 ≥ 0))) then some (nE, h, a, b, e, f, c, d, nE, 0, 0, [r1, r2], false) else some (w, h, a, b, e, f, c, d, nE, 0, 0, [r1, r2], true) := by kernel_rfl
theorem form_NN {M : Nat} (hN : 200000000000000 ≤ M + 9) {h a b e f c d : Int} (hd : deskB h a b e f c d = true) {w : ByteArray} (hf : zq53.g (M + 9) w = some (f_NN, true)) (hs : zq126.g (M + 9) w = some g_NN) (p q : ByteArray) (hp : p.size ≤ 1000000) (hq : q.size ≤ 1000000) (K : ∀ n m : Nat, n ≤ 999999 → m ≤ 999999 → After (M + 9) h a b e f c d [p, q] w [(n : Int), (m : Int)] 0 0 nE) : Both (M + 9) h a b e f c d [w, p, q] := by
 unfold Both
 rw [car_rd (M + 9) h a b e f c d w [p, q] f_NN (by simp) hf rfl, rea_rd (M + 9) h a b e f c d w [p, q] g_NN (by simp) hs rfl, rI_NN]
 rw [show (([p, q] : List ByteArray).length : Int) = 2 from rfl, rS_NN]
 rcases word_num (N := M + 9) (by omega) p (by omega) with ⟨n, hn, i0, j0⟩ | ⟨i0, z, hz, j0⟩
 rotate_left
 ·rw [i0, j0]
  refine same_bad hd (t := whatT) rfl ?_
  simp only [oB, dcF (show ¬ z ≥ 0 by omega), nF, nT, cT, cF]
  rfl
 rw [i0, j0]
 rcases word_num (N := M + 9) (by omega) q (by omega) with ⟨m, hm, i1, j1⟩ | ⟨i1, z, hz, j1⟩
 rotate_left
 ·rw [i1, j1]
  refine same_bad hd (t := whatT) rfl ?_
  simp only [oB, dcT (show (n : Int) ≥ 0 by omega), dcF (show ¬ z ≥ 0 by omega), nF, nT, cT, cF]
  rfl
 rw [i1, j1]
 have := K n m hn hm
 simp only [oB, dcT (show (n : Int) ≥ 0 by omega), dcT (show (m : Int) ≥ 0 by omega), nT, cF]
 exact this
theorem rI_NNN (M : Nat) (p q r : ByteArray) : zq68.g (M + 9) f_NNN [p, q, r] = (zq69.g (M + 9) p 999999).bind fun r1 => bif (!r1.2) then some (nI, (0 : Int), (0 : Int), nE, false) else (zq69.g (M + 9) q 999999).bind fun r2 => bif (!r2.2) then some (nI, (0 : Int), (0 : Int), nE, false) else (zq69.g (M + 9) r 999999).bind fun r3 => bif (!r3.2) then some (nI, (0 : Int), (0 : Int), nE, false) else some ([r1.1, r2.1, r3.1], 0, 0, nE, true) := by kernel_rfl
theorem rS_NNN (M : Nat) (h a b e f c d : Int) (w : ByteArray) (p q r : ByteArray) : zq124.l1 (M + 9) (M + 9) [w, p, q, r] g_NNN [p, q, r] 3 0 0 0 0 0 0 0 0 ⟨#[]⟩ 0 0 h a b e f c d ⟨#[]⟩ 0 0 = (zq171.g (M + 9) p).bind fun r1 => bif (!(decide (r1 ≥ 0))) then some (nE, h, a, b, e, f, c, d, nE, 0, 0, [r1], false) else (zq171.g (M + 9) q).bind fun r2 => bif (!(decide (r2 ≥ 0))) then some (nE, h, a, b, e, f, c, d, nE, 0, 0, [r1, r2], false) else (zq171.g (M + 9) r).bind fun r3 => bif (!(decide (r3 ≥ 0))) then some (nE, h, a, b, e, f, c, d, nE, 0, 0, [r1, r2, r3], false) else some (w, h, a, b, e, f, c, d, nE, 0, 0, [r1, r2, r3], true) := by kernel_rfl
theorem form_NNN {M : Nat} (hN : 200000000000000 ≤ M + 9) {h a b e f c d : Int} (hd : deskB h a b e f c d = true) {w : ByteArray} (hf : zq53.g (M + 9) w = some (f_NNN, true)) (hs : zq126.g (M + 9) w = some g_NNN) (p q r : ByteArray) (hp : p.size ≤ 1000000) (hq : q.size ≤ 1000000) (hr : r.size ≤ 1000000) (K : ∀ n m o : Nat, n ≤ 999999 → m ≤ 999999 → o ≤ 999999 → After (M + 9) h a b e f c d [p, q, r] w [(n : Int), (m : Int), (o : Int)] 0 0 nE) : Both (M + 9) h a b e f c d [w, p, q, r] := by
 unfold Both
 rw [car_rd (M + 9) h a b e f c d w [p, q, r] f_NNN (by simp) hf rfl, rea_rd (M + 9) h a b e f c d w [p, q, r] g_NNN (by simp) hs rfl, rI_NNN]
 rw [show (([p, q, r] : List ByteArray).length : Int) = 3 from rfl, rS_NNN]
 rcases word_num (N := M + 9) (by omega) p (by omega) with ⟨n, hn, i0, j0⟩ | ⟨i0, z, hz, j0⟩
 rotate_left
 ·rw [i0, j0]
  refine same_bad hd (t := whatT) rfl ?_
  simp only [oB, dcF (show ¬ z ≥ 0 by omega), nF, nT, cT, cF]
  rfl
 rw [i0, j0]
 rcases word_num (N := M + 9) (by omega) q (by omega) with ⟨m, hm, i1, j1⟩ | ⟨i1, z, hz, j1⟩
 rotate_left
 ·rw [i1, j1]
  refine same_bad hd (t := whatT) rfl ?_
  simp only [oB, dcT (show (n : Int) ≥ 0 by omega), dcF (show ¬ z ≥ 0 by omega), nF, nT, cT, cF]
  rfl
 rw [i1, j1]
 rcases word_num (N := M + 9) (by omega) r (by omega) with ⟨o, ho, i2, j2⟩ | ⟨i2, z, hz, j2⟩
 rotate_left
 ·rw [i2, j2]
  refine same_bad hd (t := whatT) rfl ?_
  simp only [oB, dcT (show (n : Int) ≥ 0 by omega), dcT (show (m : Int) ≥ 0 by omega), dcF (show ¬ z ≥ 0 by omega), nF, nT, cT, cF]
  rfl
 rw [i2, j2]
 have := K n m o hn hm ho
 simp only [oB, dcT (show (n : Int) ≥ 0 by omega), dcT (show (m : Int) ≥ 0 by omega), dcT (show (o : Int) ≥ 0 by omega), nT, cF]
 exact this
theorem ba_ne {a b : ByteArray} (h : a ≠ b) : (a == b) = false := by
 cases hq : (a == b) with
 | false => rfl
 | true =>
  obtain ⟨x⟩ := a
  obtain ⟨y⟩ := b
  have : (x == y) = true := hq
  exact absurd (congrArg ByteArray.mk (eq_of_beq this)) h
theorem tl_ne {a b : ByteArray} (h : a ≠ b) : (a.toList == b.toList) = false := by
 cases hq : (a.toList == b.toList) with
 | false => rfl
 | true =>
  have hq := eq_of_beq hq
  rw [bs_toList, bs_toList] at hq
  exact absurd (bs_ext hq) h
theorem q_loop (M : Nat) (h a b e f c d : Int) (w p : ByteArray) : zq124.l1 (M + 9) (M + 9) [w, p] (⟨#[63]⟩ : ByteArray) [p] 1 0 0 0 0 0 0 0 0 ⟨#[]⟩ 0 0 h a b e f c d ⟨#[]⟩ 0 0 = some (nE, h, a, b, e, f, c, d, nE, 0, 0, nI, false) := by kernel_rfl
theorem both_unk {M : Nat} {h a b e f c d : Int} {w : ByteArray} {ws : List ByteArray} (hd : deskB h a b e f c d = true) (hb : ws.length ≤ 1000000) (hf : zq53.g (M + 9) w = some (⟨#[]⟩, false)) (hs : zq126.g (M + 9) w = some ⟨#[63]⟩) : Both (M + 9) h a b e f c d (w :: ws) := by
 refine same_bad hd (t := whatT) ?_ ?_
 ·rw [pre_car (M + 9) h a b e f c d w ws _ false hf, nF, cT]; rfl
 ·by_cases hl : ws.length = 1
  ·obtain ⟨p, rfl⟩ := List.length_eq_one_iff.1 hl
   rw [rea_rd (M + 9) h a b e f c d w [p] _ hb hs rfl, show (([p] : List ByteArray).length : Int) = 1 from rfl, q_loop]; rfl
  ·rw [pre_rea (M + 9) h a b e f c d w ws _ hb hs (by show ws.length ≠ 1; exact hl)]; rfl
theorem unk_both {M : Nat} {h a b e f c d : Int} {w : ByteArray} {ws : List ByteArray} (hd : deskB h a b e f c d = true) (hb : ws.length ≤ 1000000) (n_dial : w ≠ w_dial) (n_set : w ≠ w_set) (n_turn : w ≠ w_turn) (n_on : w ≠ w_on) (n_off : w ≠ w_off) (n_mirror : w ≠ w_mirror) (n_swap : w ≠ w_swap) (n_clock : w ≠ w_clock) (n_show : w ≠ w_show) (n_where : w ≠ w_where) (n_long : w ≠ w_long) (n_angle : w ≠ w_angle) (n_small : w ≠ w_small) (n_with : w ≠ w_with) (n_shown : w ≠ w_shown) (n_ahead : w ≠ w_ahead) (n_right : w ≠ w_right) (n_every : w ≠ w_every) (n_unsure : w ≠ w_unsure) (n_other : w ≠ w_other) (n_leap : w ≠ w_leap) (n_best : w ≠ w_best) : Both (M + 9) h a b e f c d (w :: ws) := by
 refine both_unk hd hb ?_ ?_
 ·have e : zq53.look w zq53.tab = none := by
   unfold zq53.tab
   unfold zq53.look
   rw [ba_ne n_dial, cF]
   unfold zq53.look
   rw [ba_ne n_set, cF]
   unfold zq53.look
   rw [ba_ne n_turn, cF]
   unfold zq53.look
   rw [ba_ne n_on, cF]
   unfold zq53.look
   rw [ba_ne n_off, cF]
   unfold zq53.look
   rw [ba_ne n_mirror, cF]
   unfold zq53.look
   rw [ba_ne n_swap, cF]
   unfold zq53.look
   rw [ba_ne n_clock, cF]
   unfold zq53.look
   rw [ba_ne n_show, cF]
   unfold zq53.look
   rw [ba_ne n_where, cF]
   unfold zq53.look
   rw [ba_ne n_long, cF]
   unfold zq53.look
   rw [ba_ne n_angle, cF]
   unfold zq53.look
   rw [ba_ne n_small, cF]
   unfold zq53.look
   rw [ba_ne n_with, cF]
   unfold zq53.look
   rw [ba_ne n_shown, cF]
   unfold zq53.look
   rw [ba_ne n_ahead, cF]
   unfold zq53.look
   rw [ba_ne n_right, cF]
   unfold zq53.look
   rw [ba_ne n_every, cF]
   unfold zq53.look
   rw [ba_ne n_unsure, cF]
   unfold zq53.look
   rw [ba_ne n_other, cF]
   unfold zq53.look
   rw [ba_ne n_leap, cF]
   unfold zq53.look
   rw [ba_ne n_best, cF]
   rfl
  unfold zq53.g zq53.val
  rw [e]
 ·unfold zq126.g zq126.o0 zq126.d1 zq126.o1 zq126.d2 zq126.o2 zq126.d3 zq126.o3 zq126.d4 zq126.o4
  simp only [tl_ne n_dial, tl_ne n_set, tl_ne n_turn, tl_ne n_on, tl_ne n_off, tl_ne n_mirror, tl_ne n_swap, tl_ne n_clock, tl_ne n_show, tl_ne n_where, tl_ne n_long, tl_ne n_angle, tl_ne n_small, tl_ne n_with, tl_ne n_shown, tl_ne n_ahead, tl_ne n_right, tl_ne n_every, tl_ne n_unsure, tl_ne n_other, tl_ne n_leap, tl_ne n_best, cF]
theorem both_words {M : Nat} (hN : 200000000000000 ≤ M + 9) {h a b e f c d : Nat} (Td : Dial h a b) (K : Clk e f c d) (w : ByteArray) (ws : List ByteArray) (hb : ws.length ≤ 1000000) (hz : ∀ x ∈ ws, x.size ≤ 1000000) : Both (M + 9) h a b e f c d (w :: ws) := by
 have hd := desk_of Td K
 by_cases n_dial : w = w_dial
 ·subst n_dial
  by_cases hl : ws.length = 1
  ·match ws, hl with
   | [p], _ => exact form_N hN hd (by kernel_rfl) (by kernel_rfl) p (hz p (by simp)) (fun n hn => after_chg (by omega) hd _ (c_dial hN Td K n) (by kernel_rfl))
  ·exact both_len (F := f_N) (S := g_N) hd hb (by kernel_rfl) (by kernel_rfl) rfl hl
 by_cases n_set : w = w_set
 ·subst n_set
  by_cases hl : ws.length = 1
  ·match ws, hl with
   | [p], _ => exact form_T hN hd (by kernel_rfl) (by kernel_rfl) p (hz p (by simp)) (after_chg (by omega) hd _ (c_set hN Td K p (hz p (by simp))) (by kernel_rfl))
  ·exact both_len (F := f_T) (S := g_T) hd hb (by kernel_rfl) (by kernel_rfl) rfl hl
 by_cases n_turn : w = w_turn
 ·subst n_turn
  by_cases hl : ws.length = 2
  ·match ws, hl with
   | [p, q], _ => exact form_NN hN hd (by kernel_rfl) (by kernel_rfl) p q (hz p (by simp)) (hz q (by simp)) (fun n m hn hm => after_chg (by omega) hd _ (c_turn hN Td K n m hn hm) (by kernel_rfl))
  ·exact both_len (F := f_NN) (S := g_NN) hd hb (by kernel_rfl) (by kernel_rfl) rfl hl
 by_cases n_on : w = w_on
 ·subst n_on
  by_cases hl : ws.length = 2
  ·match ws, hl with
   | [p, q], _ => exact form_NN hN hd (by kernel_rfl) (by kernel_rfl) p q (hz p (by simp)) (hz q (by simp)) (fun n m hn hm => after_chg (by omega) hd _ (c_on hN Td K n m hn hm) (by kernel_rfl))
  ·exact both_len (F := f_NN) (S := g_NN) hd hb (by kernel_rfl) (by kernel_rfl) rfl hl
 by_cases n_off : w = w_off
 ·subst n_off
  by_cases hl : ws.length = 2
  ·match ws, hl with
   | [p, q], _ => exact form_NN hN hd (by kernel_rfl) (by kernel_rfl) p q (hz p (by simp)) (hz q (by simp)) (fun n m hn hm => after_chg (by omega) hd _ (c_off hN Td K n m hn hm) (by kernel_rfl))
  ·exact both_len (F := f_NN) (S := g_NN) hd hb (by kernel_rfl) (by kernel_rfl) rfl hl
 by_cases n_mirror : w = w_mirror
 ·subst n_mirror
  by_cases hl : ws.length = 0
  ·obtain rfl := List.length_eq_zero_iff.1 hl
   exact form_0 hN hd (by kernel_rfl) (by kernel_rfl) (after_chg (by omega) hd _ (c_mirror hN Td K ) (by kernel_rfl))
  ·exact both_len (F := nE) (S := nE) hd hb (by kernel_rfl) (by kernel_rfl) rfl hl
 by_cases n_swap : w = w_swap
 ·subst n_swap
  by_cases hl : ws.length = 0
  ·obtain rfl := List.length_eq_zero_iff.1 hl
   exact form_0 hN hd (by kernel_rfl) (by kernel_rfl) (after_chg (by omega) hd _ (c_swap hN Td K ) (by kernel_rfl))
  ·exact both_len (F := nE) (S := nE) hd hb (by kernel_rfl) (by kernel_rfl) rfl hl
 by_cases n_clock : w = w_clock
 ·subst n_clock
  by_cases hl : ws.length = 2
  ·match ws, hl with
   | [p, q], _ => exact form_NN hN hd (by kernel_rfl) (by kernel_rfl) p q (hz p (by simp)) (hz q (by simp)) (fun n m hn hm => after_chg (by omega) hd _ (c_clock hN Td K n m) (by kernel_rfl))
  ·exact both_len (F := f_NN) (S := g_NN) hd hb (by kernel_rfl) (by kernel_rfl) rfl hl
 by_cases n_show : w = w_show
 ·subst n_show
  by_cases hl : ws.length = 0
  ·obtain rfl := List.length_eq_zero_iff.1 hl
   exact form_0 hN hd (by kernel_rfl) (by kernel_rfl) (after_ans hd _ (a_show hN Td K ) (by kernel_rfl) (by kernel_rfl))
  ·exact both_len (F := nE) (S := nE) hd hb (by kernel_rfl) (by kernel_rfl) rfl hl
 by_cases n_where : w = w_where
 ·subst n_where
  by_cases hl : ws.length = 0
  ·obtain rfl := List.length_eq_zero_iff.1 hl
   exact form_0 hN hd (by kernel_rfl) (by kernel_rfl) (after_ans hd _ (a_where hN Td K ) (by kernel_rfl) (by kernel_rfl))
  ·exact both_len (F := nE) (S := nE) hd hb (by kernel_rfl) (by kernel_rfl) rfl hl
 by_cases n_long : w = w_long
 ·subst n_long
  by_cases hl : ws.length = 0
  ·obtain rfl := List.length_eq_zero_iff.1 hl
   exact form_0 hN hd (by kernel_rfl) (by kernel_rfl) (after_ans hd _ (a_long hN Td K ) (by kernel_rfl) (by kernel_rfl))
  ·exact both_len (F := nE) (S := nE) hd hb (by kernel_rfl) (by kernel_rfl) rfl hl
 by_cases n_angle : w = w_angle
 ·subst n_angle
  by_cases hl : ws.length = 0
  ·obtain rfl := List.length_eq_zero_iff.1 hl
   exact form_0 hN hd (by kernel_rfl) (by kernel_rfl) (after_ans hd _ (a_angle hN Td K ) (by kernel_rfl) (by kernel_rfl))
  ·exact both_len (F := nE) (S := nE) hd hb (by kernel_rfl) (by kernel_rfl) rfl hl
 by_cases n_small : w = w_small
 ·subst n_small
  by_cases hl : ws.length = 0
  ·obtain rfl := List.length_eq_zero_iff.1 hl
   exact form_0 hN hd (by kernel_rfl) (by kernel_rfl) (after_ans hd _ (a_small hN Td K ) (by kernel_rfl) (by kernel_rfl))
  ·exact both_len (F := nE) (S := nE) hd hb (by kernel_rfl) (by kernel_rfl) rfl hl
 by_cases n_with : w = w_with
 ·subst n_with
  by_cases hl : ws.length = 2
  ·match ws, hl with
   | [p, q], _ => exact form_NN hN hd (by kernel_rfl) (by kernel_rfl) p q (hz p (by simp)) (hz q (by simp)) (fun n m hn hm => after_ans hd _ (a_with hN Td K n m hn hm) (by kernel_rfl) (by kernel_rfl))
  ·exact both_len (F := f_NN) (S := g_NN) hd hb (by kernel_rfl) (by kernel_rfl) rfl hl
 by_cases n_shown : w = w_shown
 ·subst n_shown
  by_cases hl : ws.length = 1
  ·match ws, hl with
   | [p], _ => exact form_S hN hd (by kernel_rfl) (by kernel_rfl) p (hz p (by simp)) (fun s1 s2 hs => after_ans hd _ (a_shown hN Td K s1 s2 (.inr hs)) (by kernel_rfl) (by kernel_rfl))
  ·exact both_len (F := f_S) (S := g_S) hd hb (by kernel_rfl) (by kernel_rfl) rfl hl
 by_cases n_ahead : w = w_ahead
 ·subst n_ahead
  by_cases hl : ws.length = 1
  ·match ws, hl with
   | [p], _ => exact form_S hN hd (by kernel_rfl) (by kernel_rfl) p (hz p (by simp)) (fun s1 s2 hs => after_ans hd _ (a_ahead hN Td K s1 s2 (.inr hs)) (by kernel_rfl) (by kernel_rfl))
  ·exact both_len (F := f_S) (S := g_S) hd hb (by kernel_rfl) (by kernel_rfl) rfl hl
 by_cases n_right : w = w_right
 ·subst n_right
  by_cases hl : ws.length = 0
  ·obtain rfl := List.length_eq_zero_iff.1 hl
   exact form_0 hN hd (by kernel_rfl) (by kernel_rfl) (after_ans hd _ (a_right hN Td K ) (by kernel_rfl) (by kernel_rfl))
  ·exact both_len (F := nE) (S := nE) hd hb (by kernel_rfl) (by kernel_rfl) rfl hl
 by_cases n_every : w = w_every
 ·subst n_every
  by_cases hl : ws.length = 0
  ·obtain rfl := List.length_eq_zero_iff.1 hl
   exact form_0 hN hd (by kernel_rfl) (by kernel_rfl) (after_ans hd _ (a_every hN Td K ) (by kernel_rfl) (by kernel_rfl))
  ·exact both_len (F := nE) (S := nE) hd hb (by kernel_rfl) (by kernel_rfl) rfl hl
 by_cases n_unsure : w = w_unsure
 ·subst n_unsure
  by_cases hl : ws.length = 0
  ·obtain rfl := List.length_eq_zero_iff.1 hl
   exact form_0 hN hd (by kernel_rfl) (by kernel_rfl) (after_ans hd _ (a_unsure hN Td K ) (by kernel_rfl) (by kernel_rfl))
  ·exact both_len (F := nE) (S := nE) hd hb (by kernel_rfl) (by kernel_rfl) rfl hl
 by_cases n_other : w = w_other
 ·subst n_other
  by_cases hl : ws.length = 1
  ·match ws, hl with
   | [p], _ => exact form_N hN hd (by kernel_rfl) (by kernel_rfl) p (hz p (by simp)) (fun n hn => after_ans hd _ (a_other hN Td K n) (by kernel_rfl) (by kernel_rfl))
  ·exact both_len (F := f_N) (S := g_N) hd hb (by kernel_rfl) (by kernel_rfl) rfl hl
 by_cases n_leap : w = w_leap
 ·subst n_leap
  by_cases hl : ws.length = 1
  ·match ws, hl with
   | [p], _ => exact form_N hN hd (by kernel_rfl) (by kernel_rfl) p (hz p (by simp)) (fun n hn => after_ans hd _ (a_leap hN Td K n hn) (by kernel_rfl) (by kernel_rfl))
  ·exact both_len (F := f_N) (S := g_N) hd hb (by kernel_rfl) (by kernel_rfl) rfl hl
 by_cases n_best : w = w_best
 ·subst n_best
  by_cases hl : ws.length = 3
  ·match ws, hl with
   | [p, q, r], _ => exact form_NNN hN hd (by kernel_rfl) (by kernel_rfl) p q r (hz p (by simp)) (hz q (by simp)) (hz r (by simp)) (fun n m o hn hm ho => after_ans hd _ (a_best hN Td K n m o) (by kernel_rfl) (by kernel_rfl))
  ·exact both_len (F := f_NNN) (S := g_NNN) hd hb (by kernel_rfl) (by kernel_rfl) rfl hl
 exact unk_both hd hb n_dial n_set n_turn n_on n_off n_mirror n_swap n_clock n_show n_where n_long n_angle n_small n_with n_shown n_ahead n_right n_every n_unsure n_other n_leap n_best
theorem both_line {N : Nat} (hN : 200000000000000 ≤ N) {h a b e f c d : Int} (hd : deskB h a b e f c d = true) (s : ByteArray) (hs : s.size ≤ 3000) : ∃ (q1 q2 q3 q4 q5 q6 q7 : Int) (t : ByteArray), zq48.g N h a b e f c d s = some (q1, q2, q3, q4, q5, q6, q7, t) ∧ zq128.g N h a b e f c d s = some (q1, q2, q3, q4, q5, q6, q7, t) ∧ deskB q1 q2 q3 q4 q5 q6 q7 = true ∧ ((q1, q2, q3, q4, q5, q6, q7) = (h, a, b, e, f, c, d) ∨ t = txD q1 q2 q3) := by
 have hd' := hd
 unfold deskB at hd'
 rw [Bool.and_eq_true] at hd'
 obtain ⟨k, x, y, rfl, k1, k2, rfl, rfl, T⟩ := timeB_iff.1 hd'.1
 obtain ⟨u, v, z, w', rfl, rfl, rfl, rfl, K⟩ := clockB_iff.1 hd'.2
 have hp := pieces_sum 32 s
 have hz := pieces_size 32 s
 have hne : pieces 32 s ≠ [] := by unfold pieces; intro h; exact splitL_ne 32 s.data.toList (List.map_eq_nil_iff.1 h)
 obtain ⟨M, rfl⟩ : ∃ M, N = M + 9 := ⟨N - 9, by omega⟩
 have e1 : zq183.g (M + 9) s (⟨#[32]⟩ : ByteArray) = some (pieces 32 s) := splitS_eq s 32 (by omega)
 have e2 : zq173.g (M + 9) s 32 = some (pieces 32 s) := l1Split_eq s 32 (by omega) (by omega)
 rw [carry_is, step_is, read_is0, e1, e2, oB, oB]
 match hq : pieces 32 s, hne with
 | w :: ws, _ =>
  rw [hq] at hp hz
  simp only [List.map_cons, List.sum_cons, List.length_cons] at hp
  exact both_words (M := M) hN ⟨k1, k2, T⟩ K w ws (by omega) (fun x hx => by have := hz x (List.mem_cons_of_mem _ hx); omega)
theorem split_one {c : UInt8} : ∀ l : List UInt8, (splitL c l).length = l.count c + 1
 | [] => rfl
 | x :: l => by
  have ih := split_one (c := c) l
  unfold splitL
  by_cases h : x = c
  ·rw [if_pos h, List.length_cons, ih, h, List.count_cons_self]
  ·rw [if_neg h, (onHead_sum [x] (splitL_ne c l)).2, ih, List.count_cons_of_ne (by simpa using h)]
theorem index_has (c : UInt8) : ∀ l : List UInt8, (0 ≤ Lib.indexByte l c) ↔ 0 < l.count c
 | [] => by simp [Lib.indexByte]
 | x :: l => by
  have ih := index_has c l
  have hge := Lib.indexByte_ge l c
  unfold Lib.indexByte
  by_cases h : x = c
  ·subst h; simp
  ·rw [if_neg (by simpa using h), List.count_cons_of_ne (by simpa using h), ← ih]
   by_cases h2 : Lib.indexByte l c = -1
   ·rw [if_pos (by simpa using h2)]; omega
   ·rw [if_neg (by simpa using h2)]; omega
theorem contains_nl {N : Nat} (s : ByteArray) (hs : s.size ≤ 1000000) (hN : 1000000 < N) : ∃ v : Bool, zq180.g N s (⟨#[10]⟩ : ByteArray) = some v ∧ (v = decide (((pieces 10 s).length : Int) > 1)) := by
 refine ⟨_, rfl, ?_⟩
 show decide (0 ≤ Lib.indexByte s.data.toList 10) = _
 unfold pieces
 rw [List.length_map, split_one]
 apply decide_eq_decide.2
 rw [index_has]
 omega
def nl (s : ByteArray) : Bool := decide (((pieces 10 s).length : Int) > 1)
def lineB (h a b e f c d : Int) (s : ByteArray) : Bool := deskB h a b e f c d && (decide (s.size ≤ 3000) && !nl s)
theorem DeskLine_eq {N : Nat} (hN : 200000000000000 ≤ N) (h a b e f c d : Int) (s : ByteArray) (hs : s.size ≤ 1048576) :
  (lineB h a b e f c d s = false ∧ zq9.g N h a b e f c d s = some (0, 0, 0, 0, 0, 0, 0, ⟨#[]⟩, false) ∧ zq100.g N h a b e f c d s = some (0, 0, 0, 0, 0, 0, 0, ⟨#[]⟩, false)) ∨
  (lineB h a b e f c d s = true ∧ ∃ (q1 q2 q3 q4 q5 q6 q7 : Int) (t : ByteArray), zq9.g N h a b e f c d s = some (q1, q2, q3, q4, q5, q6, q7, t, true) ∧ zq100.g N h a b e f c d s = some (q1, q2, q3, q4, q5, q6, q7, t, true) ∧
   zq48.g N h a b e f c d s = some (q1, q2, q3, q4, q5, q6, q7, t) ∧ zq128.g N h a b e f c d s = some (q1, q2, q3, q4, q5, q6, q7, t) ∧ deskB q1 q2 q3 q4 q5 q6 q7 = true ∧ ((q1, q2, q3, q4, q5, q6, q7) = (h, a, b, e, f, c, d) ∨ t = txD q1 q2 q3)) := by
 unfold lineB zq9.g zq9.o0 zq100.g zq100.o0
 rw [(IsDesk_eq (by omega) _ _ _ _ _ _ _).1, (IsDesk_eq (by omega) _ _ _ _ _ _ _).2]
 cases hd : deskB h a b e f c d with
 | false => exact .inl ⟨rfl, rfl, rfl⟩
 | true =>
  simp only [oB, nT, cF, Bool.true_and]
  by_cases h3 : s.size ≤ 3000
  ·obtain ⟨v, e1, e2⟩ := contains_nl (N := N) s (by omega) (by omega)
   have e3 : zq173.g N s 10 = some (pieces 10 s) := l1Split_eq s 10 (by omega) (by omega)
   have e2 : v = nl s := e2
   rw [dcF (show ¬ (s.size : Int) > 3000 by omega), cF, cF, e1, e3, e2, dcT h3, Bool.true_and]
   simp only [oB]
   rw [show decide (((pieces 10 s).length : Int) > 1) = nl s from rfl]
   cases hn : nl s with
   | true => exact .inl ⟨rfl, rfl, rfl⟩
   | false =>
    obtain ⟨q1, q2, q3, q4, q5, q6, q7, t, k1, k2, k3, k4⟩ := both_line hN hd s h3
    refine .inr ⟨rfl, q1, q2, q3, q4, q5, q6, q7, t, ?_, ?_, k1, k2, k3, k4⟩
    ·unfold zq9.d1 zq9.o1
     rw [cF, k1]; rfl
    ·unfold zq100.d1 zq100.o1
     rw [cF, k2]; rfl
  ·rw [dcT (show (s.size : Int) > 3000 by omega), cT, cT, dcF h3]
   exact .inl ⟨rfl, rfl, rfl⟩
theorem toL_self (t : ByteArray) : (t.toList == t.toList) = true := beq_self_eq_true _
abbrev Dk : Type := Int × Int × Int × Int × Int × Int × Int
def okD (D : Dk) : Bool := deskB D.1 D.2.1 D.2.2.1 D.2.2.2.1 D.2.2.2.2.1 D.2.2.2.2.2.1 D.2.2.2.2.2.2
noncomputable def stF (N : Nat) (D : Dk) (s : ByteArray) : Option (Dk × ByteArray) := (zq48.g N D.1 D.2.1 D.2.2.1 D.2.2.2.1 D.2.2.2.2.1 D.2.2.2.2.2.1 D.2.2.2.2.2.2 s).bind fun r => some ((r.1, r.2.1, r.2.2.1, r.2.2.2.1, r.2.2.2.2.1, r.2.2.2.2.2.1, r.2.2.2.2.2.2.1), r.2.2.2.2.2.2.2)
noncomputable def runF (N : Nat) : Dk → List ByteArray → Option (Dk × List ByteArray)
 | D, [] => some (D, [])
 | D, s :: l => (stF N D s).bind fun r => (runF N r.1 l).bind fun q => some (q.1, r.2 :: q.2)
def D0k : Dk := (12, 0, 1, 0, 1, 73, 72)
theorem D0k_ok : okD D0k = true := desk_of (h := 12) (a := 0) (b := 1) (e := 0) (f := 1) (c := 73) (d := 72) ⟨by omega, by omega, T01⟩ ⟨T01, by omega, by omega, by omega, by omega, by omega, by decide⟩
theorem st_ok {N : Nat} (hN : 200000000000000 ≤ N) {D : Dk} (hd : okD D = true) (s : ByteArray) (hs : s.size ≤ 3000) : ∃ D' t, stF N D s = some (D', t) ∧ okD D' = true ∧ (D' = D ∨ t = txD D'.1 D'.2.1 D'.2.2.1) ∧
  zq48.g N D.1 D.2.1 D.2.2.1 D.2.2.2.1 D.2.2.2.2.1 D.2.2.2.2.2.1 D.2.2.2.2.2.2 s = some (D'.1, D'.2.1, D'.2.2.1, D'.2.2.2.1, D'.2.2.2.2.1, D'.2.2.2.2.2.1, D'.2.2.2.2.2.2, t) ∧
  zq128.g N D.1 D.2.1 D.2.2.1 D.2.2.2.1 D.2.2.2.2.1 D.2.2.2.2.2.1 D.2.2.2.2.2.2 s = some (D'.1, D'.2.1, D'.2.2.1, D'.2.2.2.1, D'.2.2.2.2.1, D'.2.2.2.2.2.1, D'.2.2.2.2.2.2, t) := by
 obtain ⟨q1, q2, q3, q4, q5, q6, q7, t, k1, k2, k3, k4⟩ := both_line hN hd s hs
 refine ⟨(q1, q2, q3, q4, q5, q6, q7), t, ?_, k3, k4, k1, k2⟩
 unfold stF
 rw [k1]; rfl
theorem run_loops {N : Nat} (hN : 200000000000000 ≤ N) (L : List ByteArray) (hL : L.length ≤ 1000000) (hs : ∀ s ∈ L, s.size ≤ 3000) : ∀ (j i f : Nat) (D : Dk) (acc : List ByteArray) (z1 z2 z3 z4 z5 z6 z7 : Int), i + j = L.length → j < f → acc.length = i → okD D = true →
  ∃ D' ts, runF N D (L.drop i) = some (D', ts) ∧ okD D' = true ∧ ts.length = j ∧
   zq72.l2 N f acc L L.length i z1 z2 z3 z4 z5 z6 z7 D.1 D.2.1 D.2.2.1 D.2.2.2.1 D.2.2.2.2.1 D.2.2.2.2.2.1 D.2.2.2.2.2.2 = some (acc ++ ts, D'.1, D'.2.1, D'.2.2.1, D'.2.2.2.1, D'.2.2.2.2.1, D'.2.2.2.2.2.1, D'.2.2.2.2.2.2, true) ∧
   zq125.l3 N f acc L L.length i z1 z2 z3 z4 z5 z6 z7 D.1 D.2.1 D.2.2.1 D.2.2.2.1 D.2.2.2.2.1 D.2.2.2.2.2.1 D.2.2.2.2.2.2 = some (D'.1, D'.2.1, D'.2.2.1, D'.2.2.2.1, D'.2.2.2.2.1, D'.2.2.2.2.2.1, D'.2.2.2.2.2.2, acc ++ ts, true)
 | 0, i, f+1, D, acc, z1, z2, z3, z4, z5, z6, z7, hi, hf, ha, hd => by
  refine ⟨D, [], ?_, hd, rfl, ?_, ?_⟩
  ·rw [List.drop_eq_nil_of_le (by omega)]; rfl
  ·unfold zq72.l2 zq72.d2 zq72.o2
   rw [dcF (by omega), cF, List.append_nil]
  ·unfold zq125.l3 zq125.d3 zq125.o3
   rw [dcF (by omega), cF, List.append_nil]
 | j+1, i, f+1, D, acc, z1, z2, z3, z4, z5, z6, z7, hi, hf, ha, hd => by
  have hlt : i < L.length := by omega
  obtain ⟨D1, t, k1, k2, _, k4, k5⟩ := st_ok hN hd L[i] (hs _ (List.getElem_mem hlt))
  obtain ⟨D', ts, e1, e2, e3, e4, e5⟩ := run_loops hN L hL hs j (i + 1) f D1 (acc ++ [t]) z1 z2 z3 z4 z5 z6 z7 (by omega) (by omega) (by simp; omega) k2
  refine ⟨D', t :: ts, ?_, e2, by simp; omega, ?_, ?_⟩
  ·rw [List.drop_eq_getElem_cons hlt]
   unfold runF
   rw [k1, oB, e1]; rfl
  ·unfold zq72.l2 zq72.d2 zq72.o2
   rw [dcT (show (i : Int) < (L.length : Int) by omega), cT, dcT (show (0 : Int) ≤ (i : Int) by omega), cT, cT, tN, getAt hlt, k4, oB, blT (by simp; omega), cT, w1add (by omega)]
   refine e4.trans ?_
   rw [List.append_assoc]; rfl
  ·unfold zq125.l3 zq125.d3 zq125.o3
   rw [dcT (show (i : Int) < (L.length : Int) by omega), cT, dcT (show (0 : Int) ≤ (i : Int) by omega), cT, cT, tN, getAt hlt, k5, oB, blT (by simp; omega), cT, w1add (by omega)]
   refine e5.trans ?_
   rw [List.append_assoc]; rfl
 | _, _, 0, _, _, _, _, _, _, _, _, _, _, hf, _, _ => by omega
def linesOf (s : ByteArray) : List ByteArray := (pieces 10 s).take ((pieces 10 s).length - 1)
def scriptB (s : ByteArray) : Bool := decide (s.size ≤ 3000) && (((pieces 10 s).getD ((pieces 10 s).length - 1) ⟨#[]⟩ == (⟨#[]⟩ : ByteArray)) && decide ((pieces 10 s).length ≤ 51))
theorem pieces_len (c : UInt8) (s : ByteArray) : 1 ≤ (pieces c s).length ∧ (pieces c s).length ≤ s.size + 1 := by
 have h := pieces_sum c s
 have hne : pieces c s ≠ [] := by unfold pieces; intro h; exact splitL_ne c s.data.toList (List.map_eq_nil_iff.1 h)
 exact ⟨List.length_pos_iff.2 hne, by omega⟩
theorem tl_eq (a b : ByteArray) : (a.toList == b.toList) = (a == b) := by
 by_cases h : a = b
 ·subst h
  rw [beq_self_eq_true]
  obtain ⟨x⟩ := a
  exact (show (x == x) = true from beq_self_eq_true _).symm
 ·rw [tl_ne h, ba_ne h]
theorem run_eq {N : Nat} (hN : 200000000000000 ≤ N) (s : ByteArray) (hs : s.size ≤ 1048576) :
  (scriptB s = false ∧ zq72.g N s = some (([] : List ByteArray), 0, 0, 0, 0, 0, 0, 0, false) ∧ zq125.g N s = some (0, 0, 0, 0, 0, 0, 0, ([] : List ByteArray), false)) ∨
  (scriptB s = true ∧ ∃ D' ts, runF N D0k (linesOf s) = some (D', ts) ∧ okD D' = true ∧ ts.length = (linesOf s).length ∧ zq72.g N s = some (ts, D'.1, D'.2.1, D'.2.2.1, D'.2.2.2.1, D'.2.2.2.2.1, D'.2.2.2.2.2.1, D'.2.2.2.2.2.2, true) ∧ zq125.g N s = some (D'.1, D'.2.1, D'.2.2.1, D'.2.2.2.1, D'.2.2.2.2.1, D'.2.2.2.2.2.1, D'.2.2.2.2.2.2, ts, true)) := by
 obtain ⟨p1, p2⟩ := pieces_len 10 s
 have hz := pieces_size 10 s
 have e1 : zq183.g N s (⟨#[10]⟩ : ByteArray) = some (pieces 10 s) := splitS_eq s 10 (by omega)
 have e2 : zq173.g N s 10 = some (pieces 10 s) := l1Split_eq s 10 (by omega) (by omega)
 have hw : w64 (((pieces 10 s).length : Int) - 1) = (((pieces 10 s).length - 1 : Nat) : Int) := by rw [w64s (by omega) (by omega)]; omega
 unfold zq72.g zq72.o0 zq125.g zq125.o0 scriptB linesOf
 rw [e1, e2, oB, oB, hw]
 generalize pieces 10 s = P at *
 by_cases h3 : s.size ≤ 3000
 ·have hlt : P.length - 1 < P.length := by omega
  rw [dcF (show ¬ (s.size : Int) > 3000 by omega), cF, cF, dcT (show (0 : Int) ≤ ((P.length - 1 : Nat) : Int) by omega), cT, cT, dcT (show ((P.length - 1 : Nat) : Int) < (P.length : Int) by omega), cT, cT, tN, getAt hlt, getAt hlt, dcT h3, Bool.true_and, List.getD_eq_getElem?_getD, List.getElem?_eq_getElem hlt, Option.getD_some, tl_eq]
  cases hl : (P[P.length - 1] == (⟨#[]⟩ : ByteArray)) with
  | false => exact .inl ⟨rfl, rfl, rfl⟩
  | true =>
   rw [nT, cF, cF, Bool.true_and]
   by_cases h51 : P.length ≤ 51
   ·rw [dcF (show ¬ ((P.length - 1 : Nat) : Int) > 50 by omega), dcT h51]
    refine .inr ⟨rfl, ?_⟩
    have hQ : ((P.take (P.length - 1)).length : Nat) = P.length - 1 := by rw [List.length_take]; omega
    obtain ⟨D', ts, k1, k2, k3, k4, k5⟩ := run_loops hN (P.take (P.length - 1)) (by omega) (fun x hx => by have := hz x (List.mem_of_mem_take hx); omega) (P.length - 1) 0 N D0k [] 0 0 0 0 0 0 0 (by omega) (by omega) rfl D0k_ok
    refine ⟨D', ts, k1, k2, by omega, ?_, ?_⟩
    ·show zq72.d1 N P ((P.length - 1 : Nat) : Int) false 0 0 0 0 0 0 0 = _
     unfold zq72.d1 zq72.o1 zq12.g zq12.o0
     rw [cF, oB, dcT (show (0 : Int) ≤ ((P.length - 1 : Nat) : Int) by omega), cT, dcT (show ((P.length - 1 : Nat) : Int) ≤ (P.length : Int) by omega), cT, cT, tN]
     exact k4
    ·obtain ⟨M, rfl⟩ : ∃ M, N = M + 1 := ⟨N - 1, by omega⟩
     show zq125.d1 (M + 1) P ((P.length - 1 : Nat) : Int) false 0 0 0 0 0 0 0 = _
     unfold zq125.d1 zq125.o1 zq105.g zq105.o0
     rw [cF, oB, dcT (show (0 : Int) ≤ ((P.length - 1 : Nat) : Int) by omega), cT, dcT (show ((P.length - 1 : Nat) : Int) ≤ (P.length : Int) by omega), cT, cT, tN]
     exact k5
   ·rw [dcT (show ((P.length - 1 : Nat) : Int) > 50 by omega), dcF h51]
    exact .inl ⟨rfl, rfl, rfl⟩
 ·rw [dcT (show (s.size : Int) > 3000 by omega), cT, cT, dcF h3]
  exact .inl ⟨rfl, rfl, rfl⟩
end Go.Proofs.YtdidghlibfopgaaGreatDoor.M
namespace Go.Proofs.YtdidghlibfopgaaGreatDoor.M
open Go Go.PM
set_option linter.unusedVariables false
set_option linter.unusedSimpArgs false
theorem and255 (x : Int) : 0 ≤ w64 (andK .u64 x 255) ∧ w64 (andK .u64 x 255) ≤ 255 := by
 have e : (BitVec.ofInt IntKind.u64.bits x &&& BitVec.ofInt IntKind.u64.bits 255).toNat ≤ 255 := by
  rw [BitVec.toNat_and]
  exact Nat.le_trans Nat.and_le_right (by decide)
 unfold andK
 generalize (BitVec.ofInt IntKind.u64.bits x &&& BitVec.ofInt IntKind.u64.bits 255).toNat = n at e
 have e1 : IntKind.wrap .u64 (n : Int) = n := by
  unfold IntKind.wrap
  have : (n : Int) % (2 ^ IntKind.u64.bits : Int) = n := by
   show (n : Int) % (18446744073709551616 : Int) = n
   omega
  rw [this]
  rfl
 rw [e1, w64s (by omega) (by omega)]
 omega
def Bs (code : List Int) : Prop := code.length ≤ 1048576 ∧ ∀ x ∈ code, 0 ≤ x ∧ x ≤ 255
theorem next_tot (N : Nat) {code : List Int} (hc : Bs code) {pos : Int} (h1 : 0 ≤ pos) (h2 : pos ≤ 1000000000) (seed : Int) :
  Tot (zq160.g N code pos seed) fun r => (0 ≤ r.1 ∧ r.1 ≤ 255) ∧ r.2.1 = code ∧ 0 ≤ r.2.2.1 ∧ r.2.2.1 ≤ pos + 1 := by
 have key : ∀ b, 0 ≤ b → b ≤ 255 → Tot (zq160.d1 N b code pos seed) fun r => (0 ≤ r.1 ∧ r.1 ≤ 255) ∧ r.2.1 = code ∧ 0 ≤ r.2.2.1 ∧ r.2.2.1 ≤ pos + 1 := by
  intro b hb1 hb2
  unfold zq160.d1 zq160.o1
  rw [w64s (n := pos + 1) (by omega) (by omega)]
  refine Tot.bif (fun _ => Tot.now ⟨⟨hb1, hb2⟩, rfl, ?_, ?_⟩) (fun _ => Tot.now ⟨and255 _, rfl, ?_, ?_⟩)
  all_goals (dsimp only; omega)
 unfold zq160.g zq160.o0
 dsimp only
 refine Tot.dif (fun hlt => ?_) (fun hlt => key 0 (by omega) (by omega))
 have hl : pos.toNat < code.length := by omega
 rw [dcT h1, cT, dcT hlt, cT, getAt hl]
 have := hc.2 code[pos.toNat] (List.getElem_mem hl)
 rw [w64s (by omega) (by omega)]
 exact key _ this.1 this.2
theorem pick_tot (N : Nat) {code : List Int} (hc : Bs code) (n : Int) {pos : Int} (h1 : 0 ≤ pos) (h2 : pos ≤ 1000000) (seed : Int) :
  Tot (zq163.g N n code pos seed) fun r => (0 ≤ r.1 ∧ (r.1 < n ∨ r.1 = 0)) ∧ r.2.1 = code ∧ 0 ≤ r.2.2.1 ∧ r.2.2.1 ≤ pos + 2 := by
 have key : ∀ x p s, 1 < n → 0 ≤ x → 0 ≤ p → p ≤ pos + 2 → Tot (zq163.d1 N n x code p s) fun r => (0 ≤ r.1 ∧ (r.1 < n ∨ r.1 = 0)) ∧ r.2.1 = code ∧ 0 ≤ r.2.2.1 ∧ r.2.2.1 ≤ pos + 2 := by
  intro x p s hn hx hp1 hp2
  unfold zq163.d1 zq163.o1
  rw [ieqF (by omega), cF]
  refine Tot.now ⟨⟨Int.tmod_nonneg _ hx, .inl ?_⟩, rfl, hp1, hp2⟩
  exact Int.tmod_lt_of_pos _ (by omega)
 unfold zq163.g zq163.o0
 dsimp only
 refine Tot.dif (fun hlt => Tot.now ⟨⟨by dsimp only; omega, .inr rfl⟩, rfl, h1, by dsimp only; omega⟩) (fun hlt => ?_)
 refine Tot.bind (next_tot N hc h1 (by omega) seed) ?_
 rintro ⟨x, c, p, s⟩ ⟨⟨x1, x2⟩, rfl, p1, p2⟩
 dsimp only at x1 x2 p1 p2 ⊢
 refine Tot.dif (fun hgt => ?_) (fun hgt => ?_)
 ·refine Tot.bind (next_tot N hc p1 (by omega) s) ?_
  rintro ⟨y, c, q, t⟩ ⟨⟨y1, y2⟩, rfl, q1, q2⟩
  dsimp only at y1 y2 q1 q2 ⊢
  rw [w64s (n := x * 256) (by omega) (by omega), w64s (by omega) (by omega)]
  exact key _ _ _ (by omega) (by omega) q1 (by omega)
 ·exact key _ _ _ (by omega) x1 p1 (by omega)
theorem one_tot (N : Nat) {code : List Int} (hc : Bs code) (n : Int) {pos : Int} (h1 : 0 ≤ pos) (h2 : pos ≤ 1000000) (seed : Int) :
  Tot (zq162.g N n code pos seed) fun r => r.2.1 = code ∧ 0 ≤ r.2.2.1 ∧ r.2.2.1 ≤ pos + 2 := by
 unfold zq162.g zq162.o0
 refine Tot.bind (pick_tot N hc n h1 h2 seed) ?_
 rintro ⟨x, c, p, s⟩ ⟨⟨x1, x2⟩, rfl, p1, p2⟩
 exact Tot.now ⟨rfl, p1, p2⟩
theorem among_tot (N : Nat) {code : List Int} (hc : Bs code) (l : List Int) (hl : 0 < l.length) {pos : Int} (h1 : 0 ≤ pos) (h2 : pos ≤ 1000000) (seed : Int) :
  Tot (zq155.g N l code pos seed) fun r => r.1 ∈ l ∧ r.2.1 = code ∧ 0 ≤ r.2.2.1 ∧ r.2.2.1 ≤ pos + 2 := by
 unfold zq155.g zq155.o0
 refine Tot.bind (pick_tot N hc _ h1 h2 seed) ?_
 rintro ⟨x, c, p, s⟩ ⟨⟨x1, x2⟩, rfl, p1, p2⟩
 dsimp only at x1 x2 p1 p2 ⊢
 have hx : x.toNat < l.length := by omega
 rw [dcT x1, cT, dcT (by omega), cT, getAt hx]
 exact Tot.now ⟨List.getElem_mem hx, rfl, p1, p2⟩
end Go.Proofs.YtdidghlibfopgaaGreatDoor.M
namespace Go.Proofs.YtdidghlibfopgaaGreatDoor.M
open Go Go.PM Go.Proofs.YtdidghlibfopgaaGreatDoor.P
set_option linter.unusedVariables false
set_option linter.unusedSimpArgs false
set_option maxRecDepth 100000
theorem sure_tot {N : Nat} (hN : 10000000 ≤ N) {code : List Int} (hc : Bs code) {pos : Int} (h1 : 0 ≤ pos) (h2 : pos ≤ 100000) (seed : Int) :
  Tot (zq166.g N code pos seed) fun r => (∃ a b : Nat, r.1 = a ∧ r.2.1 = b ∧ Turn a b) ∧ r.2.2.1 = code ∧ 0 ≤ r.2.2.2.1 ∧ r.2.2.2.1 ≤ pos + 4 := by
 unfold zq166.g zq166.o0
 refine Tot.bind (pick_tot N hc _ h1 (by omega) seed) ?_
 rintro ⟨x, c, p, s⟩ ⟨⟨x1, x2⟩, rfl, p1, p2⟩
 dsimp only at x1 x2 p1 p2 ⊢
 have hl : (([1, 2, 3, 4, 6, 8, 11, 12, 13, 24, 60, 143, 720, 719, 7, 5] : List Int).length : Int) = 16 := rfl
 rw [hl] at x2
 have hx : x.toNat < ([1, 2, 3, 4, 6, 8, 11, 12, 13, 24, 60, 143, 720, 719, 7, 5] : List Int).length := by show x.toNat < 16; omega
 rw [dcT x1, cT, dcT (by rw [hl]; omega), cT, getAt hx]
 have hy := List.getElem_mem hx
 generalize ([1, 2, 3, 4, 6, 8, 11, 12, 13, 24, 60, 143, 720, 719, 7, 5] : List Int)[x.toNat] = y at *
 have hy2 : 1 ≤ y ∧ y ≤ 720 := by
  simp only [List.mem_cons, List.not_mem_nil, or_false] at hy
  omega
 obtain ⟨D, rfl⟩ := Int.eq_ofNat_of_zero_le (show 0 ≤ y by omega)
 refine Tot.bind (pick_tot N hc _ p1 (by omega) s) ?_
 rintro ⟨u, c', q, t⟩ ⟨⟨u1, u2⟩, hcc, q1, q2⟩
 dsimp only at u1 u2 hcc q1 q2 ⊢
 obtain ⟨m, rfl⟩ := Int.eq_ofNat_of_zero_le u1
 have hsp := pr_spec (n := m) (d := D) (by omega)
 rw [make_eq (by omega) (by omega) (by omega), mkV_ok (by omega), oB]
 exact Tot.now ⟨⟨(pr m D).1, (pr m D).2, rfl, rfl, hsp.1, by omega, hsp.2.2.1⟩, hcc, q1, by dsimp only; omega⟩
theorem text_size {k n d : Nat} (h : Dial k n d) : (bsOf (timeL (n * k * 60) d)).size ≤ 22 := by
 have hds := den_small (X := n * k) h.p h.t.le
 have hf := pr_spec (n := 60 * (n * k * 60)) h.p
 rw [show 3600 * (n * k) = 60 * (n * k * 60) by omega] at hds
 have tl := tail_len hf.1 hds
 rw [bsOf_size]
 unfold timeL
 simp only [List.length_append, List.length_singleton, dd_len]
 omega
theorem nums1 (x : Int) : (strOfNums [x]).size = 1 := rfl
theorem ext_size (s : ByteArray) (a b : Nat) (h : b ≤ s.size) : (s.extract a b).size = b - a := by
 rw [ByteArray.size_extract, Nat.min_eq_left h]
theorem spoilt_tot {N : Nat} (hN : 100 ≤ N) {code : List Int} (hc : Bs code) (u : ByteArray) (hu : u.size = 9) : ∀ (k n : Nat) (s : ByteArray) (pos seed : Int), k < n → s.size ≤ 5000 + 2 * (5 - k) → k ≤ 5 → 0 ≤ pos → pos + 6 * k ≤ 100000 → Tot (zq165.l1 N n s u (k : Int) code pos seed) fun r => r.1.size ≤ 5100
 | 0, n+1, s, pos, seed, hn, hs, hk, h1, h2 => by
  unfold zq165.l1 zq165.d1 zq165.o1
  rw [dcF (by omega), cF]
  exact Tot.now (by dsimp only; omega)
 | k+1, n+1, s, pos, seed, hn, hs, hk, h1, h2 => by
  have next : ∀ (s' : ByteArray) (p q : Int), s'.size ≤ 5000 + 2 * (5 - k) → 0 ≤ p → p + 6 * k ≤ 100000 → Tot (zq165.d3 N s' u ((k + 1 : Nat) : Int) code p q (fun w0 w1 w2 w3 w4 w5 => zq165.l1 N n w0 w1 w2 w3 w4 w5)) fun r => r.1.size ≤ 5100 := by
   intro s' p q a1 a2 a3
   unfold zq165.d3 zq165.o3
   dsimp only
   rw [w64s (by omega) (by omega), show ((k + 1 : Nat) : Int) - 1 = (k : Int) by omega]
   exact spoilt_tot hN hc u hu k n s' p q (by omega) a1 (by omega) a2 a3
  unfold zq165.l1 zq165.d1 zq165.o1
  rw [dcT (by omega), cT]
  refine Tot.dif (fun hp => ?_) (fun _ => Tot.now (by dsimp only; omega))
  unfold zq165.d2 zq165.o2
  dsimp only
  refine Tot.bind (pick_tot N hc _ h1 (by omega) seed) ?_
  rintro ⟨x, c, p, q⟩ ⟨⟨x1, x2⟩, hcc, p1, p2⟩
  dsimp only at x1 x2 hcc p1 p2 ⊢
  subst hcc
  refine Tot.bind (pick_tot N hc _ p1 (by omega) q) ?_
  rintro ⟨y, c', p', q'⟩ ⟨⟨y1, y2⟩, hcc, p1', p2'⟩
  dsimp only at y1 y2 hcc p1' p2' ⊢
  subst hcc
  rw [dcT y1, cT, dcT (show y < (u.size : Int) by omega), cT, numsO_all, oB]
  refine Tot.bind (pick_tot N hc 3 p1' (by omega) q') ?_
  rintro ⟨z, c', p'', q''⟩ ⟨-, hcc, p1'', p2''⟩
  dsimp only at hcc p1'' p2'' ⊢
  subst hcc
  obtain ⟨x, rfl⟩ := Int.eq_ofNat_of_zero_le x1
  have hx : x < s.size := by omega
  have e1 : (s.extract (0 : Int).toNat ((x : Int)).toNat).size = x := by rw [tN, ext_size _ _ _ (by omega)]; rfl
  have e2 : (s.extract ((x : Int)).toNat ((s.size : Int)).toNat).size = s.size - x := by rw [tN, tN, ext_size _ _ _ (by omega)]
  have e3 : (s.extract (((x + 1 : Nat) : Int)).toNat ((s.size : Int)).toNat).size = s.size - (x + 1) := by rw [tN, tN, ext_size _ _ _ (by omega)]
  rw [w1add (by omega), dcT (show 0 ≤ (x : Int) by omega), dcT (show (x : Int) ≤ (s.size : Int) by omega), dcT (show 0 ≤ (s.size : Int) by omega), dcT (show (s.size : Int) ≤ (s.size : Int) by omega), dcT (show 0 ≤ ((x + 1 : Nat) : Int) by omega), dcT (show ((x + 1 : Nat) : Int) ≤ (s.size : Int) by omega)]
  simp only [cT]
  refine Tot.bif (fun _ => ?_) (fun _ => Tot.bif (fun _ => ?_) (fun _ => ?_))
  ·rw [show Nat.ble _ _ = true from Nat.ble_eq_true_of_le (by rw [e1, nums1]; omega), cT, show Nat.ble _ _ = true from Nat.ble_eq_true_of_le (by rw [ByteArray.size_append, e1, e2, nums1]; omega), cT]
   exact next _ _ _ (by rw [ByteArray.size_append, ByteArray.size_append, e1, e2, nums1]; omega) p1'' (by omega)
  ·rw [show Nat.ble _ _ = true from Nat.ble_eq_true_of_le (by rw [e1, nums1]; omega), cT, show Nat.ble _ _ = true from Nat.ble_eq_true_of_le (by rw [ByteArray.size_append, e1, e3, nums1]; omega), cT]
   exact next _ _ _ (by rw [ByteArray.size_append, ByteArray.size_append, e1, e3, nums1]; omega) p1'' (by omega)
  ·rw [show Nat.ble _ _ = true from Nat.ble_eq_true_of_le (by rw [e1, e3]; omega), cT]
   exact next _ _ _ (by rw [ByteArray.size_append, e1, e3]; omega) p1'' (by omega)
 | _, 0, _, _, _, hn, _, _, _, _ => by omega
theorem of_tot (N : Nat) {code : List Int} (hc : Bs code) (l : List ByteArray) (hl : 0 < l.length) {pos : Int} (h1 : 0 ≤ pos) (h2 : pos ≤ 1000000) (seed : Int) :
  Tot (zq161.g N l code pos seed) fun r => r.1 ∈ l ∧ r.2.1 = code ∧ 0 ≤ r.2.2.1 ∧ r.2.2.1 ≤ pos + 2 := by
 unfold zq161.g zq161.o0
 refine Tot.bind (pick_tot N hc _ h1 h2 seed) ?_
 rintro ⟨x, c, p, s⟩ ⟨⟨x1, x2⟩, rfl, p1, p2⟩
 dsimp only at x1 x2 p1 p2 ⊢
 have hx : x.toNat < l.length := by omega
 rw [dcT x1, cT, dcT (by omega), cT, getAt hx]
 exact Tot.now ⟨List.getElem_mem hx, rfl, p1, p2⟩
theorem ofs_tot (N : Nat) {code : List Int} (hc : Bs code) (l : List ByteArray) (hl : 0 < l.length) (hz : ∀ x ∈ l, x.size ≤ 30) {pos : Int} (h1 : 0 ≤ pos) (h2 : pos ≤ 1000000) (seed : Int) :
  Tot (zq161.g N l code pos seed) fun r => r.1.size ≤ 30 ∧ r.2.1 = code ∧ 0 ≤ r.2.2.1 ∧ r.2.2.1 ≤ pos + 2 := by
 obtain ⟨r, h, h1, h2⟩ := of_tot N hc l hl h1 h2 seed
 exact ⟨r, h, hz _ h1, h2⟩
theorem num_tot {N : Nat} (hN : 100 ≤ N) {x : Int} (h1 : 0 ≤ x) (h2 : x < 1000000) : Tot (zq170.g N x) fun r => r.size ≤ 6 := by
 obtain ⟨n, rfl⟩ := Int.eq_ofNat_of_zero_le h1
 refine ⟨_, num_eq hN (by omega), ?_⟩
 dsimp only
 rw [bsOf_size]
 exact dec_len 5 n (by omega)
theorem nble {a b : Nat} (h : a ≤ b) : Nat.ble a b = true := Nat.ble_eq_true_of_le h
def line10P (pos : Int) (code : List Int) (r : ByteArray × List Int × Int × Int) : Prop := r.1.size ≤ 60 ∧ r.2.1 = code ∧ 0 ≤ r.2.2.1 ∧ r.2.2.1 ≤ pos + 12
theorem line10_2 {N : Nat} (hN : 10000000 ≤ N) {code : List Int} (hc : Bs code) (w : ByteArray) (hw : w.size ≤ 13) (x : Int) (b : Bool) {pos : Int} (h1 : 0 ≤ pos) (h2 : pos ≤ 10000) (seed : Int) {p0 : Int} (hp : pos ≤ p0 + 6) :
  Tot (zq159.d2 N w x b code pos seed) (line10P p0 code) := by
 unfold zq159.d2 zq159.o2 line10P
 refine Tot.bif (fun _ => ?_) (fun _ => Tot.bif (fun _ => ?_) (fun _ => Tot.bif (fun _ => ?_) (fun _ => Tot.bif (fun _ => ?_) (fun _ => ?_))))
 ·refine Tot.bind (ofs_tot N hc _ (by simp) (by decide) h1 (by omega) seed) ?_
  rintro ⟨y, c, q, t⟩ ⟨hy, rfl, q1, q2⟩
  dsimp only at hy q1 q2 ⊢
  exact Tot.now ⟨by dsimp only; omega, rfl, q1, by dsimp only; omega⟩
 ·rw [nble (by show 5 + w.size ≤ _; omega), cT]
  exact Tot.now ⟨by dsimp only; rw [ByteArray.size_append]; show 5 + w.size ≤ 60; omega, rfl, h1, by dsimp only; omega⟩
 ·refine Tot.bind (ofs_tot N hc _ (by simp) (by decide) h1 (by omega) seed) ?_
  rintro ⟨y, c, q, t⟩ ⟨hy, hcc, q1, q2⟩
  dsimp only at hy hcc q1 q2 ⊢
  subst hcc
  refine Tot.bind (ofs_tot N hc _ (by simp) (by decide) q1 (by omega) t) ?_
  rintro ⟨z, c', q', t'⟩ ⟨hz, hcc, q1', q2'⟩
  dsimp only at hz hcc q1' q2' ⊢
  subst hcc
  rw [nble (by omega), cT]
  exact Tot.now ⟨by dsimp only; rw [ByteArray.size_append]; omega, rfl, q1', by dsimp only; omega⟩
 ·refine Tot.bind (ofs_tot N hc _ (by simp) (by decide) h1 (by omega) seed) ?_
  rintro ⟨y, c, q, t⟩ ⟨hy, rfl, q1, q2⟩
  dsimp only at hy q1 q2 ⊢
  exact Tot.now ⟨by dsimp only; omega, rfl, q1, by dsimp only; omega⟩
 ·refine Tot.bind (ofs_tot N hc _ (by simp) (by decide) h1 (by omega) seed) ?_
  rintro ⟨y, c, q, t⟩ ⟨hy, rfl, q1, q2⟩
  dsimp only at hy q1 q2 ⊢
  exact Tot.now ⟨by dsimp only; omega, rfl, q1, by dsimp only; omega⟩
theorem line10_1 {N : Nat} (hN : 10000000 ≤ N) {code : List Int} (hc : Bs code) (w : ByteArray) (hw : w.size ≤ 13) (x : Int) (b : Bool) {pos : Int} (h1 : 0 ≤ pos) (h2 : pos ≤ 9000) (seed : Int) {p0 : Int} (hp : pos ≤ p0 + 6) :
  Tot (zq159.d1 N w x b code pos seed) (line10P p0 code) := by
 unfold zq159.d1 zq159.o1
 dsimp only
 refine Tot.bif (fun _ => ?_) (fun _ => Tot.bif (fun _ => ?_) (fun _ => Tot.bif (fun _ => ?_) (fun _ => Tot.bif (fun _ => ?_) (fun _ => Tot.bif (fun _ => ?_) (fun _ => ?_)))))
 ·refine Tot.bind (ofs_tot N hc _ (by simp) (by decide) h1 (by omega) seed) ?_
  rintro ⟨y, c, q, t⟩ ⟨hy, rfl, q1, q2⟩
  dsimp only at hy q1 q2 ⊢
  rw [nble (by omega), cT]
  exact Tot.now ⟨by dsimp only; rw [ByteArray.size_append]; omega, rfl, q1, by dsimp only; omega⟩
 ·refine Tot.bind (sure_tot hN hc h1 (by omega) seed) ?_
  rintro ⟨n, d, c, q, t⟩ ⟨⟨a, b, e1, e2, hT⟩, hcc, q1, q2⟩
  dsimp only at e1 e2 hcc q1 q2 ⊢
  subst hcc e1 e2
  have hD : Dial 12 a b := ⟨by omega, by omega, hT⟩
  have hz := text_size hD
  rw [show (12 : Int) = ((12 : Nat) : Int) from rfl, (text_yes hN hD).2.2, oB]
  rw [nble (by show 4 + _ ≤ _; omega), cT]
  exact Tot.now ⟨by dsimp only; rw [ByteArray.size_append]; show 4 + _ ≤ 60; omega, rfl, q1, by dsimp only; omega⟩
 ·refine Tot.bind (ofs_tot N hc _ (by simp) (by decide) h1 (by omega) seed) ?_
  rintro ⟨y, c, q, t⟩ ⟨hy, rfl, q1, q2⟩
  dsimp only at hy q1 q2 ⊢
  exact Tot.now ⟨by dsimp only; omega, rfl, q1, by dsimp only; omega⟩
 ·exact line10_2 hN hc w hw x _ h1 (by omega) seed hp
 ·exact line10_2 hN hc w hw x _ h1 (by omega) seed hp
 ·exact line10_2 hN hc w hw x _ h1 (by omega) seed hp
theorem line10_tot {N : Nat} (hN : 10000000 ≤ N) {code : List Int} (hc : Bs code) {pos : Int} (h1 : 0 ≤ pos) (h2 : pos ≤ 8000) (seed : Int) :
  Tot (zq159.g N code pos seed) (line10P pos code) := by
 unfold zq159.g zq159.o0
 dsimp only
 refine Tot.bind (pick_tot N hc 12 h1 (by omega) seed) ?_
 rintro ⟨x, c, p, s⟩ ⟨⟨x1, x2⟩, rfl, p1, p2⟩
 dsimp only at x1 x2 p1 p2 ⊢
 refine Tot.bind (num_tot (by omega) x1 (by omega)) (fun u hu => ?_)
 rw [nble (by show u.size + 1 ≤ _; omega), cT]
 refine Tot.bind (among_tot N hc _ (by simp) p1 (by omega) s) ?_
 rintro ⟨y, c', q, t⟩ ⟨hy, hcc, q1, q2⟩
 dsimp only at hy hcc q1 q2 ⊢
 subst hcc
 have hy2 : 0 ≤ y ∧ y < 1000000 := by
  simp only [List.mem_cons, List.not_mem_nil, or_false] at hy
  omega
 refine Tot.bind (num_tot (by omega) hy2.1 hy2.2) (fun v hv => ?_)
 have hz : (u ++ (⟨#[32]⟩ : ByteArray)).size ≤ 7 := by rw [ByteArray.size_append]; show u.size + 1 ≤ 7; omega
 rw [nble (by omega), cT]
 have hw : ((u ++ (⟨#[32]⟩ : ByteArray)) ++ v).size ≤ 13 := by rw [ByteArray.size_append]; omega
 refine Tot.bind (pick_tot N hc 12 q1 (by omega) t) ?_
 rintro ⟨z, c', r, k⟩ ⟨_, hcc, r1, r2⟩
 dsimp only at hcc r1 r2 ⊢
 subst hcc
 refine Tot.bif (fun _ => ?_) (fun _ => Tot.bif (fun _ => ?_) (fun _ => ?_))
 ·refine Tot.bind (among_tot N hc _ (by simp) r1 (by omega) k) ?_
  rintro ⟨y, c', q, t⟩ ⟨hy, hcc, q1, q2⟩
  dsimp only at hy hcc q1 q2 ⊢
  subst hcc
  have hy2 : 0 ≤ y ∧ y < 1000000 := by
   simp only [List.mem_cons, List.not_mem_nil, or_false] at hy
   omega
  refine Tot.bind (num_tot (by omega) hy2.1 hy2.2) (fun v hv => ?_)
  rw [nble (by show 5 + v.size ≤ _; omega), cT]
  exact Tot.now ⟨by dsimp only; rw [ByteArray.size_append]; show 5 + v.size ≤ 60; omega, rfl, q1, by dsimp only; omega⟩
 ·exact line10_1 hN hc _ hw z _ r1 (by omega) k (by omega)
 ·exact line10_1 hN hc _ hw z _ r1 (by omega) k (by omega)
theorem script_l {N : Nat} (hN : 10000000 ≤ N) {code : List Int} (hc : Bs code) : ∀ (k n : Nat) (s : ByteArray) (pos seed : Int), k < n → k ≤ 51 → s.size ≤ 61 * (51 - k) → 0 ≤ pos → pos + 12 * k ≤ 1000 → Tot (zq164.l1 N n s (k : Int) code pos seed) fun r => r.1.size ≤ 1048576
 | 0, n+1, s, pos, seed, hn, hk, hs, h1, h2 => by
  unfold zq164.l1 zq164.d1 zq164.o1
  rw [dcF (by omega), cF]
  refine Tot.bind (one_tot N hc 12 h1 (by omega) seed) ?_
  rintro ⟨o, c, p, t⟩ ⟨hcc, p1, p2⟩
  dsimp only at hcc p1 p2 ⊢
  subst hcc
  refine Tot.bif (fun _ => ?_) (fun _ => Tot.now (by dsimp only; omega))
  rw [nble (by show s.size + 4 ≤ _; omega), cT]
  unfold zq165.g zq165.o0
  dsimp only
  refine Tot.bind (P := fun r => r.1.size ≤ 5100) ?_ (fun r hr => Tot.now (by dsimp only; omega))
  refine Tot.bind (pick_tot N hc 2 p1 (by omega) t) ?_
  rintro ⟨x, c', p'', s''⟩ ⟨⟨x1, x2⟩, hcc, p1'', p2''⟩
  dsimp only at x1 x2 hcc p1'' p2'' ⊢
  subst hcc
  obtain ⟨x, rfl⟩ := Int.eq_ofNat_of_zero_le x1
  rw [show w64 (1 + (x : Int)) = ((x + 1 : Nat) : Int) by rw [w64s (by omega) (by omega)]; omega]
  exact spoilt_tot (by omega) hc _ rfl (x + 1) N _ p'' s'' (by omega) (by rw [ByteArray.size_append]; show s.size + 4 ≤ _; omega) (by omega) p1'' (by omega)
 | k+1, n+1, s, pos, seed, hn, hk, hs, h1, h2 => by
  unfold zq164.l1 zq164.d1 zq164.o1
  rw [dcT (by omega), cT]
  refine Tot.bind (line10_tot hN hc h1 (by omega) seed) ?_
  rintro ⟨u, c, p, t⟩ ⟨hu, hcc, p1, p2⟩
  dsimp only at hu hcc p1 p2 ⊢
  subst hcc
  have hz : (u ++ (⟨#[10]⟩ : ByteArray)).size ≤ 61 := by rw [ByteArray.size_append]; show u.size + 1 ≤ 61; omega
  rw [nble (by show u.size + 1 ≤ _; omega), cT, nble (by omega), cT, w64s (by omega) (by omega), show ((k + 1 : Nat) : Int) - 1 = (k : Int) by omega]
  exact script_l hN hc k n _ p t (by omega) (by omega) (by rw [ByteArray.size_append]; omega) p1 (by omega)
 | _, 0, _, _, _, hn, _, _, _, _ => by omega
theorem drawScript {N : Nat} (hN : 10000000 ≤ N) {code : List Int} (hc : Bs code) : ∃ s, zq102.g N code = some s ∧ s.size ≤ 1048576 := by
 have key : Tot (zq102.g N code) fun r => r.size ≤ 1048576 := by
  unfold zq102.g zq102.o0 zq164.g zq164.o0
  dsimp only
  refine Tot.bind (P := fun r => r.1.size ≤ 1048576) ?_ (fun r hr => Tot.now hr)
  refine Tot.bind (among_tot N hc _ (by simp) (by omega) (by omega) 0) ?_
  rintro ⟨x, c, p, s⟩ ⟨hx, rfl, p1, p2⟩
  dsimp only at hx p1 p2 ⊢
  have hx2 : 0 ≤ x ∧ x ≤ 51 := by
   simp only [List.mem_cons, List.not_mem_nil, or_false] at hx
   omega
  obtain ⟨x, rfl⟩ := Int.eq_ofNat_of_zero_le hx2.1
  exact script_l hN hc x N _ p s (by omega) (by omega) (by show 0 ≤ _; omega) p1 (by omega)
 obtain ⟨s, e1, e2⟩ := key
 exact ⟨s, e1, e2⟩
def failB (t : ByteArray) : Bool := bif (t.toList == (⟨#[110, 111]⟩ : ByteArray).toList) then true else (t.toList == (⟨#[119, 104, 97, 116]⟩ : ByteArray).toList)
def failF : List ByteArray → Nat → List Int
 | [], _ => []
 | t :: r, k => bif failB t then ((k + 1 : Nat) : Int) :: failF r (k + 1) else failF r (k + 1)
theorem failF_len : ∀ (ts : List ByteArray) (k : Nat), (failF ts k).length ≤ ts.length
 | [], _ => Nat.le_refl _
 | t :: r, k => by
  have ih := failF_len r (k + 1)
  unfold failF
  cases failB t with
  | true => simp only [cT, List.length_cons]; omega
  | false => simp only [cF, List.length_cons]; omega
theorem fail_i {N : Nat} (ts : List ByteArray) (hl : ts.length ≤ 1000000) : ∀ (j i f : Nat) (acc : List Int), i + j = ts.length → j < f → acc.length ≤ i →
  zq11.l1 N f acc ts ts.length i = some (acc ++ failF (ts.drop i) i, true)
 | 0, i, f+1, acc, hi, hf, ha => by
  unfold zq11.l1 zq11.d1 zq11.o1
  rw [dcF (by omega), cF, List.drop_eq_nil_of_le (by omega)]
  show _ = some (acc ++ [], true)
  rw [List.append_nil]
 | j+1, i, f+1, acc, hi, hf, ha => by
  have hlt : i < ts.length := by omega
  unfold zq11.l1 zq11.d1 zq11.o1
  rw [dcT (show (i : Int) < (ts.length : Int) by omega), cT, dcT (show (0 : Int) ≤ (i : Int) by omega), cT, cT, tN, getAt hlt, List.drop_eq_getElem_cons hlt]
  have key : ∀ b : Bool, failB ts[i] = b → zq11.d2 N acc i ts ts.length i b (fun w0 w1 w2 w3 => zq11.l1 N f w0 w1 w2 w3) = some (acc ++ failF (ts[i] :: ts.drop (i + 1)) i, true) := by
   intro b hb
   unfold zq11.d2 zq11.o2 failF
   rw [hb]
   cases b with
   | true =>
    rw [cT, cT, blT (by simp; omega), cT, w1add (by omega)]
    refine (fail_i ts hl j (i + 1) f _ (by omega) (by omega) (by simp; omega)).trans ?_
    rw [List.append_assoc]; rfl
   | false =>
    rw [cF, cF, w1add (by omega)]
    exact fail_i ts hl j (i + 1) f _ (by omega) (by omega) (by omega)
  unfold failB at key
  cases hq : (ts[i].toList == (⟨#[110, 111]⟩ : ByteArray).toList) with
  | true => rw [hq] at key; exact key _ rfl
  | false => rw [hq] at key; exact key _ rfl
 | _, _, 0, _, _, hf, _ => by omega
theorem fail_13 (N : Nat) (ts : List ByteArray) (ok : Bool) (len : Int) : ∀ (n : Nat) (i : Int), zq104.l1 N n ok ts len i = zq104.l3 N n ok [] ts len i
 | 0, i => rfl
 | n + 1, i => by
  have ih := fail_13 N ts ok len n
  show zq104.d1 N ok ts len i (fun w0 w1 w2 w3 => zq104.l1 N n w0 w1 w2 w3) (fun w0 w1 w2 w3 w4 => zq104.l3 N n w0 w1 w2 w3 w4) = zq104.d3 N ok [] ts len i (fun w0 w1 w2 w3 w4 => zq104.l3 N n w0 w1 w2 w3 w4)
  unfold zq104.d1 zq104.d3 zq104.o1 zq104.o3 zq104.d2 zq104.d4 zq104.o2 zq104.o4
  simp only [ih]
theorem fail_s {N : Nat} (ts : List ByteArray) (ok : Bool) (hl : ts.length ≤ 1000000) : ∀ (j i f : Nat) (acc : List Int), i + j = ts.length → j < f → acc.length ≤ i →
  zq104.l3 N f ok acc ts ts.length i = some (acc ++ failF (ts.drop i) i, ok)
 | 0, i, f+1, acc, hi, hf, ha => by
  unfold zq104.l3 zq104.d3 zq104.o3
  rw [dcF (by omega), cF, List.drop_eq_nil_of_le (by omega)]
  show _ = some (acc ++ [], ok)
  rw [List.append_nil]
 | j+1, i, f+1, acc, hi, hf, ha => by
  have hlt : i < ts.length := by omega
  unfold zq104.l3 zq104.d3 zq104.o3
  rw [dcT (show (i : Int) < (ts.length : Int) by omega), cT, dcT (show (0 : Int) ≤ (i : Int) by omega), cT, cT, tN, getAt hlt, List.drop_eq_getElem_cons hlt]
  have key : ∀ b : Bool, failB ts[i] = b → zq104.d4 N ok acc i ts ts.length i b (fun w0 w1 w2 w3 w4 => zq104.l3 N f w0 w1 w2 w3 w4) = some (acc ++ failF (ts[i] :: ts.drop (i + 1)) i, ok) := by
   intro b hb
   unfold zq104.d4 zq104.o4 failF
   rw [hb]
   cases b with
   | true =>
    rw [cT, cT, blT (by simp; omega), cT, w1add (by omega)]
    refine (fail_s ts ok hl j (i + 1) f _ (by omega) (by omega) (by simp; omega)).trans ?_
    rw [List.append_assoc]; rfl
   | false =>
    rw [cF, cF, w1add (by omega)]
    exact fail_s ts ok hl j (i + 1) f _ (by omega) (by omega) (by omega)
  unfold failB at key
  cases hq : (ts[i].toList == (⟨#[110, 111]⟩ : ByteArray).toList) with
  | true => rw [hq] at key; exact key _ rfl
  | false => rw [hq] at key; exact key _ rfl
 | _, _, 0, _, _, hf, _ => by omega
def Tells (N : Nat) (s : ByteArray) (ts : List ByteArray) (D : Dk) (ok : Bool) : Prop :=
 zq30.g N s = some (ts, ok) ∧ zq113.g N s = some (ts, ok) ∧
 zq8.g N s = some (D.1, D.2.1, D.2.2.1, D.2.2.2.1, D.2.2.2.2.1, D.2.2.2.2.2.1, D.2.2.2.2.2.2, ok) ∧ zq99.g N s = some (D.1, D.2.1, D.2.2.1, D.2.2.2.1, D.2.2.2.2.1, D.2.2.2.2.2.1, D.2.2.2.2.2.2, ok) ∧
 zq11.g N s = some (failF ts 0, ok) ∧ zq104.g N s = some (failF ts 0, ok)
theorem tells {N : Nat} (hN : 200000000000000 ≤ N) (s : ByteArray) (hs : s.size ≤ 1048576) :
  (scriptB s = false ∧ Tells N s [] (0, 0, 0, 0, 0, 0, 0) false) ∨
  (scriptB s = true ∧ ∃ D' ts, runF N D0k (linesOf s) = some (D', ts) ∧ okD D' = true ∧ ts.length = (linesOf s).length ∧ ts.length ≤ 50 ∧ Tells N s ts D' true) := by
 rcases run_eq hN s hs with ⟨h0, e1, e2⟩ | ⟨h0, D', ts, h1, h2, h3, e1, e2⟩
 ·refine .inl ⟨h0, ?_⟩
  unfold Tells zq30.g zq30.o0 zq113.g zq113.o0 zq8.g zq8.o0 zq99.g zq99.o0 zq11.g zq11.o0 zq104.g zq104.o0
  rw [e1, e2]
  refine ⟨rfl, rfl, rfl, rfl, rfl, ?_⟩
  have := fail_s (N := N) [] false (by simp) 0 0 N [] rfl (by omega) (by simp)
  rw [← fail_13] at this
  exact this
 ·have h50 : ts.length ≤ 50 := by
   unfold scriptB at h0
   simp only [Bool.and_eq_true, decide_eq_true_eq] at h0
   have := h0.2.2
   rw [h3]
   unfold linesOf
   rw [List.length_take]; omega
  refine .inr ⟨h0, D', ts, h1, h2, h3, h50, ?_⟩
  unfold Tells zq30.g zq30.o0 zq113.g zq113.o0 zq8.g zq8.o0 zq99.g zq99.o0 zq11.g zq11.o0 zq104.g zq104.o0
  rw [e1, e2]
  refine ⟨rfl, rfl, rfl, rfl, ?_, ?_⟩
  ·exact fail_i (N := N) ts (by omega) ts.length 0 N [] (by omega) (by omega) (by simp)
  ·have := fail_s (N := N) ts true (by omega) ts.length 0 N [] (by omega) (by omega) (by simp)
   rw [← fail_13] at this
   exact this
theorem wTexts_l (N : Nat) (l : List ByteArray) (hs : l.length < 1000000000) : ∀ (d i n : Nat), i + d = l.length → d < n → zq91.l1 N n l l l.length i = some true
 | 0, i, n+1, hi, hn => by
  unfold zq91.l1 zq91.d1 zq91.o1
  rw [dcF (by omega), cF]
 | d+1, i, n+1, hi, hn => by
  have hlt : i < l.length := by omega
  unfold zq91.l1 zq91.d1 zq91.o1
  rw [dcT (show (i : Int) < (l.length : Int) by omega), cT, dcT (show (0 : Int) ≤ (i : Int) by omega), cT, cT, tN, getAt hlt]
  simp only [cT]
  rw [getAt hlt, toL_self, nT, cF, w1add (by omega)]
  exact wTexts_l N l hs d (i + 1) n (by omega) (by omega)
 | _, _, 0, _, hn => by omega
theorem wTexts_self {N : Nat} (l : List ByteArray) (hs : l.length < 1000000000) (hN : l.length < N) : zq91.g N l l = some true := by
 unfold zq91.g zq91.o0
 rw [bne_self_eq_false, cF]
 exact wTexts_l N l hs l.length 0 N (by omega) hN
theorem splitL_cons (c : UInt8) (l : List UInt8) : splitL c (c :: l) = [] :: splitL c l := by
 conv => lhs; unfold splitL
 rw [if_pos rfl]
theorem onHead_app (p : List UInt8) {A : List (List UInt8)} (B : List (List UInt8)) (h : A ≠ []) : onHead p (A ++ B) = onHead p A ++ B := by
 cases A with
 | nil => exact absurd rfl h
 | cons x t => rfl
theorem splitL_app (c : UInt8) (b : List UInt8) : ∀ a : List UInt8, splitL c (a ++ c :: b) = splitL c a ++ splitL c b
 | [] => by rw [List.nil_append, splitL_cons]; rfl
 | x :: a => by
  have ih := splitL_app c b a
  rw [List.cons_append]
  by_cases h : x = c
  ·subst h; rw [splitL_cons, splitL_cons, ih]; rfl
  ·have e1 : splitL c (x :: (a ++ c :: b)) = onHead [x] (splitL c (a ++ c :: b)) := by
    conv => lhs; unfold splitL
    rw [if_neg h]
   have e2 : splitL c (x :: a) = onHead [x] (splitL c a) := by
    conv => lhs; unfold splitL
    rw [if_neg h]
   rw [e1, e2, ih, onHead_app _ _ (splitL_ne c a)]
theorem piece_no (c : UInt8) : ∀ (a l : List UInt8), l ∈ splitL c a → c ∉ l
 | [], l, h => by
  have : splitL c [] = [[]] := rfl
  rw [this] at h
  rw [List.mem_singleton.1 h]; simp
 | x :: a, l, h => by
  by_cases e : x = c
  ·subst e
   rw [splitL_cons] at h
   rcases List.mem_cons.1 h with rfl | h
   ·simp
   ·exact piece_no x a l h
  ·have e1 : splitL c (x :: a) = onHead [x] (splitL c a) := by
    conv => lhs; unfold splitL
    rw [if_neg e]
   rw [e1] at h
   cases hq : splitL c a with
   | nil => exact absurd hq (splitL_ne c a)
   | cons y t =>
    rw [hq] at h
    have ih := piece_no c a
    rw [hq] at ih
    rcases List.mem_cons.1 (show l ∈ (([x] ++ y) :: t) from h) with rfl | h
    ·have := ih y (List.mem_cons_self ..)
     simp only [List.cons_append, List.nil_append, List.mem_cons, not_or]
     exact ⟨fun h => e h.symm, this⟩
    ·exact ih l (List.mem_cons_of_mem _ h)
theorem script_split {s : ByteArray} (h : scriptB s = true) : s.size ≤ 3000 ∧ splitL 10 s.data.toList = (linesOf s).map (·.data.toList) ++ [[]] ∧ (linesOf s).length ≤ 50 ∧ ∀ x ∈ linesOf s, (10 : UInt8) ∉ x.data.toList ∧ x.size ≤ 3000 := by
 unfold scriptB at h
 simp only [Bool.and_eq_true, decide_eq_true_eq] at h
 obtain ⟨h1, h2, h3⟩ := h
 obtain ⟨p1, p2⟩ := pieces_len 10 s
 have hlt : (pieces 10 s).length - 1 < (pieces 10 s).length := by omega
 rw [List.getD_eq_getElem?_getD, List.getElem?_eq_getElem hlt, Option.getD_some] at h2
 have h2 : (pieces 10 s)[(pieces 10 s).length - 1] = (⟨#[]⟩ : ByteArray) := by
  generalize (pieces 10 s)[(pieces 10 s).length - 1] = x at h2
  exact Decidable.byContradiction fun hn => by rw [ba_ne hn] at h2; cases h2
 have hmap : (pieces 10 s).map (·.data.toList) = splitL 10 s.data.toList := by
  unfold pieces
  rw [List.map_map]
  conv => rhs; rw [← List.map_id (splitL 10 s.data.toList)]
  exact List.map_congr_left (fun x _ => bsOf_list x)
 have htake : pieces 10 s = linesOf s ++ [(⟨#[]⟩ : ByteArray)] := by
  unfold linesOf
  conv => lhs; rw [← List.take_append_drop ((pieces 10 s).length - 1) (pieces 10 s)]
  rw [List.drop_eq_getElem_cons hlt, h2, List.drop_eq_nil_of_le (by omega)]
 refine ⟨h1, ?_, ?_, ?_⟩
 ·rw [← hmap]
  conv => lhs; rw [htake]
  rw [List.map_append]; rfl
 ·unfold linesOf; rw [List.length_take]; omega
 ·intro x hx
  have hx2 : x ∈ pieces 10 s := by rw [htake]; exact List.mem_append_left _ hx
  refine ⟨?_, by have := pieces_size 10 s x hx2; omega⟩
  unfold pieces at hx2
  obtain ⟨l, hl, rfl⟩ := List.mem_map.1 hx2
  rw [bsOf_list]
  exact piece_no 10 _ l hl
theorem lines_scr {N : Nat} (hN : 200000000000000 ≤ N) (s : ByteArray) (hs : s.size ≤ 3000) (ts : List ByteArray) (ht : ts.length ≤ 50) (E : Dk) : ∀ (j i f : Nat) (x : ByteArray) (D : Dk) (R done rest : List ByteArray) (pre : List Int),
  i + j = s.size → j < f → x.size ≤ i → (10 : UInt8) ∉ x.data.toList → splitL 10 (x.data.toList ++ s.data.toList.drop i) = R.map (·.data.toList) ++ [[]] → okD D = true → runF N D R = some (E, rest) → ts = done ++ rest → failF ts 0 = pre ++ failF rest done.length →
  zq83.l2 N f s ts (failF ts 0) x done.length pre.length i E.1 E.2.1 E.2.2.1 E.2.2.2.1 E.2.2.2.2.1 E.2.2.2.2.2.1 E.2.2.2.2.2.2 D.1 D.2.1 D.2.2.1 D.2.2.2.1 D.2.2.2.2.1 D.2.2.2.2.2.1 D.2.2.2.2.2.2 = some true
 | 0, i, f+1, x, D, R, done, rest, pre, hi, hf, hx, hno, hsp, hd, hr, hts, hfl => by
  have hdr : s.data.toList.drop i = [] := List.drop_eq_nil_of_le (by have : s.size = s.data.toList.length := rfl; omega)
  rw [hdr, splitL_pre 10 x.data.toList [] hno] at hsp
  have hR : R = [] := by
   cases R with
   | nil => rfl
   | cons y t => have := congrArg List.length hsp; simp [splitL, onHead] at this
  subst hR
  obtain ⟨rfl, rfl⟩ : D = E ∧ ([] : List ByteArray) = rest := by
   have : (some (D, []) : Option (Dk × List ByteArray)) = some (E, rest) := hr
   exact ⟨congrArg Prod.fst (Option.some.inj this), congrArg Prod.snd (Option.some.inj this)⟩
  have h1 : done.length = ts.length := by rw [hts, List.append_nil]
  have h2 : pre.length = (failF ts 0).length := by rw [hfl]; simp [failF]
  unfold zq83.l2 zq83.d2 zq83.o2
  rw [dcF (by omega), cF, h1, h2, beq_self_eq_true, cT, beq_self_eq_true, cT]
  simp only [beq_self_eq_true, Bool.and_self, Bool.and_true]
 | j+1, i, f+1, x, D, R, done, rest, pre, hi, hf, hx, hno, hsp, hd, hr, hts, hfl => by
  have hlt : i < s.data.toList.length := by have : s.size = s.data.toList.length := rfl; omega
  have hdr := List.drop_eq_getElem_cons hlt
  have hbt : bt s i = ((s.data.toList[i]).toNat : Int) := bt_at s i hlt
  have w1 : w64 ((i : Int) + 1) = ((i + 1 : Nat) : Int) := w1add (by omega)
  unfold zq83.l2 zq83.d2 zq83.o2
  rw [dcT (show (i : Int) < (s.size : Int) by omega), cT, dcT (show (0 : Int) ≤ (i : Int) by omega), cT, cT, hbt, w1]
  by_cases hc : s.data.toList[i] = 10
  ·rw [hc] at hdr
   rw [hdr, splitL_pre 10 x.data.toList _ hno, splitL_cons] at hsp
   obtain ⟨y, R', rfl⟩ : ∃ y R', R = y :: R' := by
    cases R with
    | nil =>
     exfalso
     have h1 : (splitL 10 (s.data.toList.drop (i + 1))).length + 1 = 1 := congrArg List.length hsp
     have h2 := List.length_pos_iff.2 (splitL_ne 10 (s.data.toList.drop (i + 1)))
     omega
    | cons y R' => exact ⟨y, R', rfl⟩
   have hsp : (x.data.toList ++ []) :: splitL 10 (s.data.toList.drop (i + 1)) = y.data.toList :: (R'.map (·.data.toList) ++ [[]]) := hsp
   rw [List.append_nil, List.cons.injEq] at hsp
   obtain rfl : x = y := bs_ext hsp.1
   have hln : lineB D.1 D.2.1 D.2.2.1 D.2.2.2.1 D.2.2.2.2.1 D.2.2.2.2.2.1 D.2.2.2.2.2.2 x = true := by
    unfold lineB nl
    have : pieces 10 x = [bsOf x.data.toList] := by
     unfold pieces
     have := splitL_pre 10 x.data.toList [] hno
     rw [List.append_nil] at this
     rw [this]
     show [bsOf (x.data.toList ++ [])] = _
     rw [List.append_nil]
    rw [this, dcT (show x.size ≤ 3000 by omega), show deskB D.1 D.2.1 D.2.2.1 D.2.2.2.1 D.2.2.2.2.1 D.2.2.2.2.2.1 D.2.2.2.2.2.2 = true from hd]
    rfl
   rcases DeskLine_eq hN D.1 D.2.1 D.2.2.1 D.2.2.2.1 D.2.2.2.2.1 D.2.2.2.2.2.1 D.2.2.2.2.2.2 x (by omega) with ⟨h0, _⟩ | ⟨_, q1, q2, q3, q4, q5, q6, q7, t, e1, _, e3, _, e5, _⟩
   ·rw [hln] at h0; cases h0
   have hst : stF N D x = some ((q1, q2, q3, q4, q5, q6, q7), t) := by unfold stF; rw [e3]; rfl
   unfold runF at hr
   rw [hst, oB] at hr
   obtain ⟨⟨E', rest'⟩, hr1, hr2⟩ := Option.bind_eq_some_iff.1 hr
   obtain ⟨rfl, rfl⟩ : E' = E ∧ t :: rest' = rest := ⟨congrArg Prod.fst (Option.some.inj hr2), congrArg Prod.snd (Option.some.inj hr2)⟩
   have hlen : ts.length = done.length + (rest'.length + 1) := by rw [hts]; simp
   have hdn : done.length < ts.length := by omega
   have htd : ts[done.length] = t := by simp [hts]
   have hcc : (((s.data.toList[i]).toNat : Int) != 10) = false := by rw [hc]; rfl
   rw [hcc, cF, e1, oB]
   dsimp only
   rw [nT, cF, dcF (show ¬ (done.length : Int) ≥ (ts.length : Int) by omega), cF, dcT (show (0 : Int) ≤ (done.length : Int) by omega), cT, dcT (show (done.length : Int) < (ts.length : Int) by omega), cT, tN, getAt hdn, htd, toL_self, nT]
   have ih := fun (pre' : List Int) (hp : failF ts 0 = pre' ++ failF rest' (done.length + 1)) =>
    lines_scr hN s hs ts ht E' j (i + 1) f ⟨#[]⟩ (q1, q2, q3, q4, q5, q6, q7) R' (done ++ [t]) rest' pre' (by omega) (by omega) (by show 0 ≤ i + 1; omega) (by simp) (by rw [← hsp.2]; rfl) e5 hr1 (by rw [hts, List.append_assoc]; rfl) (by rw [List.length_append]; exact hp)
   rw [List.length_append, List.length_singleton] at ih
   have key : ∀ b : Bool, failB t = b → zq83.d5 N s ts (failF ts 0) ((done.length + 1 : Nat) : Int) pre.length i b E'.1 E'.2.1 E'.2.2.1 E'.2.2.2.1 E'.2.2.2.2.1 E'.2.2.2.2.2.1 E'.2.2.2.2.2.2 D.1 D.2.1 D.2.2.1 D.2.2.2.1 D.2.2.2.2.1 D.2.2.2.2.2.1 D.2.2.2.2.2.2 q1 q2 q3 q4 q5 q6 q7 (fun w0 w1 w2 w3 w4 w5 w6 w7 w8 w9 w10 w11 w12 w13 w14 w15 w16 w17 w18 w19 w20 => zq83.l2 N f w0 w1 w2 w3 w4 w5 w6 w7 w8 w9 w10 w11 w12 w13 w14 w15 w16 w17 w18 w19 w20) = some true := by
    intro b hb
    have hfl : failF ts 0 = pre ++ (bif failB t then ((done.length + 1 : Nat) : Int) :: failF rest' (done.length + 1) else failF rest' (done.length + 1)) := hfl
    rw [hb] at hfl
    unfold zq83.d5 zq83.o5
    cases b with
    | false =>
     rw [cF] at hfl ⊢
     unfold zq83.d7 zq83.o7 zq83.d3 zq83.o3
     dsimp only
     rw [w1]
     exact ih pre hfl
    | true =>
     rw [cT] at hfl ⊢
     have hpl : pre.length < (failF ts 0).length := by rw [hfl]; simp
     have hpv : (failF ts 0)[pre.length] = ((done.length + 1 : Nat) : Int) := by simp [hfl]
     have hpm := failF_len ts 0
     rw [dcF (show ¬ (pre.length : Int) ≥ ((failF ts 0).length : Int) by omega), cF, dcT (show (0 : Int) ≤ (pre.length : Int) by omega), cT, dcT (show (pre.length : Int) < ((failF ts 0).length : Int) by omega), cT, tN, getAt hpl, hpv]
     unfold zq83.d6 zq83.o6
     simp only [bne_self_eq_false, cF]
     unfold zq83.d7 zq83.o7 zq83.d3 zq83.o3
     dsimp only
     rw [w1, w1add (by omega)]
     have := ih (pre ++ [((done.length + 1 : Nat) : Int)]) (by rw [hfl, List.append_assoc]; rfl)
     rw [List.length_append, List.length_singleton] at this
     exact this
   unfold zq83.d4 zq83.o4
   rw [cF, w1add (by omega)]
   unfold failB at key
   cases hq : (t.toList == (⟨#[110, 111]⟩ : ByteArray).toList) with
   | true => rw [hq] at key; exact key _ rfl
   | false => rw [hq] at key; exact key _ rfl
  ·have hcc : (((s.data.toList[i]).toNat : Int) != 10) = true := by
    rw [bne_iff_ne]
    intro h
    exact hc (UInt8.toNat.inj (by show _ = 10; omega))
   have hex : (s.extract i (i + 1)).data.toList = [s.data.toList[i]] := by
    rw [extract_list, List.drop_take, hdr, show i + 1 - i = 1 from by omega]; rfl
   have hez : (s.extract i (i + 1)).size = 1 := by
    show (s.extract i (i + 1)).data.toList.length = 1
    rw [hex]; rfl
   rw [hcc, cT, dcT (show (0 : Int) ≤ ((i + 1 : Nat) : Int) by omega), cT, dcT (show ((i + 1 : Nat) : Int) ≤ (s.size : Int) by omega), cT, cT, dcT (show (i : Int) ≤ ((i + 1 : Nat) : Int) by omega), cT, tN, tN, hez]
   rw [show Nat.ble (x.size + 1) 9223372036854775807 = true from by rw [Nat.ble_eq]; omega, cT]
   unfold zq83.d3 zq83.o3
   dsimp only
   rw [w1]
   have hxl : (x ++ s.extract i (i + 1)).data.toList = x.data.toList ++ [s.data.toList[i]] := by
    rw [ByteArray.data_append, Array.toList_append, hex]
   exact lines_scr hN s hs ts ht E j (i + 1) f (x ++ s.extract i (i + 1)) D R done rest pre (by omega) (by omega) (by rw [ByteArray.size_append, hez]; omega) (by rw [hxl]; simp only [List.mem_append, List.mem_singleton, not_or]; exact ⟨hno, fun h => hc h.symm⟩) (by rw [hxl, List.append_assoc, ← hsp, hdr]; rfl) hd hr hts hfl
 | _, _, 0, _, _, _, _, _, _, _, hf, _, _, _, _, _, _, _ => by omega
theorem u8_iff (x : Int) (hx : (Lit.int .u8 x).wf = true) : 0 ≤ x ∧ x ≤ 255 := by simpa [Lit.wf, IntKind.min, IntKind.max, IntKind.signed, IntKind.bits] using hx
theorem big_eq {N : Nat} {z s : List Int} (h1 : ∀ x ∈ z, (Lit.int .u8 x).wf = true) (h2 : ∀ x ∈ s, (Lit.int .u8 x).wf = true) : zq84.g N z s = some true ∨ (zq84.g N z s = some false ∧ Bs z ∧ Bs s) := by
 unfold zq84.g zq84.o0
 by_cases c : (z.length : Int) > 1048576
 ·rw [dcT c]; exact .inl rfl
 ·rw [dcF c, w64s (by omega) (by omega), cF]
  by_cases d : (s.length : Int) > 1048576 - (z.length : Int)
  ·rw [dcT d]; exact .inl rfl
  ·rw [dcF d]
   exact .inr ⟨rfl, ⟨by omega, fun x hx => u8_iff x (h1 x hx)⟩, ⟨by omega, fun x hx => u8_iff x (h2 x hx)⟩⟩
theorem FnDeskScripts.pure : FnDeskScripts.Pure := by
 intro z s hz hs
 refine ⟨200000000000000, ?_⟩
 unfold zq83.g zq83.o0
 rcases big_eq (N := 200000000000000) hz.2.2 hs.2.2 with hb | ⟨hb, hz', hs'⟩
 ·rw [hb]; rfl
 rw [hb, oB, cF]
 obtain ⟨s, ed, hs⟩ := drawScript (N := 200000000000000) (by omega) hz'
 rw [ed, oB]
 rcases tells (N := 200000000000000) (by omega) s hs with ⟨_, e1, e2, e3, _, e5, _⟩ | ⟨h0, E, ts, hr, _, _, ht, e1, e2, e3, _, e5, _⟩
 ·rw [e1, e2, e3, e5]
  simp only [oB, beq_self_eq_true, nT, cF]
  rw [wTexts_self _ (by simp) (by simp), oB, nT, cF]
  rfl
 ·rw [e1, e2, e3, e5]
  have hfl := failF_len ts 0
  simp only [oB, beq_self_eq_true, nT, cF]
  rw [wTexts_self _ (by omega) (by omega), oB, nT, cF]
  unfold zq83.d1 zq83.o1
  rw [cF, nT, cF]
  obtain ⟨h1, h2, h3, h4⟩ := script_split h0
  exact lines_scr (N := 200000000000000) (by omega) s h1 ts ht E s.size 0 200000000000000 ⟨#[]⟩ D0k (linesOf s) [] ts [] (by omega) (by omega) (by show 0 ≤ 0; omega) (by simp) h2 D0k_ok hr rfl rfl
theorem hours_tot (N : Nat) {code : List Int} (hc : Bs code) {pos : Int} (h1 : 0 ≤ pos) (h2 : pos ≤ 1000000) (seed : Int) :
  Tot (zq158.g N code pos seed) fun r => r.2.1 = code ∧ 0 ≤ r.2.2.1 ∧ r.2.2.1 ≤ pos + 2 := by
 unfold zq158.g zq158.o0
 refine Tot.bind (among_tot N hc _ (by simp) h1 h2 seed) ?_
 rintro ⟨x, c, p, s⟩ ⟨_, rfl, p1, p2⟩
 exact Tot.now ⟨rfl, p1, p2⟩
theorem turn_tot {N : Nat} (hN : 10000000 ≤ N) {code : List Int} (hc : Bs code) {pos : Int} (h1 : 0 ≤ pos) (h2 : pos ≤ 10000) (seed : Int) :
  Tot (zq167.g N code pos seed) fun r => r.2.2.1 = code ∧ 0 ≤ r.2.2.2.1 ∧ r.2.2.2.1 ≤ pos + 6 := by
 unfold zq167.g zq167.o0
 refine Tot.bind (pick_tot N hc 16 h1 (by omega) seed) ?_
 rintro ⟨x, c, p, s⟩ ⟨⟨x1, x2⟩, rfl, p1, p2⟩
 dsimp only at x1 x2 p1 p2 ⊢
 refine Tot.bif (fun _ => ?_) (fun _ => Tot.bif (fun _ => ?_) (fun _ => Tot.bif (fun _ => ?_) (fun _ => ?_)))
 ·refine Tot.bind (among_tot N hc _ (by simp) p1 (by omega) s) ?_
  rintro ⟨y, c', q, t⟩ ⟨_, hcc, q1, q2⟩
  dsimp only at hcc q1 q2 ⊢
  subst hcc
  refine Tot.bind (among_tot N hc _ (by simp) q1 (by omega) t) ?_
  rintro ⟨z, c'', q', t'⟩ ⟨_, hcc, q1', q2'⟩
  exact Tot.now ⟨hcc, q1', by dsimp only at q2' ⊢; omega⟩
 ·refine Tot.bind (among_tot N hc _ (by simp) p1 (by omega) s) ?_
  rintro ⟨y, c', q, t⟩ ⟨_, hcc, q1, q2⟩
  exact Tot.now ⟨hcc, q1, by dsimp only at q2 ⊢; omega⟩
 ·refine Tot.bind (pick_tot N hc _ p1 (by omega) s) ?_
  rintro ⟨y, c', q, t⟩ ⟨_, hcc, q1, q2⟩
  exact Tot.now ⟨hcc, q1, by dsimp only at q2 ⊢; omega⟩
 ·refine Tot.bind (sure_tot hN hc p1 (by omega) s) ?_
  rintro ⟨y, y', c', q, t⟩ ⟨_, hcc, q1, q2⟩
  exact Tot.now ⟨hcc, q1, by dsimp only at q2 ⊢; omega⟩
theorem clock_tot {N : Nat} (hN : 10000000 ≤ N) {code : List Int} (hc : Bs code) {pos : Int} (h1 : 0 ≤ pos) (h2 : pos ≤ 5000) (seed : Int) :
  Tot (zq156.g N code pos seed) fun r => r.2.2.2.2.1 = code ∧ 0 ≤ r.2.2.2.2.2.1 ∧ r.2.2.2.2.2.1 ≤ pos + 20 := by
 have fin : ∀ (p s e f c d : Int), 0 ≤ p → p ≤ pos + 20 → Tot (zq156.d1 N code p s 0 0 0 0 e f c d) fun r => r.2.2.2.2.1 = code ∧ 0 ≤ r.2.2.2.2.2.1 ∧ r.2.2.2.2.2.1 ≤ pos + 20 := fun p s e f c d a1 a2 => Tot.now ⟨rfl, a1, a2⟩
 unfold zq156.g zq156.o0
 refine Tot.bind (sure_tot hN hc h1 (by omega) seed) ?_
 rintro ⟨n, d, c, p, s⟩ ⟨_, rfl, p1, p2⟩
 dsimp only at p1 p2 ⊢
 refine Tot.bind (pick_tot N hc 50 p1 (by omega) s) ?_
 rintro ⟨x, c', q, t⟩ ⟨⟨x1, x2⟩, hcc, q1, q2⟩
 dsimp only at x1 x2 hcc q1 q2 ⊢
 subst hcc
 refine Tot.bind (among_tot N hc _ (by simp) q1 (by omega) t) ?_
 rintro ⟨u, c', p', s'⟩ ⟨hu, hcc, p1', p2'⟩
 dsimp only at hu hcc p1' p2' ⊢
 subst hcc
 refine Tot.bind (pick_tot N hc 50 p1' (by omega) s') ?_
 rintro ⟨y, c', q', t'⟩ ⟨⟨y1, y2⟩, hcc, q1', q2'⟩
 dsimp only at y1 y2 hcc q1' q2' ⊢
 subst hcc
 refine Tot.bind (among_tot N hc _ (by simp) q1' (by omega) t') ?_
 rintro ⟨v, c', p'', s''⟩ ⟨hv, hcc, p1'', p2''⟩
 dsimp only at hv hcc p1'' p2'' ⊢
 subst hcc
 rw [w64s (by omega) (by omega)] at hu hv
 have hu2 : 1 ≤ u ∧ u ≤ 1000 := by
  simp only [List.mem_cons, List.not_mem_nil, or_false] at hu
  omega
 have hv2 : 1 ≤ v ∧ v ≤ 1000 := by
  simp only [List.mem_cons, List.not_mem_nil, or_false] at hv
  omega
 obtain ⟨u, rfl⟩ := Int.eq_ofNat_of_zero_le (show 0 ≤ u by omega)
 obtain ⟨v, rfl⟩ := Int.eq_ofNat_of_zero_le (show 0 ≤ v by omega)
 rw [common_eq (by omega) (by omega) (by omega), oB]
 have hg : 0 < Nat.gcd u v := Nat.gcd_pos_of_pos_left _ (by omega)
 rw [ieqF (show ¬ ((Nat.gcd u v : Nat) : Int) = 0 by omega), cF, cF]
 refine Tot.bind (pick_tot N hc 16 p1'' (by omega) s'') ?_
 rintro ⟨z, c', q'', t''⟩ ⟨_, hcc, q1'', q2''⟩
 dsimp only at hcc q1'' q2'' ⊢
 subst hcc
 refine Tot.bif (fun _ => ?_) (fun _ => Tot.bif (fun _ => ?_) (fun _ => fin _ _ _ _ _ _ q1'' (by omega)))
 ·refine Tot.bind (among_tot N hc _ (by simp) q1'' (by omega) t'') ?_
  rintro ⟨z, c', q, t⟩ ⟨_, hcc, q1, q2⟩
  dsimp only at hcc q1 q2 ⊢
  subst hcc
  exact fin _ _ _ _ _ _ q1 (by omega)
 ·refine Tot.bind (turn_tot hN hc q1'' (by omega) t'') ?_
  rintro ⟨z, z', c', q, t⟩ ⟨hcc, q1, q2⟩
  dsimp only at hcc q1 q2 ⊢
  subst hcc
  exact fin _ _ _ _ _ _ q1 (by omega)
theorem drawLine {N : Nat} (hN : 10000000 ≤ N) {code : List Int} (hc : Bs code) : ∃ h a b e f c d s, zq101.g N code = some (h, a, b, e, f, c, d, s) ∧ s.size ≤ 1048576 := by
 have key : Tot (zq101.g N code) fun r => r.2.2.2.2.2.2.2.size ≤ 1048576 := by
  unfold zq101.g zq101.o0 zq157.g zq157.o0
  refine Tot.bind (P := fun r => r.2.2.2.2.2.2.2.1 = code ∧ 0 ≤ r.2.2.2.2.2.2.2.2.1 ∧ r.2.2.2.2.2.2.2.2.1 ≤ 100) ?_ ?_
  ·refine Tot.bind (hours_tot N hc (by omega) (by omega) 0) ?_
   rintro ⟨x, c, p, s⟩ ⟨rfl, p1, p2⟩
   dsimp only at p1 p2 ⊢
   refine Tot.bind (turn_tot hN hc p1 (by omega) s) ?_
   rintro ⟨y, y', c', q, t⟩ ⟨hcc, q1, q2⟩
   dsimp only at hcc q1 q2 ⊢
   subst hcc
   refine Tot.bind (clock_tot hN hc q1 (by omega) t) ?_
   rintro ⟨z1, z2, z3, z4, c', q', t'⟩ ⟨hcc, q1', q2'⟩
   exact Tot.now ⟨hcc, q1', by dsimp only at q2' ⊢; omega⟩
  ·rintro ⟨h, a, b, e, f, c, d, c', p, s⟩ ⟨hcc, p1, p2⟩
   dsimp only at hcc p1 p2 ⊢
   subst hcc
   refine Tot.bind (one_tot N hc 20 p1 (by omega) s) ?_
   rintro ⟨o, c', q, t⟩ ⟨hcc, q1, q2⟩
   dsimp only at hcc q1 q2 ⊢
   subst hcc
   refine Tot.bif (fun _ => ?_) (fun _ => ?_)
   ·refine Tot.bind (line10_tot hN hc q1 (by omega) t) ?_
    rintro ⟨u, c', q', t'⟩ ⟨hu, _⟩
    dsimp only at hu ⊢
    rw [nble (by show u.size + 1 ≤ _; omega), cT]
    exact Tot.now (by dsimp only; rw [ByteArray.size_append]; show u.size + 1 ≤ _; omega)
   ·refine Tot.bind (line10_tot hN hc q1 (by omega) t) ?_
    rintro ⟨u, c', q', t'⟩ ⟨hu, _⟩
    exact Tot.now (by dsimp only at hu ⊢; omega)
 obtain ⟨⟨h, a, b, e, f, c, d, s⟩, e1, e2⟩ := key
 exact ⟨h, a, b, e, f, c, d, s, e1, e2⟩
theorem dd_ge {v : Nat} (hv : v < 100) : ∀ c ∈ dd v, 43 ≤ c.toNat := by
 intro c hc
 unfold dd at hc
 simp only [List.mem_cons, List.not_mem_nil, or_false] at hc
 rcases hc with rfl | rfl
 ·rw [UInt8.toNat_ofNat']; omega
 ·rw [UInt8.toNat_ofNat']; omega
theorem time_ge {k n d : Nat} (h : Dial k n d) : ∀ c ∈ timeL (n * k * 60) d, 43 ≤ c.toNat := by
 intro c hc
 have hp := h.p
 have hW := div60 (M := n * k * 60) rfl h.t.lt h.k2
 have hs : 60 * (n * k * 60 % d) / d < 60 := Nat.div_lt_of_lt_mul (by have := Nat.mod_lt (n * k * 60) hp; rw [Nat.mul_comm d]; omega)
 unfold timeL tailL at hc
 simp only [List.mem_append, List.mem_singleton] at hc
 rcases hc with ((((hc | rfl) | hc) | rfl) | hc) | hc
 ·exact dd_ge (by omega) c hc
 ·decide
 ·exact dd_ge (by omega) c hc
 ·decide
 ·exact dd_ge (by omega) c hc
 ·split at hc
  ·cases hc
  ·simp only [List.mem_append, List.mem_singleton] at hc
   rcases hc with ((rfl | hc) | rfl) | hc
   ·decide
   ·have := dec_digits _ c hc; omega
   ·decide
   ·have := dec_digits _ c hc; omega
theorem tx_ge {h a b : Int} (hb : timeB h a b = true) : (∀ c ∈ (txD h a b).data.toList, 43 ≤ c.toNat) ∧ 8 ≤ (txD h a b).size ∧ (txD h a b).size ≤ 22 := by
 obtain ⟨k, n, d, rfl, h1, h2, rfl, rfl, T⟩ := timeB_iff.1 hb
 have hD : Dial k n d := ⟨h1, h2, T⟩
 unfold txD
 simp only [tN]
 rw [bsOf_list]
 refine ⟨time_ge hD, ?_, text_size hD⟩
 rw [bsOf_size]
 unfold timeL
 simp only [List.length_append, List.length_singleton, dd_len]
 omega
theorem carry_show {N : Nat} (hN : 200000000000000 ≤ N) {h a b e f c d : Int} (hd : deskB h a b e f c d = true) : zq48.g N h a b e f c d w_show = some (h, a, b, e, f, c, d, txD h a b) := by
 have ht : timeB h a b = true := by unfold deskB at hd; rw [Bool.and_eq_true] at hd; exact hd.1
 obtain ⟨M, rfl⟩ : ∃ M, N = M + 9 := ⟨N - 9, by omega⟩
 have e1 : zq183.g (M + 9) w_show (⟨#[32]⟩ : ByteArray) = some (pieces 32 w_show) := splitS_eq w_show 32 (by decide)
 rw [carry_is, e1, oB, show pieces 32 w_show = [w_show] from rfl, car_rd (M + 9) h a b e f c d w_show [] nE (by simp) (by kernel_rfl) rfl, rI_0]
 show (zq49.g (M + 9) h a b e f c d w_show nI 0 0 nE).bind (chgB (M + 9) h a b e f c d [w_show] nI 0 0 nE) = _
 rw [show zq49.g (M + 9) h a b e f c d w_show nI 0 0 nE = some (0, 0, 0, 0, 0, 0, 0, false, false) by kernel_rfl, oB, ask_tail, show zq46.g (M + 9) h a b e f c d w_show nI 0 0 nE = (zq37.g (M + 9) h a b).bind fun r1 => some (r1.1, r1.2) by kernel_rfl, (text_desk (by omega) ht).1, oB, oB, ans_i _ _ _ _ _ _ _ _ []]
 rfl
def setT (h a b : Int) : ByteArray := (⟨#[115, 101, 116, 32]⟩ : ByteArray) ++ txD h a b
theorem setT_list (h a b : Int) : (setT h a b).data.toList = [115, 101, 116] ++ 32 :: (txD h a b).data.toList := by
 unfold setT
 rw [ByteArray.data_append, Array.toList_append]; rfl
theorem splitL_one {c : UInt8} {l : List UInt8} (h : c ∉ l) : splitL c l = [l] := by
 have := splitL_pre c l [] h
 rw [List.append_nil] at this
 rw [this]
 show [l ++ []] = [l]
 rw [List.append_nil]
theorem chg_set (M : Nat) (h a b e f c d : Int) (x : ByteArray) : zq49.g (M + 9) h a b e f c d w_set nI 0 0 x = (zq28.g (M + 9) h x).bind fun r2 => zq49.d3 (M + 9) r2.2.2 h r2.1 r2.2.1 e f c d 0 0 0 0 0 0 0 := by kernel_rfl
theorem carry_set {N : Nat} (hN : 200000000000000 ≤ N) {h a b e f c d : Int} (hd : deskB h a b e f c d = true) : zq48.g N h a b e f c d (setT h a b) = some (h, a, b, e, f, c, d, txD h a b) := by
 have ht : timeB h a b = true := by unfold deskB at hd; rw [Bool.and_eq_true] at hd; exact hd.1
 obtain ⟨g1, g2, g3⟩ := tx_ge ht
 have hz : (setT h a b).size ≤ 26 := by unfold setT; rw [ByteArray.size_append]; show 4 + _ ≤ 26; omega
 have hpc : pieces 32 (setT h a b) = [w_set, txD h a b] := by
  unfold pieces
  rw [setT_list, splitL_app, splitL_one (l := (txD h a b).data.toList) (fun hm => absurd (g1 _ hm) (by decide))]
  show [bsOf [115, 101, 116], bsOf (txD h a b).data.toList] = _
  rw [bsOf_eq]; rfl
 obtain ⟨M, rfl⟩ : ∃ M, N = M + 9 := ⟨N - 9, by omega⟩
 have e1 : zq183.g (M + 9) (setT h a b) (⟨#[32]⟩ : ByteArray) = some (pieces 32 (setT h a b)) := splitS_eq (setT h a b) 32 (by omega)
 have hp : zq28.g (M + 9) h (txD h a b) = some (a, b, true) := by
  obtain ⟨k, n, d, rfl, h1, h2, rfl, rfl, T⟩ := timeB_iff.1 ht
  unfold txD
  simp only [tN]
  exact zq68 (by omega) ⟨h1, h2, T⟩
 rw [carry_is, e1, oB, hpc, car_rd (M + 9) h a b e f c d w_set [txD h a b] f_T (by simp) (by kernel_rfl) rfl, rI_T]
 show (zq49.g (M + 9) h a b e f c d w_set nI 0 0 (txD h a b)).bind (chgB (M + 9) h a b e f c d [w_set, txD h a b] nI 0 0 (txD h a b)) = _
 rw [chg_set, hp, oB]
 refine (chg_tail (by omega) h a b e f c d [w_set, txD h a b] nI 0 0 (txD h a b) h a b e f c d true).trans ?_
 unfold chgR
 rw [hd]; rfl
theorem say_ok {N : Nat} (hN : 200000000000000 ≤ N) {h a b e f c d : Int} (hd : deskB h a b e f c d = true) {s : ByteArray} (hz : s.size ≤ 3000) (hl : (10 : UInt8) ∉ s.data.toList) (hc : zq48.g N h a b e f c d s = some (h, a, b, e, f, c, d, txD h a b)) : zq9.g N h a b e f c d s = some (h, a, b, e, f, c, d, txD h a b, true) := by
 have hb : lineB h a b e f c d s = true := by
  unfold lineB nl pieces
  rw [hd, dcT hz, splitL_one hl]; rfl
 rcases DeskLine_eq hN h a b e f c d s (by omega) with ⟨h0, _⟩ | ⟨_, q1, q2, q3, q4, q5, q6, q7, t, e1, _, e3, _⟩
 ·rw [hb] at h0; cases h0
 ·rw [hc] at e3
  obtain ⟨rfl, rfl, rfl, rfl, rfl, rfl, rfl, rfl⟩ := e3
  exact e1
theorem lines_end {N : Nat} (hN : 200000000000000 ≤ N) {h a b e f c d : Int} (hd : deskB h a b e f c d = true) : zq82.d2 N false h a b e f c d = some true := by
 have ht : timeB h a b = true := by unfold deskB at hd; rw [Bool.and_eq_true] at hd; exact hd.1
 obtain ⟨g1, g2, g3⟩ := tx_ge ht
 have hz : (setT h a b).size ≤ 26 := by unfold setT; rw [ByteArray.size_append]; show 4 + _ ≤ 26; omega
 have k1 := say_ok hN hd (s := w_show) (by decide) (by decide) (carry_show hN hd)
 have k2 := say_ok hN hd (s := setT h a b) (by omega) (by
  rw [setT_list]
  simp only [List.mem_append, List.mem_cons, List.not_mem_nil, or_false, not_or]
  exact ⟨by decide, by decide, fun hm => absurd (g1 _ hm) (by decide)⟩) (carry_set hN hd)
 unfold zq82.d2 zq82.o2
 rw [cF, show zq9.g N h a b e f c d (⟨#[115, 104, 111, 119]⟩ : ByteArray) = _ from k1, (text_desk (by omega) ht).1, oB, oB]
 dsimp only
 rw [nble (by show 4 + _ ≤ _; omega), cT, show zq9.g N h a b e f c d ((⟨#[115, 101, 116, 32]⟩ : ByteArray) ++ txD h a b) = _ from k2, oB]
 dsimp only
 rw [toL_self]
 simp only [beq_self_eq_true, Bool.and_self, cT]
theorem FnDeskLines.pure : FnDeskLines.Pure := by
 intro y z hy hz
 refine ⟨200000000000000, ?_⟩
 unfold zq82.g zq82.o0
 rcases big_eq (N := 200000000000000) hy.2.2 hz.2.2 with hb | ⟨hb, hy', hz'⟩
 ·rw [hb]; rfl
 rw [hb, oB, cF]
 obtain ⟨h, a, b, e, f, c, d, s, ed, hs⟩ := drawLine (N := 200000000000000) (by omega) hy'
 rw [ed, oB]
 dsimp only
 rcases DeskLine_eq (N := 200000000000000) (by omega) h a b e f c d s hs with ⟨_, e1, e2⟩ | ⟨_, q1, q2, q3, q4, q5, q6, q7, t, e1, e2, _, _, hq, hk⟩
 ·rw [e1, e2, oB, oB]
  dsimp only
  rw [toL_self]
  simp only [beq_self_eq_true, Bool.and_self, nT, cF]
  rfl
 ·rw [e1, e2, oB, oB]
  dsimp only
  rw [toL_self]
  simp only [beq_self_eq_true, Bool.and_self, nT, cF]
  have ht : timeB q1 q2 q3 = true := by unfold deskB at hq; rw [Bool.and_eq_true] at hq; exact hq.1
  obtain ⟨_, g2, _⟩ := tx_ge ht
  have fin := lines_end (N := 200000000000000) (by omega) hq
  unfold zq82.d1 zq82.o1
  rw [cF, nT, cF, (IsDesk_eq (by omega) q1 q2 q3 q4 q5 q6 q7).1, hq, oB, nT]
  rcases hk with hk | hk
  ·obtain ⟨rfl, rfl, rfl, rfl, rfl, rfl, rfl⟩ := hk
   simp only [beq_self_eq_true, Bool.and_self, nT, cF]
   rw [fin]
   cases (t.toList == (⟨#[110, 111]⟩ : ByteArray).toList) <;> cases (t.toList == (⟨#[119, 104, 97, 116]⟩ : ByteArray).toList) <;> rfl
  ·have n1 : t ≠ (⟨#[110, 111]⟩ : ByteArray) := by
    rintro rfl
    rw [← hk] at g2
    exact absurd g2 (by decide)
   have n2 : t ≠ (⟨#[119, 104, 97, 116]⟩ : ByteArray) := by
    rintro rfl
    rw [← hk] at g2
    exact absurd g2 (by decide)
   rw [tl_ne n1, tl_ne n2, cF, cF]
   exact fin
end Go.Proofs.YtdidghlibfopgaaGreatDoor.M
