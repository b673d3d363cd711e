/- Plain lemmas about what the functions compute (part 2). No conditions but those stated. -/
import Derived.Test.YtdidghlibfopgaaGreatDoorPlFnExactFailedLines1
namespace Go.Proofs.YtdidghlibfopgaaGreatDoor.M
open Go Go.PM Go.Proofs.YtdidghlibfopgaaGreatDoor.P
set_option linter.unusedVariables false
set_option linter.unusedSimpArgs false
set_option maxRecDepth 100000
abbrev nE : ByteArray := ⟨#[]⟩
abbrev nI : List Int := []
abbrev w_dial : ByteArray := ⟨#[100, 105, 97, 108]⟩
abbrev w_set : ByteArray := ⟨#[115, 101, 116]⟩
abbrev w_turn : ByteArray := ⟨#[116, 117, 114, 110]⟩
abbrev w_on : ByteArray := ⟨#[111, 110]⟩
abbrev w_off : ByteArray := ⟨#[111, 102, 102]⟩
abbrev w_mirror : ByteArray := ⟨#[109, 105, 114, 114, 111, 114]⟩
abbrev w_swap : ByteArray := ⟨#[115, 119, 97, 112]⟩
abbrev w_clock : ByteArray := ⟨#[99, 108, 111, 99, 107]⟩
abbrev w_show : ByteArray := ⟨#[115, 104, 111, 119]⟩
abbrev w_where : ByteArray := ⟨#[119, 104, 101, 114, 101]⟩
abbrev w_long : ByteArray := ⟨#[108, 111, 110, 103]⟩
abbrev w_angle : ByteArray := ⟨#[97, 110, 103, 108, 101]⟩
abbrev w_small : ByteArray := ⟨#[115, 109, 97, 108, 108]⟩
abbrev w_with : ByteArray := ⟨#[119, 105, 116, 104]⟩
abbrev w_shown : ByteArray := ⟨#[115, 104, 111, 119, 110]⟩
abbrev w_ahead : ByteArray := ⟨#[97, 104, 101, 97, 100]⟩
abbrev w_right : ByteArray := ⟨#[114, 105, 103, 104, 116]⟩
abbrev w_every : ByteArray := ⟨#[101, 118, 101, 114, 121]⟩
abbrev w_unsure : ByteArray := ⟨#[117, 110, 115, 117, 114, 101]⟩
abbrev w_other : ByteArray := ⟨#[111, 116, 104, 101, 114]⟩
abbrev w_leap : ByteArray := ⟨#[108, 101, 97, 112]⟩
abbrev w_best : ByteArray := ⟨#[98, 101, 115, 116]⟩
abbrev f_N : ByteArray := ⟨#[78]⟩
abbrev g_N : ByteArray := ⟨#[110]⟩
abbrev f_T : ByteArray := ⟨#[84]⟩
abbrev g_T : ByteArray := ⟨#[116]⟩
abbrev f_S : ByteArray := ⟨#[83]⟩
abbrev g_S : ByteArray := ⟨#[115]⟩
abbrev f_NN : ByteArray := ⟨#[78, 78]⟩
abbrev g_NN : ByteArray := ⟨#[110, 110]⟩
abbrev f_NNN : ByteArray := ⟨#[78, 78, 78]⟩
abbrev g_NNN : ByteArray := ⟨#[110, 110, 110]⟩
def Chg (N : Nat) (h a b e f c d : Int) (w : ByteArray) (n : List Int) (x : ByteArray) : Prop := ∃ (h' a' b' e' f' c' d' : Int) (ok : Bool), (∀ L, (zq49.g N h a b e f c d w n 0 0 x).bind (chgB N h a b e f c d L n 0 0 x) = some (chgR h a b e f c d h' a' b' e' f' c' d' ok)) ∧ zq132.g N w h a b e f c d x 0 0 n = zq132.d1 N ok h a b e f c d x 0 0 n h' a' b' e' f' c' d'
theorem Chg.mk {N : Nat} (hN : 200000000000000 ≤ N) {h a b e f c d : Int} {w : ByteArray} {n : List Int} {x : ByteArray} (h' a' b' e' f' c' d' : Int) (ok : Bool) (e1 : zq49.g N h a b e f c d w n 0 0 x = zq49.d3 N ok h' a' b' e' f' c' d' 0 0 0 0 0 0 0) (e2 : zq132.g N w h a b e f c d x 0 0 n = zq132.d1 N ok h a b e f c d x 0 0 n h' a' b' e' f' c' d') : Chg N h a b e f c d w n x :=
 ⟨h', a', b', e', f', c', d', ok, fun L => by rw [e1]; exact chg_tail (by omega) .., e2⟩
def Ans (N : Nat) (h a b e f c d : Int) (w : ByteArray) (n : List Int) (s1 s2 : Int) : Prop := ∃ y, zq46.g N h a b e f c d w n s1 s2 nE = some y ∧ zq129.g N w h a b e f c d nE s1 s2 n = some (reply y, h, a, b, e, f, c, d, nE, s1, s2, n)
theorem mirr_eq {N a b : Nat} (hN : 10000000 ≤ N) (T : Turn a b) : zq26.g N a b = some (((pr (b - a) b).1 : Int), ((pr (b - a) b).2 : Int), true) ∧ zq152.g N a b = some (((pr (b - a) b).1 : Int), ((pr (b - a) b).2 : Int)) := by
 refine ⟨?_, (mirror_eq hN T).2⟩
 unfold zq26.g zq26.o0
 rw [IsTurn_eq hN, turnB_T T, oB, nT, cF, (mirror_eq hN T).1]; rfl
theorem set_eq {N : Nat} (hN : 1000000000000 < N) {h a b e f c d : Nat} (Td : Dial h a b) (K : Clk e f c d) (x : ByteArray) (hx : x.size ≤ 1000000) : ∃ r, zq28.g N h x = some r ∧ zq153.g N h x = some r := by
 obtain ⟨r, e1, e2, _⟩ := parse_eq hN (h : Int) x (by omega)
 refine ⟨r, e1, ?_⟩
 unfold spec_ParseTime.g spec_ParseTime.o0 at e2
 have hb : inB (h : Int) 2 24 = true := inB_iff.2 (by have := Td.k1; have := Td.k2; omega)
 rw [diHours_eq, hb, oB, nT, cF] at e2
 obtain ⟨r', h1, h2⟩ := Option.bind_eq_some_iff.1 e2
 rw [h1]
 cases h2
 rfl
theorem c_dial {N : Nat} (hN : 200000000000000 ≤ N) {h a b e f c d : Nat} (Td : Dial h a b) (K : Clk e f c d) (n : Nat) : Chg N h a b e f c d w_dial [(n : Int)] nE := .mk hN n a b e f c d true (by kernel_rfl) (by kernel_rfl)
theorem c_clock {N : Nat} (hN : 200000000000000 ≤ N) {h a b e f c d : Nat} (Td : Dial h a b) (K : Clk e f c d) (n m : Nat) : Chg N h a b e f c d w_clock [(n : Int), (m : Int)] nE := .mk hN h a b a b n m true (by kernel_rfl) (by kernel_rfl)
theorem c_set {N : Nat} (hN : 200000000000000 ≤ N) {h a b e f c d : Nat} (Td : Dial h a b) (K : Clk e f c d) (x : ByteArray) (hx : x.size ≤ 1000000) : Chg N h a b e f c d w_set nI x := by
 obtain ⟨r, r1, r2⟩ := set_eq (N := N) (by omega) Td K x hx
 refine .mk hN h r.1 r.2.1 e f c d r.2.2 ?_ ?_
 ·rw [show zq49.g N h a b e f c d w_set nI 0 0 x = (zq28.g N h x).bind fun r2 => zq49.d3 N r2.2.2 h r2.1 r2.2.1 e f c d 0 0 0 0 0 0 0 by kernel_rfl, r1]; rfl
 ·rw [show zq132.g N w_set h a b e f c d x 0 0 nI = (zq153.g N h x).bind fun r2 => zq132.d1 N r2.2.2 h a b e f c d x 0 0 nI h r2.1 r2.2.1 e f c d by kernel_rfl, r2]; rfl
theorem made_eq (N : Nat) (h a b e f c d : Int) (n m : Int) : zq131.g N h a b e f c d nE 0 0 [n, m] = (zq119.g N n m).bind fun r3 => some (r3.1, r3.2.1, r3.2.2, h, a, b, e, f, c, d, nE, 0, 0, [n, m]) := by kernel_rfl
theorem c_turn {N : Nat} (hN : 200000000000000 ≤ N) {h a b e f c d : Nat} (Td : Dial h a b) (K : Clk e f c d) (n m : Nat) (hn : n ≤ 999999) (hm : m ≤ 999999) : Chg N h a b e f c d w_turn [(n : Int), (m : Int)] nE := by
 have mk := Make_eq (N := N) (by omega) hn hm
 unfold Chg
 rw [show zq49.g N h a b e f c d w_turn [(n : Int), (m : Int)] 0 0 nE = (zq25.g N n m).bind fun r3 => bif (!r3.2.2) then some (0, 0, 0, 0, 0, 0, 0, false, true) else zq49.d3 N r3.2.2 h r3.1 r3.2.1 e f c d 0 0 0 0 0 0 0 by kernel_rfl, show zq132.g N w_turn h a b e f c d nE 0 0 [(n : Int), (m : Int)] = (zq131.g N h a b e f c d nE 0 0 [(n : Int), (m : Int)]).bind fun r3 => zq132.d1 N r3.2.2.1 r3.2.2.2.1 r3.2.2.2.2.1 r3.2.2.2.2.2.1 r3.2.2.2.2.2.2.1 r3.2.2.2.2.2.2.2.1 r3.2.2.2.2.2.2.2.2.1 r3.2.2.2.2.2.2.2.2.2.1 r3.2.2.2.2.2.2.2.2.2.2.1 r3.2.2.2.2.2.2.2.2.2.2.2.1 r3.2.2.2.2.2.2.2.2.2.2.2.2.1 r3.2.2.2.2.2.2.2.2.2.2.2.2.2 h r3.1 r3.2.1 e f c d by kernel_rfl, made_eq, mk.1, mk.2]
 unfold mkT
 by_cases h0 : 1 ≤ m
 ·rw [if_pos h0]
  exact ⟨h, _, _, e, f, c, d, true, fun L => chg_tail (by omega) _ _ _ _ _ _ _ L _ 0 0 _ _ _ _ _ _ _ _ true, rfl⟩
 ·rw [if_neg h0]
  exact ⟨0, 0, 0, 0, 0, 0, 0, false, fun _ => rfl, rfl⟩
theorem c_on {N : Nat} (hN : 200000000000000 ≤ N) {h a b e f c d : Nat} (Td : Dial h a b) (K : Clk e f c d) (n m : Nat) (hn : n ≤ 999999) (hm : m ≤ 999999) : Chg N h a b e f c d w_on [(n : Int), (m : Int)] nE := by
 have mk := Make_eq (N := N) (by omega) hn hm
 unfold Chg
 rw [show zq49.g N h a b e f c d w_on [(n : Int), (m : Int)] 0 0 nE = (zq25.g N n m).bind fun r3 => bif (!r3.2.2) then some (0, 0, 0, 0, 0, 0, 0, false, true) else (zq2.g N a b r3.1 r3.2.1).bind fun r4 => zq49.d3 N r4.2.2 h r4.1 r4.2.1 e f c d 0 0 0 0 0 0 0 by kernel_rfl, show zq132.g N w_on h a b e f c d nE 0 0 [(n : Int), (m : Int)] = (zq131.g N h a b e f c d nE 0 0 [(n : Int), (m : Int)]).bind fun r3 => bif (!r3.2.2.1) then some (noT, r3.2.2.2.1, r3.2.2.2.2.1, r3.2.2.2.2.2.1, r3.2.2.2.2.2.2.1, r3.2.2.2.2.2.2.2.1, r3.2.2.2.2.2.2.2.2.1, r3.2.2.2.2.2.2.2.2.2.1, r3.2.2.2.2.2.2.2.2.2.2.1, r3.2.2.2.2.2.2.2.2.2.2.2.1, r3.2.2.2.2.2.2.2.2.2.2.2.2.1, r3.2.2.2.2.2.2.2.2.2.2.2.2.2) else (zq104.g N a b r3.1 r3.2.1).bind fun r4 => zq132.d1 N r4.2.2 r3.2.2.2.1 r3.2.2.2.2.1 r3.2.2.2.2.2.1 r3.2.2.2.2.2.2.1 r3.2.2.2.2.2.2.2.1 r3.2.2.2.2.2.2.2.2.1 r3.2.2.2.2.2.2.2.2.2.1 r3.2.2.2.2.2.2.2.2.2.2.1 r3.2.2.2.2.2.2.2.2.2.2.2.1 r3.2.2.2.2.2.2.2.2.2.2.2.2.1 r3.2.2.2.2.2.2.2.2.2.2.2.2.2 h r4.1 r4.2.1 e f c d by kernel_rfl, made_eq, mk.1, mk.2]
 unfold mkT
 by_cases h0 : 1 ≤ m
 ·rw [if_pos h0]
  have hT : Turn (pr n m).1 (pr n m).2 := pr_Turn (by omega) (by omega)
  have q := Add_eq (N := N) (by omega) Td.t hT
  simp only [oB, nT, cF]
  rw [q.1, q.2]
  exact ⟨h, _, _, e, f, c, d, _, fun L => chg_tail (by omega) _ _ _ _ _ _ _ L _ 0 0 _ _ _ _ _ _ _ _ _, rfl⟩
 ·rw [if_neg h0]
  exact ⟨0, 0, 0, 0, 0, 0, 0, false, fun _ => rfl, rfl⟩
theorem c_off {N : Nat} (hN : 200000000000000 ≤ N) {h a b e f c d : Nat} (Td : Dial h a b) (K : Clk e f c d) (n m : Nat) (hn : n ≤ 999999) (hm : m ≤ 999999) : Chg N h a b e f c d w_off [(n : Int), (m : Int)] nE := by
 have mk := Make_eq (N := N) (by omega) hn hm
 unfold Chg
 rw [show zq49.g N h a b e f c d w_off [(n : Int), (m : Int)] 0 0 nE = (zq25.g N n m).bind fun r3 => bif (!r3.2.2) then some (0, 0, 0, 0, 0, 0, 0, false, true) else (zq23.g N a b r3.1 r3.2.1).bind fun r4 => zq49.d3 N r4.2.2 h r4.1 r4.2.1 e f c d 0 0 0 0 0 0 0 by kernel_rfl, show zq132.g N w_off h a b e f c d nE 0 0 [(n : Int), (m : Int)] = (zq131.g N h a b e f c d nE 0 0 [(n : Int), (m : Int)]).bind fun r3 => bif (!r3.2.2.1) then some (noT, r3.2.2.2.1, r3.2.2.2.2.1, r3.2.2.2.2.2.1, r3.2.2.2.2.2.2.1, r3.2.2.2.2.2.2.2.1, r3.2.2.2.2.2.2.2.2.1, r3.2.2.2.2.2.2.2.2.2.1, r3.2.2.2.2.2.2.2.2.2.2.1, r3.2.2.2.2.2.2.2.2.2.2.2.1, r3.2.2.2.2.2.2.2.2.2.2.2.2.1, r3.2.2.2.2.2.2.2.2.2.2.2.2.2) else (zq117.g N a b r3.1 r3.2.1).bind fun r4 => zq132.d1 N r4.2.2 r3.2.2.2.1 r3.2.2.2.2.1 r3.2.2.2.2.2.1 r3.2.2.2.2.2.2.1 r3.2.2.2.2.2.2.2.1 r3.2.2.2.2.2.2.2.2.1 r3.2.2.2.2.2.2.2.2.2.1 r3.2.2.2.2.2.2.2.2.2.2.1 r3.2.2.2.2.2.2.2.2.2.2.2.1 r3.2.2.2.2.2.2.2.2.2.2.2.2.1 r3.2.2.2.2.2.2.2.2.2.2.2.2.2 h r4.1 r4.2.1 e f c d by kernel_rfl, made_eq, mk.1, mk.2]
 unfold mkT
 by_cases h0 : 1 ≤ m
 ·rw [if_pos h0]
  have hT : Turn (pr n m).1 (pr n m).2 := pr_Turn (by omega) (by omega)
  have q := Less_eq (N := N) (by omega) Td.t hT
  simp only [oB, nT, cF]
  rw [q.1, q.2]
  exact ⟨h, _, _, e, f, c, d, _, fun L => chg_tail (by omega) _ _ _ _ _ _ _ L _ 0 0 _ _ _ _ _ _ _ _ _, rfl⟩
 ·rw [if_neg h0]
  exact ⟨0, 0, 0, 0, 0, 0, 0, false, fun _ => rfl, rfl⟩
theorem c_mirror {N : Nat} (hN : 200000000000000 ≤ N) {h a b e f c d : Nat} (Td : Dial h a b) (K : Clk e f c d) : Chg N h a b e f c d w_mirror nI nE := by
 have q := mirr_eq (N := N) (by omega) Td.t
 unfold Chg
 rw [show zq49.g N h a b e f c d w_mirror nI 0 0 nE = (zq26.g N a b).bind fun r3 => zq49.d3 N r3.2.2 h r3.1 r3.2.1 e f c d 0 0 0 0 0 0 0 by kernel_rfl, show zq132.g N w_mirror h a b e f c d nE 0 0 nI = (zq152.g N a b).bind fun r3 => zq132.d1 N true h a b e f c d nE 0 0 nI h r3.1 r3.2 e f c d by kernel_rfl, q.1, q.2]
 exact ⟨h, _, _, e, f, c, d, true, fun L => chg_tail (by omega) _ _ _ _ _ _ _ L _ 0 0 _ _ _ _ _ _ _ _ true, rfl⟩
theorem c_swap {N : Nat} (hN : 200000000000000 ≤ N) {h a b e f c d : Nat} (Td : Dial h a b) (K : Clk e f c d) : Chg N h a b e f c d w_swap nI nE := by
 have q := ExchangedTime_eq (N := N) (by omega) h a b
 unfold Chg
 rw [show zq49.g N h a b e f c d w_swap nI 0 0 nE = (zq10.g N h a b).bind fun r3 => zq49.d3 N r3.2.2 h r3.1 r3.2.1 e f c d 0 0 0 0 0 0 0 by kernel_rfl, show zq132.g N w_swap h a b e f c d nE 0 0 nI = (zq112.g N h a b).bind fun r3 => zq132.d1 N r3.2.2 h a b e f c d nE 0 0 nI h r3.1 r3.2.1 e f c d by kernel_rfl, q.1, q.2]
 exact ⟨h, _, _, e, f, c, d, _, fun L => chg_tail (by omega) _ _ _ _ _ _ _ L _ 0 0 _ _ _ _ _ _ _ _ _, rfl⟩
theorem a_show {N : Nat} (hN : 200000000000000 ≤ N) {h a b e f c d : Nat} (Td : Dial h a b) (K : Clk e f c d) : Ans N h a b e f c d w_show nI 0 0 := by
 unfold Ans
 rw [show zq46.g N h a b e f c d w_show nI 0 0 nE = (zq37.g N h a b).bind fun r1 => some (r1.1, r1.2) by kernel_rfl, show zq129.g N w_show h a b e f c d nE 0 0 nI = (zq154.g N h a b).bind fun r1 => some (r1, (h : Int), (a : Int), (b : Int), (e : Int), (f : Int), (c : Int), (d : Int), nE, 0, 0, []) by kernel_rfl]
 have q := text_desk (N := N) (by omega) Td.b
 rw [q.1, q.2]
 exact ⟨(txD h a b, true), rfl, rfl⟩
theorem a_where {N : Nat} (hN : 200000000000000 ≤ N) {h a b e f c d : Nat} (Td : Dial h a b) (K : Clk e f c d) : Ans N h a b e f c d w_where nI 0 0 := by
 unfold Ans
 rw [show zq46.g N h a b e f c d w_where nI 0 0 nE = (zq78.g N a b).bind fun r2 => some (r2, true) by kernel_rfl, show zq129.g N w_where h a b e f c d nE 0 0 nI = (zq139.g N a b true).bind fun r1 => some (r1, (h : Int), (a : Int), (b : Int), (e : Int), (f : Int), (c : Int), (d : Int), nE, 0, 0, []) by kernel_rfl]
 have q := fr_gen (N := N) (p := a) (q := b) (by omega) (by have := Td.t.lt; have := Td.t.le; omega) (by have := Td.t.le; omega)
 rw [q.1, q.2.2.1]
 exact ⟨(frT a b, true), rfl, rfl⟩
theorem a_long {N : Nat} (hN : 200000000000000 ≤ N) {h a b e f c d : Nat} (Td : Dial h a b) (K : Clk e f c d) : Ans N h a b e f c d w_long nI 0 0 := by
 unfold Ans
 rw [show zq46.g N h a b e f c d w_long nI 0 0 nE = (zq24.g N h a b).bind fun r3 => (zq77.g N r3.1 r3.2.1 r3.2.2).bind fun r4 => some (r4.1, r4.2) by kernel_rfl, show zq129.g N w_long h a b e f c d nE 0 0 nI = (zq118.g N h a b).bind fun r3 => (zq139.g N r3.1 r3.2.1 r3.2.2).bind fun r4 => some (r4, (h : Int), (a : Int), (b : Int), (e : Int), (f : Int), (c : Int), (d : Int), nE, 0, 0, []) by kernel_rfl]
 have q := Long_yes (N := N) (by omega) Td
 rw [q.1, q.2]
 simp only [oB]
 obtain ⟨y, y1, y2⟩ := turn_ans (N := N) (by omega) (r := r3 (pr (a * h) b)) (show Fr (r3 (pr (a * h) b)) from .inr ⟨_, _, rfl, by have := (pr_spec (n := a * h) Td.p); have := Td.t.le; omega, by have := (pr_spec (n := a * h) Td.p); have := Td.t.le; omega⟩)
 rw [y1, y2]
 exact ⟨y, rfl, rfl⟩
theorem a_angle {N : Nat} (hN : 200000000000000 ≤ N) {h a b e f c d : Nat} (Td : Dial h a b) (K : Clk e f c d) : Ans N h a b e f c d w_angle nI 0 0 := by
 unfold Ans
 rw [show zq46.g N h a b e f c d w_angle nI 0 0 nE = (zq4.g N h a b).bind fun r3 => (zq77.g N r3.1 r3.2.1 r3.2.2).bind fun r4 => some (r4.1, r4.2) by kernel_rfl, show zq129.g N w_angle h a b e f c d nE 0 0 nI = (zq106.g N h a b).bind fun r3 => (zq139.g N r3.1 r3.2.1 r3.2.2).bind fun r4 => some (r4, (h : Int), (a : Int), (b : Int), (e : Int), (f : Int), (c : Int), (d : Int), nE, 0, 0, []) by kernel_rfl]
 have q := Angle_yes (N := N) (by omega) Td
 rw [q.1, q.2]
 simp only [oB]
 obtain ⟨y, y1, y2⟩ := turn_ans (N := N) (by omega) (r := r3 (pr (a * (h - 1)) b)) (show Fr (r3 (pr (a * (h - 1)) b)) from .inr ⟨_, _, rfl, by have := (pr_spec (n := a * (h - 1)) Td.p); have := Td.t.le; omega, by have := (pr_spec (n := a * (h - 1)) Td.p); have := Td.t.le; omega⟩)
 rw [y1, y2]
 exact ⟨y, rfl, rfl⟩
theorem small_bd {n D : Nat} (hD : 0 < D) : (smallV (pr n D)).1 ≤ D ∧ (smallV (pr n D)).2 ≤ D := by
 have h1 := pr_spec (n := n) hD
 have h2 := pr_spec (n := (pr n D).2 - (pr n D).1) (d := (pr n D).2) (by omega)
 unfold smallV
 split <;> omega
theorem a_small {N : Nat} (hN : 200000000000000 ≤ N) {h a b e f c d : Nat} (Td : Dial h a b) (K : Clk e f c d) : Ans N h a b e f c d w_small nI 0 0 := by
 unfold Ans
 rw [show zq46.g N h a b e f c d w_small nI 0 0 nE = (zq34.g N h a b).bind fun r3 => (zq77.g N r3.1 r3.2.1 r3.2.2).bind fun r4 => some (r4.1, r4.2) by kernel_rfl, show zq129.g N w_small h a b e f c d nE 0 0 nI = (zq124.g N h a b).bind fun r3 => (zq139.g N r3.1 r3.2.1 r3.2.2).bind fun r4 => some (r4, (h : Int), (a : Int), (b : Int), (e : Int), (f : Int), (c : Int), (d : Int), nE, 0, 0, []) by kernel_rfl]
 have q := small_yes (N := N) (by omega) Td
 rw [q.1, q.2]
 simp only [oB]
 obtain ⟨y, y1, y2⟩ := turn_ans (N := N) (by omega) (r := r3 (smallV (pr (a * (h - 1)) b))) (show Fr (r3 (smallV (pr (a * (h - 1)) b))) from .inr ⟨_, _, rfl, by have := small_bd (n := a * (h - 1)) Td.p; have := Td.t.le; omega, by have := small_bd (n := a * (h - 1)) Td.p; have := Td.t.le; omega⟩)
 rw [y1, y2]
 exact ⟨y, rfl, rfl⟩
theorem a_with {N : Nat} (hN : 200000000000000 ≤ N) {h a b e f c d : Nat} (Td : Dial h a b) (K : Clk e f c d) (n m : Nat) (hn : n ≤ 999999) (hm : m ≤ 999999) : Ans N h a b e f c d w_with [(n : Int), (m : Int)] 0 0 := by
 unfold Ans
 rw [show zq46.g N h a b e f c d w_with [(n : Int), (m : Int)] 0 0 nE = (zq80.g N h n m).bind fun r11 => some (r11.1, r11.2) by kernel_rfl, show zq129.g N w_with h a b e f c d nE 0 0 [(n : Int), (m : Int)] = (zq131.g N h a b e f c d nE 0 0 [(n : Int), (m : Int)]).bind fun r9 => bif (!r9.2.2.1) then some (noT, r9.2.2.2.1, r9.2.2.2.2.1, r9.2.2.2.2.2.1, r9.2.2.2.2.2.2.1, r9.2.2.2.2.2.2.2.1, r9.2.2.2.2.2.2.2.2.1, r9.2.2.2.2.2.2.2.2.2.1, r9.2.2.2.2.2.2.2.2.2.2.1, r9.2.2.2.2.2.2.2.2.2.2.2.1, r9.2.2.2.2.2.2.2.2.2.2.2.2.1, r9.2.2.2.2.2.2.2.2.2.2.2.2.2) else (zq127.g N h r9.1 r9.2.1).bind fun r10 => (zq140.g N r10.1 r10.2).bind fun r11 => some (r11, r9.2.2.2.1, r9.2.2.2.2.1, r9.2.2.2.2.2.1, r9.2.2.2.2.2.2.1, r9.2.2.2.2.2.2.2.1, r9.2.2.2.2.2.2.2.2.1, r9.2.2.2.2.2.2.2.2.2.1, r9.2.2.2.2.2.2.2.2.2.2.1, r9.2.2.2.2.2.2.2.2.2.2.2.1, r9.2.2.2.2.2.2.2.2.2.2.2.2.1, r9.2.2.2.2.2.2.2.2.2.2.2.2.2) by kernel_rfl]
 obtain ⟨y, y1, y2⟩ := with_reply (N := N) (k := h) (by omega) hn hm
 rw [y1, made_eq, (Make_eq (N := N) (by omega) hn hm).2]
 refine ⟨y, rfl, ?_⟩
 simp only [oB]
 rcases y2 with ⟨k1, k2⟩ | ⟨k1, k2⟩
 ·rw [k1]
  have : reply y = noT := by unfold reply; rw [k2]; rfl
  rw [this]; rfl
 ·rw [k1, nT, cF, (With_eq (by omega) _ _ _).2, oB, k2]; rfl
theorem Fr_sh {e f c d : Nat} (K : Clk e f c d) {s1 s2 : Int} (hs : s1 = 0 ∧ s2 = 0 ∨ spanB s1 s2 = true) (l : Int) : Fr (shV e f c d s1 s2 l) := by
 unfold shV
 split
 ·rename_i hc
  rw [Bool.and_eq_true] at hc
  obtain ⟨x, y, rfl, rfl, x1, y1, y2⟩ := spanB_nat hc.2
  simp only [tN]
  have hp : 0 < y * d * f := Nat.mul_pos (Nat.mul_pos y1 K.d1) (Nat.lt_of_le_of_lt (Nat.zero_le _) K.t.lt)
  obtain ⟨m, k, _, e'⟩ := prZ_rep ((x : Int) * ((c : Int) - l * (d : Int)) * (f : Int) + (e : Int) * ((y * d : Nat) : Int)) hp
  rw [e']
  exact Fr.pr hp
 ·exact .inl rfl
theorem a_shown {N : Nat} (hN : 200000000000000 ≤ N) {h a b e f c d : Nat} (Td : Dial h a b) (K : Clk e f c d) (s1 s2 : Int) (hs : s1 = 0 ∧ s2 = 0 ∨ spanB s1 s2 = true) : Ans N h a b e f c d w_shown nI s1 s2 := by
 unfold Ans
 rw [show zq46.g N h a b e f c d w_shown nI s1 s2 nE = (zq33.g N e f c d s1 s2).bind fun r3 => (zq77.g N r3.1 r3.2.1 r3.2.2).bind fun r4 => some (r4.1, r4.2) by kernel_rfl, show zq129.g N w_shown h a b e f c d nE s1 s2 nI = (zq123.g N e f c d s1 s2).bind fun r3 => (zq139.g N r3.1 r3.2.1 r3.2.2).bind fun r4 => some (r4, (h : Int), (a : Int), (b : Int), (e : Int), (f : Int), (c : Int), (d : Int), nE, s1, s2, []) by kernel_rfl]
 have q := Shown_eq (N := N) (by omega) e f c d s1 s2
 rw [q.1, q.2]
 simp only [oB]
 obtain ⟨y, y1, y2⟩ := turn_ans (N := N) (by omega) (Fr_sh K hs _)
 rw [y1, y2]
 exact ⟨y, rfl, rfl⟩
theorem a_ahead {N : Nat} (hN : 200000000000000 ≤ N) {h a b e f c d : Nat} (Td : Dial h a b) (K : Clk e f c d) (s1 s2 : Int) (hs : s1 = 0 ∧ s2 = 0 ∨ spanB s1 s2 = true) : Ans N h a b e f c d w_ahead nI s1 s2 := by
 unfold Ans
 rw [show zq46.g N h a b e f c d w_ahead nI s1 s2 nE = (zq3.g N e f c d s1 s2).bind fun r3 => (zq77.g N r3.1 r3.2.1 r3.2.2).bind fun r4 => some (r4.1, r4.2) by kernel_rfl, show zq129.g N w_ahead h a b e f c d nE s1 s2 nI = (zq105.g N e f c d s1 s2).bind fun r3 => (zq139.g N r3.1 r3.2.1 r3.2.2).bind fun r4 => some (r4, (h : Int), (a : Int), (b : Int), (e : Int), (f : Int), (c : Int), (d : Int), nE, s1, s2, []) by kernel_rfl]
 have q := Ahead_eq (N := N) (by omega) e f c d s1 s2
 rw [q.1, q.2]
 simp only [oB]
 obtain ⟨y, y1, y2⟩ := turn_ans (N := N) (by omega) (Fr_sh K hs _)
 rw [y1, y2]
 exact ⟨y, rfl, rfl⟩
theorem a_right {N : Nat} (hN : 200000000000000 ≤ N) {h a b e f c d : Nat} (Td : Dial h a b) (K : Clk e f c d) : Ans N h a b e f c d w_right nI 0 0 := by
 unfold Ans
 rw [show zq46.g N h a b e f c d w_right nI 0 0 nE = (zq13.g N e f c d).bind fun r3 => (zq74.g N r3.1 r3.2.1 r3.2.2).bind fun r4 => some (r4.1, r4.2) by kernel_rfl, show zq129.g N w_right h a b e f c d nE 0 0 nI = (zq115.g N e f c d).bind fun r3 => (zq136.g N r3.1 r3.2.1 r3.2.2).bind fun r4 => some (r4, (h : Int), (a : Int), (b : Int), (e : Int), (f : Int), (c : Int), (d : Int), nE, 0, 0, []) by kernel_rfl]
 obtain ⟨r, q1, q2, q3⟩ := First_eq (N := N) (by omega) K
 rw [q1, q2]
 simp only [oB]
 obtain ⟨y, y1, y2⟩ := span_ans (N := N) (by omega) (Fr.sp q3)
 rw [y1, y2]
 exact ⟨y, rfl, rfl⟩
theorem a_every {N : Nat} (hN : 200000000000000 ≤ N) {h a b e f c d : Nat} (Td : Dial h a b) (K : Clk e f c d) : Ans N h a b e f c d w_every nI 0 0 := by
 unfold Ans
 rw [show zq46.g N h a b e f c d w_every nI 0 0 nE = (zq29.g N e f c d).bind fun r3 => (zq74.g N r3.1 r3.2.1 r3.2.2).bind fun r4 => some (r4.1, r4.2) by kernel_rfl, show zq129.g N w_every h a b e f c d nE 0 0 nI = (zq121.g N e f c d).bind fun r3 => (zq136.g N r3.1 r3.2.1 r3.2.2).bind fun r4 => some (r4, (h : Int), (a : Int), (b : Int), (e : Int), (f : Int), (c : Int), (d : Int), nE, 0, 0, []) by kernel_rfl]
 obtain ⟨r, q1, q2, q3⟩ := Every_eq (N := N) (by omega) K
 rw [q1, q2]
 simp only [oB]
 obtain ⟨y, y1, y2⟩ := span_ans (N := N) (by omega) (Fr.sp q3)
 rw [y1, y2]
 exact ⟨y, rfl, rfl⟩
theorem a_unsure {N : Nat} (hN : 200000000000000 ≤ N) {h a b e f c d : Nat} (Td : Dial h a b) (K : Clk e f c d) : Ans N h a b e f c d w_unsure nI 0 0 := by
 unfold Ans
 rw [show zq46.g N h a b e f c d w_unsure nI 0 0 nE = (zq7.g N h).bind fun r20 => (zq184.g N r20.1).bind fun r21 => some (r21, r20.2) by kernel_rfl, show zq129.g N w_unsure h a b e f c d nE 0 0 nI = (zq108.g N h).bind fun r20 => (zq175.g N r20.1).bind fun r21 => some (r21, (h : Int), (a : Int), (b : Int), (e : Int), (f : Int), (c : Int), (d : Int), nE, 0, 0, []) by kernel_rfl]
 have q := Count_eq (N := N) Td.k1 Td.k2
 have hk : h * h ≤ 24 * 24 := Nat.mul_le_mul Td.k2 Td.k2
 rw [q.1, q.2]
 simp only [oB]
 rw [itoa_eq N (by omega), num_eq (by omega) (by omega)]
 exact ⟨(bsOf (Lib.decDigits (h * h - h)), true), rfl, rfl⟩
theorem a_other {N : Nat} (hN : 200000000000000 ≤ N) {h a b e f c d : Nat} (Td : Dial h a b) (K : Clk e f c d) (n : Nat) : Ans N h a b e f c d w_other [(n : Int)] 0 0 := by
 unfold Ans
 rw [show zq46.g N h a b e f c d w_other [(n : Int)] 0 0 nE = (zq35.g N h n a b).bind fun r22 => some (r22.1, r22.2) by kernel_rfl, show zq129.g N w_other h a b e f c d nE 0 0 [(n : Int)] = (zq125.g N h n a b).bind fun r23 => bif (!r23.2) then some (noT, (h : Int), (a : Int), (b : Int), (e : Int), (f : Int), (c : Int), (d : Int), nE, 0, 0, [(n : Int)]) else some (r23.1, (h : Int), (a : Int), (b : Int), (e : Int), (f : Int), (c : Int), (d : Int), nE, 0, 0, [(n : Int)]) by kernel_rfl]
 obtain ⟨r, q1, q2, _⟩ := Tell_eq (N := N) (by omega) (h : Int) n a b
 rw [q1, q2]
 refine ⟨r, rfl, ?_⟩
 obtain ⟨r1, r2⟩ := r
 cases r2 <;> rfl
theorem a_leap {N : Nat} (hN : 200000000000000 ≤ N) {h a b e f c d : Nat} (Td : Dial h a b) (K : Clk e f c d) (n : Nat) (hn : n ≤ 999999) : Ans N h a b e f c d w_leap [(n : Int)] 0 0 := by
 unfold Ans
 rw [show zq46.g N h a b e f c d w_leap [(n : Int)] 0 0 nE = (zq66.g N n).bind fun r24 => some (r24.1, r24.2) by kernel_rfl, show zq129.g N w_leap h a b e f c d nE 0 0 [(n : Int)] = (zq116.g N 4 100 400 n).bind fun r25 => bif (!r25.2) then some (noT, (h : Int), (a : Int), (b : Int), (e : Int), (f : Int), (c : Int), (d : Int), nE, 0, 0, [(n : Int)]) else bif r25.1 then some ((⟨#[121, 101, 115]⟩ : ByteArray), (h : Int), (a : Int), (b : Int), (e : Int), (f : Int), (c : Int), (d : Int), nE, 0, 0, [(n : Int)]) else some ((⟨#[110, 111, 116]⟩ : ByteArray), (h : Int), (a : Int), (b : Int), (e : Int), (f : Int), (c : Int), (d : Int), nE, 0, 0, [(n : Int)]) by kernel_rfl]
 obtain ⟨r, x, q1, q2, q3⟩ := leap_reply (N := N) hn
 rw [q1, q2]
 refine ⟨x, rfl, ?_⟩
 subst q3
 obtain ⟨r1, r2⟩ := r
 cases r1 <;> cases r2 <;> rfl
theorem a_best {N : Nat} (hN : 200000000000000 ≤ N) {h a b e f c d : Nat} (Td : Dial h a b) (K : Clk e f c d) (n m o : Nat) : Ans N h a b e f c d w_best [(n : Int), (m : Int), (o : Int)] 0 0 := by
 unfold Ans
 rw [show zq46.g N h a b e f c d w_best [(n : Int), (m : Int), (o : Int)] 0 0 nE = (zq47.g N n m o).bind fun r26 => some (r26.1, r26.2) by kernel_rfl, show zq129.g N w_best h a b e f c d nE 0 0 [(n : Int), (m : Int), (o : Int)] = (zq107.g N n m o).bind fun r29 => bif (!r29.2) then some (noT, (h : Int), (a : Int), (b : Int), (e : Int), (f : Int), (c : Int), (d : Int), nE, 0, 0, [(n : Int), (m : Int), (o : Int)]) else zq129.l1 N N r29.1 (r29.1.length : Int) 0 h a b e f c d nE 0 0 [(n : Int), (m : Int), (o : Int)] by kernel_rfl]
 obtain ⟨x, r, q1, q2, q3, q4⟩ := best_reply (N := N) (by omega) n m o
 rw [q1, q2]
 refine ⟨x, rfl, ?_⟩
 simp only [oB]
 cases hr : r.2 with
 | false =>
  have : reply x = noT := by unfold reply; rw [← q3, hr]; rfl
  rw [this]; rfl
 | true =>
  have : reply x = x.1 := by unfold reply; rw [← q3, hr]; rfl
  rw [nT, cF, q4 _ _ _ _ _ _ _ _ _ _ _ hr, this]
noncomputable def movB (r1 : zq132.R) : Option zq137.R := some (r1.2.1, r1.2.2.1, r1.2.2.2.1, r1.2.2.2.2.1, r1.2.2.2.2.2.1, r1.2.2.2.2.2.2.1, r1.2.2.2.2.2.2.2.1, r1.1)
noncomputable def rdB (N : Nat) (h a b e f c d : Int) (L : List ByteArray) (w : ByteArray) (r1 : zq68.R) : Option zq48.R := bif (!r1.2.2.2.2) then some (h, a, b, e, f, c, d, whatT) else (zq49.g N h a b e f c d w r1.1 r1.2.1 r1.2.2.1 r1.2.2.2.1).bind (chgB N h a b e f c d L r1.1 r1.2.1 r1.2.2.1 r1.2.2.2.1)
def Same (h a b e f c d : Int) (x : Option zq48.R) (y : Option zq137.R) : Prop := ∃ (q1 q2 q3 q4 q5 q6 q7 : Int) (t : ByteArray), x = some (q1, q2, q3, q4, q5, q6, q7, t) ∧ y = some (q1, q2, q3, q4, q5, q6, q7, t) ∧ deskB q1 q2 q3 q4 q5 q6 q7 = true ∧ ((q1, q2, q3, q4, q5, q6, q7) = (h, a, b, e, f, c, d) ∨ t = txD q1 q2 q3)
def Both (N : Nat) (h a b e f c d : Int) (L : List ByteArray) : Prop := Same h a b e f c d (carB N h a b e f c d L) ((reaB N h a b e f c d L).bind (stpB N h a b e f c d))
def After (N : Nat) (h a b e f c d : Int) (ws : List ByteArray) (w : ByteArray) (n : List Int) (s1 s2 : Int) (x : ByteArray) : Prop := Same h a b e f c d ((zq49.g N h a b e f c d w n s1 s2 x).bind (chgB N h a b e f c d (w :: ws) n s1 s2 x)) (stpB N h a b e f c d (w, h, a, b, e, f, c, d, x, s1, s2, n, true))
theorem same_bad {h a b e f c d : Int} (hd : deskB h a b e f c d = true) {t : ByteArray} {x : Option zq48.R} {y : Option zq137.R} (h1 : x = some (h, a, b, e, f, c, d, t)) (h2 : y = some (h, a, b, e, f, c, d, t)) : Same h a b e f c d x y := ⟨_, _, _, _, _, _, _, t, h1, h2, hd, .inl rfl⟩
theorem desk_of {h a b e f c d : Nat} (Td : Dial h a b) (K : Clk e f c d) : deskB h a b e f c d = true := by
 unfold deskB
 rw [Td.b, K.b]; rfl
theorem after_chg {N : Nat} (hN : 10000000 ≤ N) {h a b e f c d : Int} (hd : deskB h a b e f c d = true) {w : ByteArray} {n : List Int} {x : ByteArray} (ws : List ByteArray) (hc : Chg N h a b e f c d w n x) (hs : stpB N h a b e f c d (w, h, a, b, e, f, c, d, x, 0, 0, n, true) = (zq132.g N w h a b e f c d x 0 0 n).bind movB) : After N h a b e f c d ws w n 0 0 x := by
 obtain ⟨h', a', b', e', f', c', d', ok, k1, k2⟩ := hc
 obtain ⟨y, z, u, v, e1⟩ := mov_tail hN h a b e f c d x 0 0 n h' a' b' e' f' c' d' ok
 obtain ⟨q1, q2, q3, q4, q5, q6, q7, t, e2, e3, e4⟩ := chgR_ok (h' := h') (a' := a') (b' := b') (e' := e') (f' := f') (c' := c') (d' := d') (ok := ok) hd
 rw [e2] at e1
 refine ⟨q1, q2, q3, q4, q5, q6, q7, t, (k1 _).trans (congrArg some e2), ?_, e3, e4⟩
 rw [hs, k2, e1]; rfl
theorem ask_tail (N : Nat) (h a b e f c d : Int) (w : ByteArray) (ws : List ByteArray) (n : List Int) (s1 s2 : Int) (x : ByteArray) : chgB N h a b e f c d (w :: ws) n s1 s2 x (0, 0, 0, 0, 0, 0, 0, false, false) = (zq46.g N h a b e f c d w n s1 s2 x).bind fun r2 => zq48.d4 N r2.2 r2.1 h a b e f c d 0 0 0 0 0 0 0 h a b e f c d := by
 show zq48.d2 N (w :: ws) false false ⟨#[]⟩ false h a b e f c d 0 0 0 0 0 0 0 n s1 s2 x 0 0 0 0 0 0 0 = _
 unfold zq48.d2 zq48.o2 zq48.d3 zq48.o3
 simp only [cF, nF, cT]
 rw [dcT (by simp only [List.length_cons]; omega), cT]
 rfl
theorem after_ans {N : Nat} {h a b e f c d : Int} (hd : deskB h a b e f c d = true) {w : ByteArray} {n : List Int} {s1 s2 : Int} (ws : List ByteArray) (ha : Ans N h a b e f c d w n s1 s2) (hi : zq49.g N h a b e f c d w n s1 s2 nE = some (0, 0, 0, 0, 0, 0, 0, false, false)) (hs : stpB N h a b e f c d (w, h, a, b, e, f, c, d, nE, s1, s2, n, true) = (zq129.g N w h a b e f c d nE s1 s2 n).bind fun r2 => some (h, a, b, e, f, c, d, r2.1)) : After N h a b e f c d ws w n s1 s2 nE := by
 obtain ⟨y, k1, k2⟩ := ha
 refine same_bad hd (t := reply y) ?_ ?_
 ·rw [hi, oB, ask_tail, k1, oB, ans_i _ _ _ _ _ _ _ _ []]
 ·rw [hs, k2]; rfl
theorem len_w {w : ByteArray} {ws : List ByteArray} (hb : ws.length ≤ 1000000) : w64 (((w :: ws).length : Int) - 1) = (ws.length : Int) := by
 rw [w64s (by simp only [List.length_cons]; omega) (by simp only [List.length_cons]; omega)]
 simp only [List.length_cons]; omega
theorem pre_car (N : Nat) (h a b e f c d : Int) (w : ByteArray) (ws : List ByteArray) (F : ByteArray) (ok : Bool) (hf : zq53.g N w = some (F, ok)) : carB N h a b e f c d (w :: ws) = (bif (!ok) then zq48.d1 N (w :: ws) F true h a b e f c d 0 0 0 0 0 0 0 else zq48.d1 N (w :: ws) F ((w64 (((w :: ws).length : Int) - 1)) != (F.size : Int)) h a b e f c d 0 0 0 0 0 0 0) := by
 unfold carB
 rw [dcT (by simp only [List.length_cons]; omega), cT]
 rw [show (w :: ws)[Int.toNat 0]? = some w from rfl, oB, hf]; rfl
theorem car_rd (N : Nat) (h a b e f c d : Int) (w : ByteArray) (ws : List ByteArray) (F : ByteArray) (hb : ws.length ≤ 1000000) (hf : zq53.g N w = some (F, true)) (hl : ws.length = F.size) : carB N h a b e f c d (w :: ws) = (zq68.g N F ws).bind (rdB N h a b e f c d (w :: ws) w) := by
 rw [pre_car N h a b e f c d w ws F true hf, nT, cF, len_w hb, ineF (show (ws.length : Int) = (F.size : Int) by omega)]
 unfold zq48.d1 zq48.o1
 rw [cF, dcT (by omega), cT, dcT (Int.le_refl _), cT, dcT (by simp only [List.length_cons]; omega), cT, tN, List.take_length, dcT (show (0 : Int) < ((w :: ws).length : Int) by simp only [List.length_cons]; omega)]
 rfl
theorem rea_rd (N : Nat) (h a b e f c d : Int) (w : ByteArray) (ws : List ByteArray) (S : ByteArray) (hb : ws.length ≤ 1000000) (hs : zq135.g N w = some S) (hl : ws.length = S.size) : reaB N h a b e f c d (w :: ws) = zq133.l1 N N (w :: ws) S ws (ws.length : Int) 0 0 0 0 0 0 0 0 ⟨#[]⟩ 0 0 h a b e f c d ⟨#[]⟩ 0 0 := by
 unfold reaB
 rw [dcT (by simp only [List.length_cons]; omega), cT]
 rw [show (w :: ws)[Int.toNat 0]? = some w from rfl, oB, hs, oB, len_w hb, ineF (show (S.size : Int) = (ws.length : Int) by omega), cF, dcT (by omega), cT, dcT (Int.le_refl _), cT, dcT (by simp only [List.length_cons]; omega), cT, tN, List.take_length]
 rfl
theorem pre_rea (N : Nat) (h a b e f c d : Int) (w : ByteArray) (ws : List ByteArray) (S : ByteArray) (hb : ws.length ≤ 1000000) (hs : zq135.g N w = some S) (hl : ws.length ≠ S.size) : reaB N h a b e f c d (w :: ws) = some (nE, h, a, b, e, f, c, d, nE, 0, 0, nI, false) := by
 unfold reaB
 rw [dcT (by simp only [List.length_cons]; omega), cT]
 rw [show (w :: ws)[Int.toNat 0]? = some w from rfl, oB, hs, oB, len_w hb, ineT (show ¬ (S.size : Int) = (ws.length : Int) by omega)]; rfl
theorem both_len {N : Nat} {h a b e f c d : Int} {w : ByteArray} {ws : List ByteArray} {F S : ByteArray} (hd : deskB h a b e f c d = true) (hb : ws.length ≤ 1000000) (hf : zq53.g N w = some (F, true)) (hs : zq135.g N w = some S) (he : S.size = F.size) (hl : ws.length ≠ F.size) : Both N h a b e f c d (w :: ws) := by
 refine same_bad hd (t := whatT) ?_ ?_
 ·rw [pre_car N h a b e f c d w ws F true hf, nT, cF, len_w hb, ineT (show ¬ (ws.length : Int) = (F.size : Int) by omega)]; rfl
 ·rw [pre_rea N h a b e f c d w ws S hb hs (by omega)]; rfl
theorem rI_0 (M : Nat) : zq68.g (M + 9) nE [] = some (nI, 0, 0, nE, true) := by kernel_rfl
theorem rS_0 (M : Nat) (h a b e f c d : Int) (w : ByteArray) : zq133.l1 (M + 9) (M + 9) [w] nE [] 0 0 0 0 0 0 0 0 0 ⟨#[]⟩ 0 0 h a b e f c d ⟨#[]⟩ 0 0 = some (w, h, a, b, e, f, c, d, nE, 0, 0, nI, true) := by kernel_rfl
theorem form_0 {M : Nat} (hN : 200000000000000 ≤ M + 9) {h a b e f c d : Int} (hd : deskB h a b e f c d = true) {w : ByteArray} (hf : zq53.g (M + 9) w = some (nE, true)) (hs : zq135.g (M + 9) w = some nE) (K : After (M + 9) h a b e f c d [] w nI 0 0 nE) : Both (M + 9) h a b e f c d [w] := by
 unfold Both
 rw [car_rd (M + 9) h a b e f c d w [] nE (by simp) hf rfl, rea_rd (M + 9) h a b e f c d w [] nE (by simp) hs rfl, rI_0]
 rw [show (([] : List ByteArray).length : Int) = 0 from rfl, rS_0]
 exact K
theorem rI_T (M : Nat) (p : ByteArray) : zq68.g (M + 9) f_T [p] = some (nI, 0, 0, p, true) := by kernel_rfl
theorem rS_T (M : Nat) (h a b e f c d : Int) (w : ByteArray) (p : ByteArray) : zq133.l1 (M + 9) (M + 9) [w, p] g_T [p] 1 0 0 0 0 0 0 0 0 ⟨#[]⟩ 0 0 h a b e f c d ⟨#[]⟩ 0 0 = some (w, h, a, b, e, f, c, d, p, 0, 0, nI, true) := by kernel_rfl
theorem form_T {M : Nat} (hN : 200000000000000 ≤ M + 9) {h a b e f c d : Int} (hd : deskB h a b e f c d = true) {w : ByteArray} (hf : zq53.g (M + 9) w = some (f_T, true)) (hs : zq135.g (M + 9) w = some g_T) (p : ByteArray) (hp : p.size ≤ 1000000) (K : After (M + 9) h a b e f c d [p] w nI 0 0 p) : Both (M + 9) h a b e f c d [w, p] := by
 unfold Both
 rw [car_rd (M + 9) h a b e f c d w [p] f_T (by simp) hf rfl, rea_rd (M + 9) h a b e f c d w [p] g_T (by simp) hs rfl, rI_T]
 rw [show (([p] : List ByteArray).length : Int) = 1 from rfl, rS_T]
 exact K
theorem rI_S (M : Nat) (p : ByteArray) : zq68.g (M + 9) f_S [p] = (zq27.g (M + 9) p).bind fun r3 => bif (!r3.2.2) then some (nI, (0 : Int), (0 : Int), nE, false) else some (nI, r3.1, r3.2.1, nE, true) := by kernel_rfl
theorem rS_S (M : Nat) (h a b e f c d : Int) (w : ByteArray) (p : ByteArray) : zq133.l1 (M + 9) (M + 9) [w, p] g_S [p] 1 0 0 0 0 0 0 0 0 ⟨#[]⟩ 0 0 h a b e f c d ⟨#[]⟩ 0 0 = (zq120.g (M + 9) p).bind fun r3 => bif (!r3.2.2) then some (nE, h, a, b, e, f, c, d, nE, r3.1, r3.2.1, nI, false) else some (w, h, a, b, e, f, c, d, nE, r3.1, r3.2.1, nI, true) := by kernel_rfl
theorem form_S {M : Nat} (hN : 200000000000000 ≤ M + 9) {h a b e f c d : Int} (hd : deskB h a b e f c d = true) {w : ByteArray} (hf : zq53.g (M + 9) w = some (f_S, true)) (hs : zq135.g (M + 9) w = some g_S) (p : ByteArray) (hp : p.size ≤ 1000000) (K : ∀ s1 s2 : Int, spanB s1 s2 = true → After (M + 9) h a b e f c d [p] w nI s1 s2 nE) : Both (M + 9) h a b e f c d [w, p] := by
 unfold Both
 rw [car_rd (M + 9) h a b e f c d w [p] f_S (by simp) hf rfl, rea_rd (M + 9) h a b e f c d w [p] g_S (by simp) hs rfl, rI_S]
 rw [show (([p] : List ByteArray).length : Int) = 1 from rfl, rS_S]
 obtain ⟨r, i0, j0, hr⟩ := ParseSpan_eq (N := M + 9) (by omega) p hp
 rw [i0, j0]
 rcases hr with rfl | ⟨s1, s2, rfl, hsp⟩
 ·exact same_bad hd (t := whatT) rfl rfl
 ·exact K _ _ hsp
theorem rI_N (M : Nat) (p : ByteArray) : zq68.g (M + 9) f_N [p] = (zq69.g (M + 9) p 999999).bind fun r1 => bif (!r1.2) then some (nI, (0 : Int), (0 : Int), nE, false) else some ([r1.1], 0, 0, nE, true) := by kernel_rfl
theorem rS_N (M : Nat) (h a b e f c d : Int) (w : ByteArray) (p : ByteArray) : zq133.l1 (M + 9) (M + 9) [w, p] g_N [p] 1 0 0 0 0 0 0 0 0 ⟨#[]⟩ 0 0 h a b e f c d ⟨#[]⟩ 0 0 = (zq176.g (M + 9) p).bind fun r1 => bif (!(decide (r1 ≥ 0))) then some (nE, h, a, b, e, f, c, d, nE, 0, 0, [r1], false) else some (w, h, a, b, e, f, c, d, nE, 0, 0, [r1], true) := by kernel_rfl
theorem form_N {M : Nat} (hN : 200000000000000 ≤ M + 9) {h a b e f c d : Int} (hd : deskB h a b e f c d = true) {w : ByteArray} (hf : zq53.g (M + 9) w = some (f_N, true)) (hs : zq135.g (M + 9) w = some g_N) (p : ByteArray) (hp : p.size ≤ 1000000) (K : ∀ n : Nat, n ≤ 999999 → After (M + 9) h a b e f c d [p] w [(n : Int)] 0 0 nE) : Both (M + 9) h a b e f c d [w, p] := by
 unfold Both
 rw [car_rd (M + 9) h a b e f c d w [p] f_N (by simp) hf rfl, rea_rd (M + 9) h a b e f c d w [p] g_N (by simp) hs rfl, rI_N]
 rw [show (([p] : List ByteArray).length : Int) = 1 from rfl, rS_N]
 rcases word_num (N := M + 9) (by omega) p (by omega) with ⟨n, hn, i0, j0⟩ | ⟨i0, z, hz, j0⟩
 rotate_left
 ·rw [i0, j0]
  refine same_bad hd (t := whatT) rfl ?_
  simp only [oB, dcF (show ¬ z ≥ 0 by omega), nF, nT, cT, cF]
  rfl
 rw [i0, j0]
 have := K n hn
 simp only [oB, dcT (show (n : Int) ≥ 0 by omega), nT, cF]
 exact this
theorem rI_NN (M : Nat) (p q : ByteArray) : zq68.g (M + 9) f_NN [p, q] = (zq69.g (M + 9) p 999999).bind fun r1 => bif (!r1.2) then some (nI, (0 : Int), (0 : Int), nE, false) else (zq69.g (M + 9) q 999999).bind fun r2 => bif (!r2.2) then some (nI, (0 : Int), (0 : Int), nE, false) else some ([r1.1, r2.1], 0, 0, nE, true) := by kernel_rfl
theorem rS_NN (M : Nat) (h a b e f c d : Int) (w : ByteArray) (p q : ByteArray) : zq133.l1 (M + 9) (M + 9) [w, p, q] g_NN [p, q] 2 0 0 0 0 0 0 0 0 ⟨#[]⟩ 0 0 h a b e f c d ⟨#[]⟩ 0 0 = (zq176.g (M + 9) p).bind fun r1 => bif (!(decide (r1 ≥ 0))) then some (nE, h, a, b, e, f, c, d, nE, 0, 0, [r1], false) else (zq176.g (M + 9) q).bind fun r2 => bif (!(decide (r2 ≥ 0))) then some (nE, h, a, b, e, f, c, d, nE, 0, 0, [r1, r2], false) else some (w, h, a, b, e, f, c, d, nE, 0, 0, [r1, r2], true) := by kernel_rfl
theorem form_NN {M : Nat} (hN : 200000000000000 ≤ M + 9) {h a b e f c d : Int} (hd : deskB h a b e f c d = true) {w : ByteArray} (hf : zq53.g (M + 9) w = some (f_NN, true)) (hs : zq135.g (M + 9) w = some g_NN) (p q : ByteArray) (hp : p.size ≤ 1000000) (hq : q.size ≤ 1000000) (K : ∀ n m : Nat, n ≤ 999999 → m ≤ 999999 → After (M + 9) h a b e f c d [p, q] w [(n : Int), (m : Int)] 0 0 nE) : Both (M + 9) h a b e f c d [w, p, q] := by
 unfold Both
 rw [car_rd (M + 9) h a b e f c d w [p, q] f_NN (by simp) hf rfl, rea_rd (M + 9) h a b e f c d w [p, q] g_NN (by simp) hs rfl, rI_NN]
 rw [show (([p, q] : List ByteArray).length : Int) = 2 from rfl, rS_NN]
 rcases word_num (N := M + 9) (by omega) p (by omega) with ⟨n, hn, i0, j0⟩ | ⟨i0, z, hz, j0⟩
 rotate_left
 ·rw [i0, j0]
  refine same_bad hd (t := whatT) rfl ?_
  simp only [oB, dcF (show ¬ z ≥ 0 by omega), nF, nT, cT, cF]
  rfl
 rw [i0, j0]
 rcases word_num (N := M + 9) (by omega) q (by omega) with ⟨m, hm, i1, j1⟩ | ⟨i1, z, hz, j1⟩
 rotate_left
 ·rw [i1, j1]
  refine same_bad hd (t := whatT) rfl ?_
  simp only [oB, dcT (show (n : Int) ≥ 0 by omega), dcF (show ¬ z ≥ 0 by omega), nF, nT, cT, cF]
  rfl
 rw [i1, j1]
 have := K n m hn hm
 simp only [oB, dcT (show (n : Int) ≥ 0 by omega), dcT (show (m : Int) ≥ 0 by omega), nT, cF]
 exact this
theorem rI_NNN (M : Nat) (p q r : ByteArray) : zq68.g (M + 9) f_NNN [p, q, r] = (zq69.g (M + 9) p 999999).bind fun r1 => bif (!r1.2) then some (nI, (0 : Int), (0 : Int), nE, false) else (zq69.g (M + 9) q 999999).bind fun r2 => bif (!r2.2) then some (nI, (0 : Int), (0 : Int), nE, false) else (zq69.g (M + 9) r 999999).bind fun r3 => bif (!r3.2) then some (nI, (0 : Int), (0 : Int), nE, false) else some ([r1.1, r2.1, r3.1], 0, 0, nE, true) := by kernel_rfl
theorem rS_NNN (M : Nat) (h a b e f c d : Int) (w : ByteArray) (p q r : ByteArray) : zq133.l1 (M + 9) (M + 9) [w, p, q, r] g_NNN [p, q, r] 3 0 0 0 0 0 0 0 0 ⟨#[]⟩ 0 0 h a b e f c d ⟨#[]⟩ 0 0 = (zq176.g (M + 9) p).bind fun r1 => bif (!(decide (r1 ≥ 0))) then some (nE, h, a, b, e, f, c, d, nE, 0, 0, [r1], false) else (zq176.g (M + 9) q).bind fun r2 => bif (!(decide (r2 ≥ 0))) then some (nE, h, a, b, e, f, c, d, nE, 0, 0, [r1, r2], false) else (zq176.g (M + 9) r).bind fun r3 => bif (!(decide (r3 ≥ 0))) then some (nE, h, a, b, e, f, c, d, nE, 0, 0, [r1, r2, r3], false) else some (w, h, a, b, e, f, c, d, nE, 0, 0, [r1, r2, r3], true) := by kernel_rfl
theorem form_NNN {M : Nat} (hN : 200000000000000 ≤ M + 9) {h a b e f c d : Int} (hd : deskB h a b e f c d = true) {w : ByteArray} (hf : zq53.g (M + 9) w = some (f_NNN, true)) (hs : zq135.g (M + 9) w = some g_NNN) (p q r : ByteArray) (hp : p.size ≤ 1000000) (hq : q.size ≤ 1000000) (hr : r.size ≤ 1000000) (K : ∀ n m o : Nat, n ≤ 999999 → m ≤ 999999 → o ≤ 999999 → After (M + 9) h a b e f c d [p, q, r] w [(n : Int), (m : Int), (o : Int)] 0 0 nE) : Both (M + 9) h a b e f c d [w, p, q, r] := by
 unfold Both
 rw [car_rd (M + 9) h a b e f c d w [p, q, r] f_NNN (by simp) hf rfl, rea_rd (M + 9) h a b e f c d w [p, q, r] g_NNN (by simp) hs rfl, rI_NNN]
 rw [show (([p, q, r] : List ByteArray).length : Int) = 3 from rfl, rS_NNN]
 rcases word_num (N := M + 9) (by omega) p (by omega) with ⟨n, hn, i0, j0⟩ | ⟨i0, z, hz, j0⟩
 rotate_left
 ·rw [i0, j0]
  refine same_bad hd (t := whatT) rfl ?_
  simp only [oB, dcF (show ¬ z ≥ 0 by omega), nF, nT, cT, cF]
  rfl
 rw [i0, j0]
 rcases word_num (N := M + 9) (by omega) q (by omega) with ⟨m, hm, i1, j1⟩ | ⟨i1, z, hz, j1⟩
 rotate_left
 ·rw [i1, j1]
  refine same_bad hd (t := whatT) rfl ?_
  simp only [oB, dcT (show (n : Int) ≥ 0 by omega), dcF (show ¬ z ≥ 0 by omega), nF, nT, cT, cF]
  rfl
 rw [i1, j1]
 rcases word_num (N := M + 9) (by omega) r (by omega) with ⟨o, ho, i2, j2⟩ | ⟨i2, z, hz, j2⟩
 rotate_left
 ·rw [i2, j2]
  refine same_bad hd (t := whatT) rfl ?_
  simp only [oB, dcT (show (n : Int) ≥ 0 by omega), dcT (show (m : Int) ≥ 0 by omega), dcF (show ¬ z ≥ 0 by omega), nF, nT, cT, cF]
  rfl
 rw [i2, j2]
 have := K n m o hn hm ho
 simp only [oB, dcT (show (n : Int) ≥ 0 by omega), dcT (show (m : Int) ≥ 0 by omega), dcT (show (o : Int) ≥ 0 by omega), nT, cF]
 exact this
theorem ba_ne {a b : ByteArray} (h : a ≠ b) : (a == b) = false := by
 cases hq : (a == b) with
 | false => rfl
 | true =>
  obtain ⟨x⟩ := a
  obtain ⟨y⟩ := b
  have : (x == y) = true := hq
  exact absurd (congrArg ByteArray.mk (eq_of_beq this)) h
theorem tl_ne {a b : ByteArray} (h : a ≠ b) : (a.toList == b.toList) = false := by
 cases hq : (a.toList == b.toList) with
 | false => rfl
 | true =>
  have hq := eq_of_beq hq
  rw [bs_toList, bs_toList] at hq
  exact absurd (bs_ext hq) h
theorem q_loop (M : Nat) (h a b e f c d : Int) (w p : ByteArray) : zq133.l1 (M + 9) (M + 9) [w, p] (⟨#[63]⟩ : ByteArray) [p] 1 0 0 0 0 0 0 0 0 ⟨#[]⟩ 0 0 h a b e f c d ⟨#[]⟩ 0 0 = some (nE, h, a, b, e, f, c, d, nE, 0, 0, nI, false) := by kernel_rfl
theorem both_unk {M : Nat} {h a b e f c d : Int} {w : ByteArray} {ws : List ByteArray} (hd : deskB h a b e f c d = true) (hb : ws.length ≤ 1000000) (hf : zq53.g (M + 9) w = some (⟨#[]⟩, false)) (hs : zq135.g (M + 9) w = some ⟨#[63]⟩) : Both (M + 9) h a b e f c d (w :: ws) := by
 refine same_bad hd (t := whatT) ?_ ?_
 ·rw [pre_car (M + 9) h a b e f c d w ws _ false hf, nF, cT]; rfl
 ·by_cases hl : ws.length = 1
  ·obtain ⟨p, rfl⟩ := List.length_eq_one_iff.1 hl
   rw [rea_rd (M + 9) h a b e f c d w [p] _ hb hs rfl, show (([p] : List ByteArray).length : Int) = 1 from rfl, q_loop]; rfl
  ·rw [pre_rea (M + 9) h a b e f c d w ws _ hb hs (by show ws.length ≠ 1; exact hl)]; rfl
theorem unk_both {M : Nat} {h a b e f c d : Int} {w : ByteArray} {ws : List ByteArray} (hd : deskB h a b e f c d = true) (hb : ws.length ≤ 1000000) (n_dial : w ≠ w_dial) (n_set : w ≠ w_set) (n_turn : w ≠ w_turn) (n_on : w ≠ w_on) (n_off : w ≠ w_off) (n_mirror : w ≠ w_mirror) (n_swap : w ≠ w_swap) (n_clock : w ≠ w_clock) (n_show : w ≠ w_show) (n_where : w ≠ w_where) (n_long : w ≠ w_long) (n_angle : w ≠ w_angle) (n_small : w ≠ w_small) (n_with : w ≠ w_with) (n_shown : w ≠ w_shown) (n_ahead : w ≠ w_ahead) (n_right : w ≠ w_right) (n_every : w ≠ w_every) (n_unsure : w ≠ w_unsure) (n_other : w ≠ w_other) (n_leap : w ≠ w_leap) (n_best : w ≠ w_best) : Both (M + 9) h a b e f c d (w :: ws) := by
 refine both_unk hd hb ?_ ?_
 ·have e : zq53.look w zq53.tab = none := by
   unfold zq53.tab
   unfold zq53.look
   rw [ba_ne n_dial, cF]
   unfold zq53.look
   rw [ba_ne n_set, cF]
   unfold zq53.look
   rw [ba_ne n_turn, cF]
   unfold zq53.look
   rw [ba_ne n_on, cF]
   unfold zq53.look
   rw [ba_ne n_off, cF]
   unfold zq53.look
   rw [ba_ne n_mirror, cF]
   unfold zq53.look
   rw [ba_ne n_swap, cF]
   unfold zq53.look
   rw [ba_ne n_clock, cF]
   unfold zq53.look
   rw [ba_ne n_show, cF]
   unfold zq53.look
   rw [ba_ne n_where, cF]
   unfold zq53.look
   rw [ba_ne n_long, cF]
   unfold zq53.look
   rw [ba_ne n_angle, cF]
   unfold zq53.look
   rw [ba_ne n_small, cF]
   unfold zq53.look
   rw [ba_ne n_with, cF]
   unfold zq53.look
   rw [ba_ne n_shown, cF]
   unfold zq53.look
   rw [ba_ne n_ahead, cF]
   unfold zq53.look
   rw [ba_ne n_right, cF]
   unfold zq53.look
   rw [ba_ne n_every, cF]
   unfold zq53.look
   rw [ba_ne n_unsure, cF]
   unfold zq53.look
   rw [ba_ne n_other, cF]
   unfold zq53.look
   rw [ba_ne n_leap, cF]
   unfold zq53.look
   rw [ba_ne n_best, cF]
   rfl
  unfold zq53.g zq53.val
  rw [e]
 ·unfold zq135.g zq135.o0 zq135.d1 zq135.o1 zq135.d2 zq135.o2 zq135.d3 zq135.o3 zq135.d4 zq135.o4
  simp only [tl_ne n_dial, tl_ne n_set, tl_ne n_turn, tl_ne n_on, tl_ne n_off, tl_ne n_mirror, tl_ne n_swap, tl_ne n_clock, tl_ne n_show, tl_ne n_where, tl_ne n_long, tl_ne n_angle, tl_ne n_small, tl_ne n_with, tl_ne n_shown, tl_ne n_ahead, tl_ne n_right, tl_ne n_every, tl_ne n_unsure, tl_ne n_other, tl_ne n_leap, tl_ne n_best, cF]
theorem both_words {M : Nat} (hN : 200000000000000 ≤ M + 9) {h a b e f c d : Nat} (Td : Dial h a b) (K : Clk e f c d) (w : ByteArray) (ws : List ByteArray) (hb : ws.length ≤ 1000000) (hz : ∀ x ∈ ws, x.size ≤ 1000000) : Both (M + 9) h a b e f c d (w :: ws) := by
 have hd := desk_of Td K
 by_cases n_dial : w = w_dial
 ·subst n_dial
  by_cases hl : ws.length = 1
  ·match ws, hl with
   | [p], _ => exact form_N hN hd (by kernel_rfl) (by kernel_rfl) p (hz p (by simp)) (fun n hn => after_chg (by omega) hd _ (c_dial hN Td K n) (by kernel_rfl))
  ·exact both_len (F := f_N) (S := g_N) hd hb (by kernel_rfl) (by kernel_rfl) rfl hl
 by_cases n_set : w = w_set
 ·subst n_set
  by_cases hl : ws.length = 1
  ·match ws, hl with
   | [p], _ => exact form_T hN hd (by kernel_rfl) (by kernel_rfl) p (hz p (by simp)) (after_chg (by omega) hd _ (c_set hN Td K p (hz p (by simp))) (by kernel_rfl))
  ·exact both_len (F := f_T) (S := g_T) hd hb (by kernel_rfl) (by kernel_rfl) rfl hl
 by_cases n_turn : w = w_turn
 ·subst n_turn
  by_cases hl : ws.length = 2
  ·match ws, hl with
   | [p, q], _ => exact form_NN hN hd (by kernel_rfl) (by kernel_rfl) p q (hz p (by simp)) (hz q (by simp)) (fun n m hn hm => after_chg (by omega) hd _ (c_turn hN Td K n m hn hm) (by kernel_rfl))
  ·exact both_len (F := f_NN) (S := g_NN) hd hb (by kernel_rfl) (by kernel_rfl) rfl hl
 by_cases n_on : w = w_on
 ·subst n_on
  by_cases hl : ws.length = 2
  ·match ws, hl with
   | [p, q], _ => exact form_NN hN hd (by kernel_rfl) (by kernel_rfl) p q (hz p (by simp)) (hz q (by simp)) (fun n m hn hm => after_chg (by omega) hd _ (c_on hN Td K n m hn hm) (by kernel_rfl))
  ·exact both_len (F := f_NN) (S := g_NN) hd hb (by kernel_rfl) (by kernel_rfl) rfl hl
 by_cases n_off : w = w_off
 ·subst n_off
  by_cases hl : ws.length = 2
  ·match ws, hl with
   | [p, q], _ => exact form_NN hN hd (by kernel_rfl) (by kernel_rfl) p q (hz p (by simp)) (hz q (by simp)) (fun n m hn hm => after_chg (by omega) hd _ (c_off hN Td K n m hn hm) (by kernel_rfl))
  ·exact both_len (F := f_NN) (S := g_NN) hd hb (by kernel_rfl) (by kernel_rfl) rfl hl
 by_cases n_mirror : w = w_mirror
 ·subst n_mirror
  by_cases hl : ws.length = 0
  ·obtain rfl := List.length_eq_zero_iff.1 hl
   exact form_0 hN hd (by kernel_rfl) (by kernel_rfl) (after_chg (by omega) hd _ (c_mirror hN Td K ) (by kernel_rfl))
  ·exact both_len (F := nE) (S := nE) hd hb (by kernel_rfl) (by kernel_rfl) rfl hl
 by_cases n_swap : w = w_swap
 ·subst n_swap
  by_cases hl : ws.length = 0
  ·obtain rfl := List.length_eq_zero_iff.1 hl
   exact form_0 hN hd (by kernel_rfl) (by kernel_rfl) (after_chg (by omega) hd _ (c_swap hN Td K ) (by kernel_rfl))
  ·exact both_len (F := nE) (S := nE) hd hb (by kernel_rfl) (by kernel_rfl) rfl hl
 by_cases n_clock : w = w_clock
 ·subst n_clock
  by_cases hl : ws.length = 2
  ·match ws, hl with
   | [p, q], _ => exact form_NN hN hd (by kernel_rfl) (by kernel_rfl) p q (hz p (by simp)) (hz q (by simp)) (fun n m hn hm => after_chg (by omega) hd _ (c_clock hN Td K n m) (by kernel_rfl))
  ·exact both_len (F := f_NN) (S := g_NN) hd hb (by kernel_rfl) (by kernel_rfl) rfl hl
 by_cases n_show : w = w_show
 ·subst n_show
  by_cases hl : ws.length = 0
  ·obtain rfl := List.length_eq_zero_iff.1 hl
   exact form_0 hN hd (by kernel_rfl) (by kernel_rfl) (after_ans hd _ (a_show hN Td K ) (by kernel_rfl) (by kernel_rfl))
  ·exact both_len (F := nE) (S := nE) hd hb (by kernel_rfl) (by kernel_rfl) rfl hl
 by_cases n_where : w = w_where
 ·subst n_where
  by_cases hl : ws.length = 0
  ·obtain rfl := List.length_eq_zero_iff.1 hl
   exact form_0 hN hd (by kernel_rfl) (by kernel_rfl) (after_ans hd _ (a_where hN Td K ) (by kernel_rfl) (by kernel_rfl))
  ·exact both_len (F := nE) (S := nE) hd hb (by kernel_rfl) (by kernel_rfl) rfl hl
 by_cases n_long : w = w_long
 ·subst n_long
  by_cases hl : ws.length = 0
  ·obtain rfl := List.length_eq_zero_iff.1 hl
   exact form_0 hN hd (by kernel_rfl) (by kernel_rfl) (after_ans hd _ (a_long hN Td K ) (by kernel_rfl) (by kernel_rfl))
  ·exact both_len (F := nE) (S := nE) hd hb (by kernel_rfl) (by kernel_rfl) rfl hl
 by_cases n_angle : w = w_angle
 ·subst n_angle
  by_cases hl : ws.length = 0
  ·obtain rfl := List.length_eq_zero_iff.1 hl
   exact form_0 hN hd (by kernel_rfl) (by kernel_rfl) (after_ans hd _ (a_angle hN Td K ) (by kernel_rfl) (by kernel_rfl))
  ·exact both_len (F := nE) (S := nE) hd hb (by kernel_rfl) (by kernel_rfl) rfl hl
 by_cases n_small : w = w_small
 ·subst n_small
  by_cases hl : ws.length = 0
  ·obtain rfl := List.length_eq_zero_iff.1 hl
   exact form_0 hN hd (by kernel_rfl) (by kernel_rfl) (after_ans hd _ (a_small hN Td K ) (by kernel_rfl) (by kernel_rfl))
  ·exact both_len (F := nE) (S := nE) hd hb (by kernel_rfl) (by kernel_rfl) rfl hl
 by_cases n_with : w = w_with
 ·subst n_with
  by_cases hl : ws.length = 2
  ·match ws, hl with
   | [p, q], _ => exact form_NN hN hd (by kernel_rfl) (by kernel_rfl) p q (hz p (by simp)) (hz q (by simp)) (fun n m hn hm => after_ans hd _ (a_with hN Td K n m hn hm) (by kernel_rfl) (by kernel_rfl))
  ·exact both_len (F := f_NN) (S := g_NN) hd hb (by kernel_rfl) (by kernel_rfl) rfl hl
 by_cases n_shown : w = w_shown
 ·subst n_shown
  by_cases hl : ws.length = 1
  ·match ws, hl with
   | [p], _ => exact form_S hN hd (by kernel_rfl) (by kernel_rfl) p (hz p (by simp)) (fun s1 s2 hs => after_ans hd _ (a_shown hN Td K s1 s2 (.inr hs)) (by kernel_rfl) (by kernel_rfl))
  ·exact both_len (F := f_S) (S := g_S) hd hb (by kernel_rfl) (by kernel_rfl) rfl hl
 by_cases n_ahead : w = w_ahead
 ·subst n_ahead
  by_cases hl : ws.length = 1
  ·match ws, hl with
   | [p], _ => exact form_S hN hd (by kernel_rfl) (by kernel_rfl) p (hz p (by simp)) (fun s1 s2 hs => after_ans hd _ (a_ahead hN Td K s1 s2 (.inr hs)) (by kernel_rfl) (by kernel_rfl))
  ·exact both_len (F := f_S) (S := g_S) hd hb (by kernel_rfl) (by kernel_rfl) rfl hl
 by_cases n_right : w = w_right
 ·subst n_right
  by_cases hl : ws.length = 0
  ·obtain rfl := List.length_eq_zero_iff.1 hl
   exact form_0 hN hd (by kernel_rfl) (by kernel_rfl) (after_ans hd _ (a_right hN Td K ) (by kernel_rfl) (by kernel_rfl))
  ·exact both_len (F := nE) (S := nE) hd hb (by kernel_rfl) (by kernel_rfl) rfl hl
 by_cases n_every : w = w_every
 ·subst n_every
  by_cases hl : ws.length = 0
  ·obtain rfl := List.length_eq_zero_iff.1 hl
   exact form_0 hN hd (by kernel_rfl) (by kernel_rfl) (after_ans hd _ (a_every hN Td K ) (by kernel_rfl) (by kernel_rfl))
  ·exact both_len (F := nE) (S := nE) hd hb (by kernel_rfl) (by kernel_rfl) rfl hl
 by_cases n_unsure : w = w_unsure
 ·subst n_unsure
  by_cases hl : ws.length = 0
  ·obtain rfl := List.length_eq_zero_iff.1 hl
   exact form_0 hN hd (by kernel_rfl) (by kernel_rfl) (after_ans hd _ (a_unsure hN Td K ) (by kernel_rfl) (by kernel_rfl))
  ·exact both_len (F := nE) (S := nE) hd hb (by kernel_rfl) (by kernel_rfl) rfl hl
 by_cases n_other : w = w_other
 ·subst n_other
  by_cases hl : ws.length = 1
  ·match ws, hl with
   | [p], _ => exact form_N hN hd (by kernel_rfl) (by kernel_rfl) p (hz p (by simp)) (fun n hn => after_ans hd _ (a_other hN Td K n) (by kernel_rfl) (by kernel_rfl))
  ·exact both_len (F := f_N) (S := g_N) hd hb (by kernel_rfl) (by kernel_rfl) rfl hl
 by_cases n_leap : w = w_leap
 ·subst n_leap
  by_cases hl : ws.length = 1
  ·match ws, hl with
   | [p], _ => exact form_N hN hd (by kernel_rfl) (by kernel_rfl) p (hz p (by simp)) (fun n hn => after_ans hd _ (a_leap hN Td K n hn) (by kernel_rfl) (by kernel_rfl))
  ·exact both_len (F := f_N) (S := g_N) hd hb (by kernel_rfl) (by kernel_rfl) rfl hl
 by_cases n_best : w = w_best
 ·subst n_best
  by_cases hl : ws.length = 3
  ·match ws, hl with
   | [p, q, r], _ => exact form_NNN hN hd (by kernel_rfl) (by kernel_rfl) p q r (hz p (by simp)) (hz q (by simp)) (hz r (by simp)) (fun n m o hn hm ho => after_ans hd _ (a_best hN Td K n m o) (by kernel_rfl) (by kernel_rfl))
  ·exact both_len (F := f_NNN) (S := g_NNN) hd hb (by kernel_rfl) (by kernel_rfl) rfl hl
 exact unk_both hd hb n_dial n_set n_turn n_on n_off n_mirror n_swap n_clock n_show n_where n_long n_angle n_small n_with n_shown n_ahead n_right n_every n_unsure n_other n_leap n_best
theorem both_line {N : Nat} (hN : 200000000000000 ≤ N) {h a b e f c d : Int} (hd : deskB h a b e f c d = true) (s : ByteArray) (hs : s.size ≤ 3000) : ∃ (q1 q2 q3 q4 q5 q6 q7 : Int) (t : ByteArray), zq48.g N h a b e f c d s = some (q1, q2, q3, q4, q5, q6, q7, t) ∧ zq137.g N h a b e f c d s = some (q1, q2, q3, q4, q5, q6, q7, t) ∧ deskB q1 q2 q3 q4 q5 q6 q7 = true ∧ ((q1, q2, q3, q4, q5, q6, q7) = (h, a, b, e, f, c, d) ∨ t = txD q1 q2 q3) := by
 have hd' := hd
 unfold deskB at hd'
 rw [Bool.and_eq_true] at hd'
 obtain ⟨k, x, y, rfl, k1, k2, rfl, rfl, T⟩ := timeB_iff.1 hd'.1
 obtain ⟨u, v, z, w', rfl, rfl, rfl, rfl, K⟩ := clockB_iff.1 hd'.2
 have hp := pieces_sum 32 s
 have hz := pieces_size 32 s
 have hne : pieces 32 s ≠ [] := by unfold pieces; intro h; exact splitL_ne 32 s.data.toList (List.map_eq_nil_iff.1 h)
 obtain ⟨M, rfl⟩ : ∃ M, N = M + 9 := ⟨N - 9, by omega⟩
 have e1 : zq188.g (M + 9) s (⟨#[32]⟩ : ByteArray) = some (pieces 32 s) := splitS_eq s 32 (by omega)
 have e2 : zq178.g (M + 9) s 32 = some (pieces 32 s) := l1Split_eq s 32 (by omega) (by omega)
 rw [carry_is, step_is, read_is0, e1, e2, oB, oB]
 match hq : pieces 32 s, hne with
 | w :: ws, _ =>
  rw [hq] at hp hz
  simp only [List.map_cons, List.sum_cons, List.length_cons] at hp
  exact both_words (M := M) hN ⟨k1, k2, T⟩ K w ws (by omega) (fun x hx => by have := hz x (List.mem_cons_of_mem _ hx); omega)
def nl (s : ByteArray) : Bool := decide (((pieces 10 s).length : Int) > 1)
theorem toL_self (t : ByteArray) : (t.toList == t.toList) = true := beq_self_eq_true _
abbrev Dk : Type := Int × Int × Int × Int × Int × Int × Int
def okD (D : Dk) : Bool := deskB D.1 D.2.1 D.2.2.1 D.2.2.2.1 D.2.2.2.2.1 D.2.2.2.2.2.1 D.2.2.2.2.2.2
noncomputable def stF (N : Nat) (D : Dk) (s : ByteArray) : Option (Dk × ByteArray) := (zq48.g N D.1 D.2.1 D.2.2.1 D.2.2.2.1 D.2.2.2.2.1 D.2.2.2.2.2.1 D.2.2.2.2.2.2 s).bind fun r => some ((r.1, r.2.1, r.2.2.1, r.2.2.2.1, r.2.2.2.2.1, r.2.2.2.2.2.1, r.2.2.2.2.2.2.1), r.2.2.2.2.2.2.2)
noncomputable def runF (N : Nat) : Dk → List ByteArray → Option (Dk × List ByteArray)
 | D, [] => some (D, [])
 | D, s :: l => (stF N D s).bind fun r => (runF N r.1 l).bind fun q => some (q.1, r.2 :: q.2)
def D0k : Dk := (12, 0, 1, 0, 1, 73, 72)
theorem D0k_ok : okD D0k = true := desk_of (h := 12) (a := 0) (b := 1) (e := 0) (f := 1) (c := 73) (d := 72) ⟨by omega, by omega, T01⟩ ⟨T01, by omega, by omega, by omega, by omega, by omega, by decide⟩
theorem st_ok {N : Nat} (hN : 200000000000000 ≤ N) {D : Dk} (hd : okD D = true) (s : ByteArray) (hs : s.size ≤ 3000) : ∃ D' t, stF N D s = some (D', t) ∧ okD D' = true ∧ (D' = D ∨ t = txD D'.1 D'.2.1 D'.2.2.1) ∧
  zq48.g N D.1 D.2.1 D.2.2.1 D.2.2.2.1 D.2.2.2.2.1 D.2.2.2.2.2.1 D.2.2.2.2.2.2 s = some (D'.1, D'.2.1, D'.2.2.1, D'.2.2.2.1, D'.2.2.2.2.1, D'.2.2.2.2.2.1, D'.2.2.2.2.2.2, t) ∧
  zq137.g N D.1 D.2.1 D.2.2.1 D.2.2.2.1 D.2.2.2.2.1 D.2.2.2.2.2.1 D.2.2.2.2.2.2 s = some (D'.1, D'.2.1, D'.2.2.1, D'.2.2.2.1, D'.2.2.2.2.1, D'.2.2.2.2.2.1, D'.2.2.2.2.2.2, t) := by
 obtain ⟨q1, q2, q3, q4, q5, q6, q7, t, k1, k2, k3, k4⟩ := both_line hN hd s hs
 refine ⟨(q1, q2, q3, q4, q5, q6, q7), t, ?_, k3, k4, k1, k2⟩
 unfold stF
 rw [k1]; rfl
theorem run_loops {N : Nat} (hN : 200000000000000 ≤ N) (L : List ByteArray) (hL : L.length ≤ 1000000) (hs : ∀ s ∈ L, s.size ≤ 3000) : ∀ (j i f : Nat) (D : Dk) (acc : List ByteArray) (z1 z2 z3 z4 z5 z6 z7 : Int), i + j = L.length → j < f → acc.length = i → okD D = true →
  ∃ D' ts, runF N D (L.drop i) = some (D', ts) ∧ okD D' = true ∧ ts.length = j ∧
   zq72.l2 N f acc L L.length i z1 z2 z3 z4 z5 z6 z7 D.1 D.2.1 D.2.2.1 D.2.2.2.1 D.2.2.2.2.1 D.2.2.2.2.2.1 D.2.2.2.2.2.2 = some (acc ++ ts, D'.1, D'.2.1, D'.2.2.1, D'.2.2.2.1, D'.2.2.2.2.1, D'.2.2.2.2.2.1, D'.2.2.2.2.2.2, true) ∧
   zq134.l3 N f acc L L.length i z1 z2 z3 z4 z5 z6 z7 D.1 D.2.1 D.2.2.1 D.2.2.2.1 D.2.2.2.2.1 D.2.2.2.2.2.1 D.2.2.2.2.2.2 = some (D'.1, D'.2.1, D'.2.2.1, D'.2.2.2.1, D'.2.2.2.2.1, D'.2.2.2.2.2.1, D'.2.2.2.2.2.2, acc ++ ts, true)
 | 0, i, f+1, D, acc, z1, z2, z3, z4, z5, z6, z7, hi, hf, ha, hd => by
  refine ⟨D, [], ?_, hd, rfl, ?_, ?_⟩
  ·rw [List.drop_eq_nil_of_le (by omega)]; rfl
  ·unfold zq72.l2 zq72.d2 zq72.o2
   rw [dcF (by omega), cF, List.append_nil]
  ·unfold zq134.l3 zq134.d3 zq134.o3
   rw [dcF (by omega), cF, List.append_nil]
 | j+1, i, f+1, D, acc, z1, z2, z3, z4, z5, z6, z7, hi, hf, ha, hd => by
  have hlt : i < L.length := by omega
  obtain ⟨D1, t, k1, k2, _, k4, k5⟩ := st_ok hN hd L[i] (hs _ (List.getElem_mem hlt))
  obtain ⟨D', ts, e1, e2, e3, e4, e5⟩ := run_loops hN L hL hs j (i + 1) f D1 (acc ++ [t]) z1 z2 z3 z4 z5 z6 z7 (by omega) (by omega) (by simp; omega) k2
  refine ⟨D', t :: ts, ?_, e2, by simp; omega, ?_, ?_⟩
  ·rw [List.drop_eq_getElem_cons hlt]
   unfold runF
   rw [k1, oB, e1]; rfl
  ·unfold zq72.l2 zq72.d2 zq72.o2
   rw [dcT (show (i : Int) < (L.length : Int) by omega), cT, dcT (show (0 : Int) ≤ (i : Int) by omega), cT, cT, tN, getAt hlt, k4, oB, blT (by simp; omega), cT, w1add (by omega)]
   refine e4.trans ?_
   rw [List.append_assoc]; rfl
  ·unfold zq134.l3 zq134.d3 zq134.o3
   rw [dcT (show (i : Int) < (L.length : Int) by omega), cT, dcT (show (0 : Int) ≤ (i : Int) by omega), cT, cT, tN, getAt hlt, k5, oB, blT (by simp; omega), cT, w1add (by omega)]
   refine e5.trans ?_
   rw [List.append_assoc]; rfl
 | _, _, 0, _, _, _, _, _, _, _, _, _, _, hf, _, _ => by omega
def linesOf (s : ByteArray) : List ByteArray := (pieces 10 s).take ((pieces 10 s).length - 1)
def scriptB (s : ByteArray) : Bool := decide (s.size ≤ 3000) && (((pieces 10 s).getD ((pieces 10 s).length - 1) ⟨#[]⟩ == (⟨#[]⟩ : ByteArray)) && decide ((pieces 10 s).length ≤ 51))
theorem pieces_len (c : UInt8) (s : ByteArray) : 1 ≤ (pieces c s).length ∧ (pieces c s).length ≤ s.size + 1 := by
 have h := pieces_sum c s
 have hne : pieces c s ≠ [] := by unfold pieces; intro h; exact splitL_ne c s.data.toList (List.map_eq_nil_iff.1 h)
 exact ⟨List.length_pos_iff.2 hne, by omega⟩
theorem tl_eq (a b : ByteArray) : (a.toList == b.toList) = (a == b) := by
 by_cases h : a = b
 ·subst h
  rw [beq_self_eq_true]
  obtain ⟨x⟩ := a
  exact (show (x == x) = true from beq_self_eq_true _).symm
 ·rw [tl_ne h, ba_ne h]
theorem run_eq {N : Nat} (hN : 200000000000000 ≤ N) (s : ByteArray) (hs : s.size ≤ 1048576) :
  (scriptB s = false ∧ zq72.g N s = some (([] : List ByteArray), 0, 0, 0, 0, 0, 0, 0, false) ∧ zq134.g N s = some (0, 0, 0, 0, 0, 0, 0, ([] : List ByteArray), false)) ∨
  (scriptB s = true ∧ ∃ D' ts, runF N D0k (linesOf s) = some (D', ts) ∧ okD D' = true ∧ ts.length = (linesOf s).length ∧ zq72.g N s = some (ts, D'.1, D'.2.1, D'.2.2.1, D'.2.2.2.1, D'.2.2.2.2.1, D'.2.2.2.2.2.1, D'.2.2.2.2.2.2, true) ∧ zq134.g N s = some (D'.1, D'.2.1, D'.2.2.1, D'.2.2.2.1, D'.2.2.2.2.1, D'.2.2.2.2.2.1, D'.2.2.2.2.2.2, ts, true)) := by
 obtain ⟨p1, p2⟩ := pieces_len 10 s
 have hz := pieces_size 10 s
 have e1 : zq188.g N s (⟨#[10]⟩ : ByteArray) = some (pieces 10 s) := splitS_eq s 10 (by omega)
 have e2 : zq178.g N s 10 = some (pieces 10 s) := l1Split_eq s 10 (by omega) (by omega)
 have hw : w64 (((pieces 10 s).length : Int) - 1) = (((pieces 10 s).length - 1 : Nat) : Int) := by rw [w64s (by omega) (by omega)]; omega
 unfold zq72.g zq72.o0 zq134.g zq134.o0 scriptB linesOf
 rw [e1, e2, oB, oB, hw]
 generalize pieces 10 s = P at *
 by_cases h3 : s.size ≤ 3000
 ·have hlt : P.length - 1 < P.length := by omega
  rw [dcF (show ¬ (s.size : Int) > 3000 by omega), cF, cF, dcT (show (0 : Int) ≤ ((P.length - 1 : Nat) : Int) by omega), cT, cT, dcT (show ((P.length - 1 : Nat) : Int) < (P.length : Int) by omega), cT, cT, tN, getAt hlt, getAt hlt, dcT h3, Bool.true_and, List.getD_eq_getElem?_getD, List.getElem?_eq_getElem hlt, Option.getD_some, tl_eq]
  cases hl : (P[P.length - 1] == (⟨#[]⟩ : ByteArray)) with
  | false => exact .inl ⟨rfl, rfl, rfl⟩
  | true =>
   rw [nT, cF, cF, Bool.true_and]
   by_cases h51 : P.length ≤ 51
   ·rw [dcF (show ¬ ((P.length - 1 : Nat) : Int) > 50 by omega), dcT h51]
    refine .inr ⟨rfl, ?_⟩
    have hQ : ((P.take (P.length - 1)).length : Nat) = P.length - 1 := by rw [List.length_take]; omega
    obtain ⟨D', ts, k1, k2, k3, k4, k5⟩ := run_loops hN (P.take (P.length - 1)) (by omega) (fun x hx => by have := hz x (List.mem_of_mem_take hx); omega) (P.length - 1) 0 N D0k [] 0 0 0 0 0 0 0 (by omega) (by omega) rfl D0k_ok
    refine ⟨D', ts, k1, k2, by omega, ?_, ?_⟩
    ·show zq72.d1 N P ((P.length - 1 : Nat) : Int) false 0 0 0 0 0 0 0 = _
     unfold zq72.d1 zq72.o1 zq12.g zq12.o0
     rw [cF, oB, dcT (show (0 : Int) ≤ ((P.length - 1 : Nat) : Int) by omega), cT, dcT (show ((P.length - 1 : Nat) : Int) ≤ (P.length : Int) by omega), cT, cT, tN]
     exact k4
    ·obtain ⟨M, rfl⟩ : ∃ M, N = M + 1 := ⟨N - 1, by omega⟩
     show zq134.d1 (M + 1) P ((P.length - 1 : Nat) : Int) false 0 0 0 0 0 0 0 = _
     unfold zq134.d1 zq134.o1 zq114.g zq114.o0
     rw [cF, oB, dcT (show (0 : Int) ≤ ((P.length - 1 : Nat) : Int) by omega), cT, dcT (show ((P.length - 1 : Nat) : Int) ≤ (P.length : Int) by omega), cT, cT, tN]
     exact k5
   ·rw [dcT (show ((P.length - 1 : Nat) : Int) > 50 by omega), dcF h51]
    exact .inl ⟨rfl, rfl, rfl⟩
 ·rw [dcT (show (s.size : Int) > 3000 by omega), cT, cT, dcF h3]
  exact .inl ⟨rfl, rfl, rfl⟩
def failB (t : ByteArray) : Bool := bif (t.toList == (⟨#[110, 111]⟩ : ByteArray).toList) then true else (t.toList == (⟨#[119, 104, 97, 116]⟩ : ByteArray).toList)
def failF : List ByteArray → Nat → List Int
 | [], _ => []
 | t :: r, k => bif failB t then ((k + 1 : Nat) : Int) :: failF r (k + 1) else failF r (k + 1)
theorem failF_len : ∀ (ts : List ByteArray) (k : Nat), (failF ts k).length ≤ ts.length
 | [], _ => Nat.le_refl _
 | t :: r, k => by
  have ih := failF_len r (k + 1)
  unfold failF
  cases failB t with
  | true => simp only [cT, List.length_cons]; omega
  | false => simp only [cF, List.length_cons]; omega
theorem fail_i {N : Nat} (ts : List ByteArray) (hl : ts.length ≤ 1000000) : ∀ (j i f : Nat) (acc : List Int), i + j = ts.length → j < f → acc.length ≤ i →
  zq11.l1 N f acc ts ts.length i = some (acc ++ failF (ts.drop i) i, true)
 | 0, i, f+1, acc, hi, hf, ha => by
  unfold zq11.l1 zq11.d1 zq11.o1
  rw [dcF (by omega), cF, List.drop_eq_nil_of_le (by omega)]
  show _ = some (acc ++ [], true)
  rw [List.append_nil]
 | j+1, i, f+1, acc, hi, hf, ha => by
  have hlt : i < ts.length := by omega
  unfold zq11.l1 zq11.d1 zq11.o1
  rw [dcT (show (i : Int) < (ts.length : Int) by omega), cT, dcT (show (0 : Int) ≤ (i : Int) by omega), cT, cT, tN, getAt hlt, List.drop_eq_getElem_cons hlt]
  have key : ∀ b : Bool, failB ts[i] = b → zq11.d2 N acc i ts ts.length i b (fun w0 w1 w2 w3 => zq11.l1 N f w0 w1 w2 w3) = some (acc ++ failF (ts[i] :: ts.drop (i + 1)) i, true) := by
   intro b hb
   unfold zq11.d2 zq11.o2 failF
   rw [hb]
   cases b with
   | true =>
    rw [cT, cT, blT (by simp; omega), cT, w1add (by omega)]
    refine (fail_i ts hl j (i + 1) f _ (by omega) (by omega) (by simp; omega)).trans ?_
    rw [List.append_assoc]; rfl
   | false =>
    rw [cF, cF, w1add (by omega)]
    exact fail_i ts hl j (i + 1) f _ (by omega) (by omega) (by omega)
  unfold failB at key
  cases hq : (ts[i].toList == (⟨#[110, 111]⟩ : ByteArray).toList) with
  | true => rw [hq] at key; exact key _ rfl
  | false => rw [hq] at key; exact key _ rfl
 | _, _, 0, _, _, hf, _ => by omega
theorem fail_13 (N : Nat) (ts : List ByteArray) (ok : Bool) (len : Int) : ∀ (n : Nat) (i : Int), zq113.l1 N n ok ts len i = zq113.l3 N n ok [] ts len i
 | 0, i => rfl
 | n + 1, i => by
  have ih := fail_13 N ts ok len n
  show zq113.d1 N ok ts len i (fun w0 w1 w2 w3 => zq113.l1 N n w0 w1 w2 w3) (fun w0 w1 w2 w3 w4 => zq113.l3 N n w0 w1 w2 w3 w4) = zq113.d3 N ok [] ts len i (fun w0 w1 w2 w3 w4 => zq113.l3 N n w0 w1 w2 w3 w4)
  unfold zq113.d1 zq113.d3 zq113.o1 zq113.o3 zq113.d2 zq113.d4 zq113.o2 zq113.o4
  simp only [ih]
theorem fail_s {N : Nat} (ts : List ByteArray) (ok : Bool) (hl : ts.length ≤ 1000000) : ∀ (j i f : Nat) (acc : List Int), i + j = ts.length → j < f → acc.length ≤ i →
  zq113.l3 N f ok acc ts ts.length i = some (acc ++ failF (ts.drop i) i, ok)
 | 0, i, f+1, acc, hi, hf, ha => by
  unfold zq113.l3 zq113.d3 zq113.o3
  rw [dcF (by omega), cF, List.drop_eq_nil_of_le (by omega)]
  show _ = some (acc ++ [], ok)
  rw [List.append_nil]
 | j+1, i, f+1, acc, hi, hf, ha => by
  have hlt : i < ts.length := by omega
  unfold zq113.l3 zq113.d3 zq113.o3
  rw [dcT (show (i : Int) < (ts.length : Int) by omega), cT, dcT (show (0 : Int) ≤ (i : Int) by omega), cT, cT, tN, getAt hlt, List.drop_eq_getElem_cons hlt]
  have key : ∀ b : Bool, failB ts[i] = b → zq113.d4 N ok acc i ts ts.length i b (fun w0 w1 w2 w3 w4 => zq113.l3 N f w0 w1 w2 w3 w4) = some (acc ++ failF (ts[i] :: ts.drop (i + 1)) i, ok) := by
   intro b hb
   unfold zq113.d4 zq113.o4 failF
   rw [hb]
   cases b with
   | true =>
    rw [cT, cT, blT (by simp; omega), cT, w1add (by omega)]
    refine (fail_s ts ok hl j (i + 1) f _ (by omega) (by omega) (by simp; omega)).trans ?_
    rw [List.append_assoc]; rfl
   | false =>
    rw [cF, cF, w1add (by omega)]
    exact fail_s ts ok hl j (i + 1) f _ (by omega) (by omega) (by omega)
  unfold failB at key
  cases hq : (ts[i].toList == (⟨#[110, 111]⟩ : ByteArray).toList) with
  | true => rw [hq] at key; exact key _ rfl
  | false => rw [hq] at key; exact key _ rfl
 | _, _, 0, _, _, hf, _ => by omega
def Tells (N : Nat) (s : ByteArray) (ts : List ByteArray) (D : Dk) (ok : Bool) : Prop :=
 zq30.g N s = some (ts, ok) ∧ zq122.g N s = some (ts, ok) ∧
 zq8.g N s = some (D.1, D.2.1, D.2.2.1, D.2.2.2.1, D.2.2.2.2.1, D.2.2.2.2.2.1, D.2.2.2.2.2.2, ok) ∧ zq109.g N s = some (D.1, D.2.1, D.2.2.1, D.2.2.2.1, D.2.2.2.2.1, D.2.2.2.2.2.1, D.2.2.2.2.2.2, ok) ∧
 zq11.g N s = some (failF ts 0, ok) ∧ zq113.g N s = some (failF ts 0, ok)
theorem tells {N : Nat} (hN : 200000000000000 ≤ N) (s : ByteArray) (hs : s.size ≤ 1048576) :
  (scriptB s = false ∧ Tells N s [] (0, 0, 0, 0, 0, 0, 0) false) ∨
  (scriptB s = true ∧ ∃ D' ts, runF N D0k (linesOf s) = some (D', ts) ∧ okD D' = true ∧ ts.length = (linesOf s).length ∧ ts.length ≤ 50 ∧ Tells N s ts D' true) := by
 rcases run_eq hN s hs with ⟨h0, e1, e2⟩ | ⟨h0, D', ts, h1, h2, h3, e1, e2⟩
 ·refine .inl ⟨h0, ?_⟩
  unfold Tells zq30.g zq30.o0 zq122.g zq122.o0 zq8.g zq8.o0 zq109.g zq109.o0 zq11.g zq11.o0 zq113.g zq113.o0
  rw [e1, e2]
  refine ⟨rfl, rfl, rfl, rfl, rfl, ?_⟩
  have := fail_s (N := N) [] false (by simp) 0 0 N [] rfl (by omega) (by simp)
  rw [← fail_13] at this
  exact this
 ·have h50 : ts.length ≤ 50 := by
   unfold scriptB at h0
   simp only [Bool.and_eq_true, decide_eq_true_eq] at h0
   have := h0.2.2
   rw [h3]
   unfold linesOf
   rw [List.length_take]; omega
  refine .inr ⟨h0, D', ts, h1, h2, h3, h50, ?_⟩
  unfold Tells zq30.g zq30.o0 zq122.g zq122.o0 zq8.g zq8.o0 zq109.g zq109.o0 zq11.g zq11.o0 zq113.g zq113.o0
  rw [e1, e2]
  refine ⟨rfl, rfl, rfl, rfl, ?_, ?_⟩
  ·exact fail_i (N := N) ts (by omega) ts.length 0 N [] (by omega) (by omega) (by simp)
  ·have := fail_s (N := N) ts true (by omega) ts.length 0 N [] (by omega) (by omega) (by simp)
   rw [← fail_13] at this
   exact this
end Go.Proofs.YtdidghlibfopgaaGreatDoor.M
namespace Go.Proofs.YtdidghlibfopgaaGreatDoor.M
open Go Go.PM
set_option linter.unusedVariables false
set_option linter.unusedSimpArgs false

end Go.Proofs.YtdidghlibfopgaaGreatDoor.M
namespace Go.Proofs.YtdidghlibfopgaaGreatDoor.M
open Go Go.PM Go.Proofs.YtdidghlibfopgaaGreatDoor.P
set_option linter.unusedVariables false
set_option linter.unusedSimpArgs false
set_option maxRecDepth 100000
theorem nums1 (x : Int) : (strOfNums [x]).size = 1 := rfl
theorem nble {a b : Nat} (h : a ≤ b) : Nat.ble a b = true := Nat.ble_eq_true_of_le h
theorem mark_l {N : Nat} : ∀ (f v : Nat) (t : ByteArray), v < f → t.size + v ≤ 200000 → Tot (zq97.l1 N f v t) (fun _ => True)
 | f+1, v, t, hf, hz => by
  unfold zq97.l1 zq97.d1 zq97.o1
  by_cases h : v = 0
  ·subst h
   rw [dcF (by omega), cF, nble (by show 1 + t.size ≤ _; omega), cT]
   exact Tot.now trivial
  ·rw [dcT (by omega), cT, numsO_all, oB, nble (by rw [nums1]; omega), cT, show Int.tdiv (v : Int) 10 = ((v / 10 : Nat) : Int) from rfl, w64s (by omega) (by omega)]
   exact mark_l f (v / 10) _ (by omega) (by rw [ByteArray.size_append, nums1]; omega)
 | 0, _, _, hf, _ => by omega
noncomputable def mtx (N k : Nat) : ByteArray := (zq97.g N (k : Int)).getD ⟨#[]⟩
theorem mtx_eq {N : Nat} (hN : 1000 ≤ N) {k : Nat} (hk : k ≤ 100) : zq97.g N (k : Int) = some (mtx N k) := by
 obtain ⟨r, h⟩ : ∃ r, zq97.g N (k : Int) = some r := by
  unfold zq97.g zq97.o0
  by_cases h : k = 0
  ·subst h; exact ⟨_, rfl⟩
  ·rw [dcF (by omega), cF]
   obtain ⟨r, h, _⟩ := mark_l (N := N) N k ⟨#[]⟩ (by omega) (by show 0 + k ≤ _; omega)
   exact ⟨r, h⟩
 unfold mtx
 rw [h]; rfl
noncomputable def marks (N : Nat) : Nat → Nat → List ByteArray
 | _, 0 => []
 | k, j + 1 => mtx N k :: marks N (k + 1) j
theorem marks_len (N : Nat) : ∀ j k, (marks N k j).length = j
 | 0, k => rfl
 | j + 1, k => by show (marks N (k + 1) j).length + 1 = j + 1; rw [marks_len N j]
theorem marks_get (N : Nat) : ∀ (j k i : Nat) (h : i < (marks N k j).length), (marks N k j)[i] = mtx N (k + i)
 | 0, k, i, h => by cases h
 | j + 1, k, 0, h => rfl
 | j + 1, k, i + 1, h => by
  have hl : i < (marks N (k + 1) j).length := by have := marks_len N (j + 1) k; have := marks_len N j (k + 1); omega
  show (marks N (k + 1) j)[i] = _
  rw [marks_get N j (k + 1) i hl, show k + 1 + i = k + (i + 1) by omega]
theorem set_take {α : Type} (xs : List α) (i : Nat) (r : α) (h : i < xs.length) : (xs.set i r).take (i + 1) = xs.take i ++ [r] := by
 rw [List.set_eq_take_append_cons_drop, if_pos h, show xs.take i ++ r :: xs.drop (i + 1) = (xs.take i ++ [r]) ++ xs.drop (i + 1) by rw [List.append_assoc]; rfl]
 exact List.take_left' (by rw [List.length_append, List.length_take, List.length_singleton]; omega)
theorem markS_l {N : Nat} (hN : 1000 ≤ N) (n : Nat) : ∀ (j i f k : Nat) (xs : List ByteArray), i + j = n → xs.length = n → j < f → k + j ≤ 90 → n ≤ 1000 →
  zq96.l1 N f n (k : Int) (i : Int) xs = some (((k + j : Nat) : Int), xs.take i ++ marks N k j)
 | 0, i, f+1, k, xs, hi, hx, hf, hk, hi2 => by
  unfold zq96.l1 zq96.d1 zq96.o1
  rw [dcF (by omega), cF, List.take_of_length_le (by omega)]
  show _ = some (_, xs ++ [])
  rw [List.append_nil]; rfl
 | j+1, i, f+1, k, xs, hi, hx, hf, hk, hi2 => by
  unfold zq96.l1 zq96.d1 zq96.o1
  have hlt : i < xs.length := by omega
  rw [dcT (show (i : Int) < ((n : Nat) : Int) by omega), cT, mtx_eq hN (by omega), oB, dcT (show (0 : Int) ≤ (i : Int) by omega), cT, cT, tN, getAt hlt, w1add (by omega), w1add (by omega)]
  refine (markS_l hN n j (i + 1) f (k + 1) _ (by omega) (by rw [List.length_set]; exact hx) (by omega) (by omega) (by omega)).trans ?_
  rw [set_take _ _ _ hlt, List.append_assoc, show k + 1 + j = k + (j + 1) by omega]
  rfl
 | _, _, 0, _, _, _, _, hf, _, _ => by omega
theorem markS_eq {N : Nat} (hN : 1000 ≤ N) (xs : List ByteArray) (hx : xs.length ≤ 50) : zq96.g N xs.length 1 xs = some (((1 + xs.length : Nat) : Int), marks N 1 xs.length) :=
 markS_l hN xs.length xs.length 0 N 1 xs (by omega) rfl (by omega) (by omega) (by omega)
theorem heldS_l {N : Nat} (hN : 1000 ≤ N) (n : Nat) (hn : n ≤ 50) : ∀ (j i f : Nat), i + j = n → j < f →
  zq92.l1 N f (marks N 1 n) ((1 + i : Nat) : Int) (i : Int) = some ((1 + n : Nat) : Int)
 | 0, i, f+1, hi, hf => by
  unfold zq92.l1 zq92.d1 zq92.o1
  rw [marks_len, dcF (by omega), cF, show i = n by omega]
 | j+1, i, f+1, hi, hf => by
  unfold zq92.l1 zq92.d1 zq92.o1
  have hl := marks_len N n 1
  have hlt : i < (marks N 1 n).length := by omega
  rw [dcT (show (i : Int) < ((marks N 1 n).length : Int) by omega), cT, dcT (show (0 : Int) ≤ (i : Int) by omega), cT, cT, tN, getAt hlt, mtx_eq hN (by omega), oB, marks_get, toL_self, nT, cF, w1add (by omega), w1add (by omega)]
  exact heldS_l hN n hn j (i + 1) f (by omega) (by omega)
 | _, _, 0, _, hf => by omega
theorem heldS_eq {N : Nat} (hN : 1000 ≤ N) (n : Nat) (hn : n ≤ 50) : zq92.g N (marks N 1 n) 1 = some ((1 + n : Nat) : Int) :=
 heldS_l hN n hn n 0 N (by omega) (by omega)
theorem eqS1_l (N : Nat) (l : List ByteArray) (hs : l.length < 1000000000) : ∀ (d i n : Nat), i + d = l.length → d < n → zq89.l1 N n l l.length i l = some (true, l)
 | 0, i, n+1, hi, hn => by
  unfold zq89.l1 zq89.d1 zq89.o1
  rw [dcF (by omega), cF]
 | d+1, i, n+1, hi, hn => by
  have hlt : i < l.length := by omega
  unfold zq89.l1 zq89.d1 zq89.o1
  rw [dcT (show (i : Int) < (l.length : Int) by omega), cT, dcT (show (0 : Int) ≤ (i : Int) by omega), cT, cT, tN, getAt hlt]
  simp only [cT]
  rw [getAt hlt, toL_self, nT, cF, w1add (by omega)]
  exact eqS1_l N l hs d (i + 1) n (by omega) (by omega)
 | _, _, 0, _, hn => by omega
theorem eqS1_self {N : Nat} (l : List ByteArray) (hs : l.length < 1000000000) (hN : l.length < N) : zq89.g N l l.length l = some (true, l) := by
 unfold zq89.g zq89.o0
 rw [bne_self_eq_false, cF]
 exact eqS1_l N l hs l.length 0 N (by omega) hN
theorem exactS {M : Nat} (hN : 1000 ≤ M + 1) (s : ByteArray) (hs : ¬ (s.size : Int) > 1048576) (ts : List ByteArray) (ht : ts.length ≤ 50) (ok : Bool) (e1 : zq30.g (M + 1) s = some (ts, ok)) (e2 : zq122.g (M + 1) s = some (ts, ok)) : zq83.g (M + 1) s = some true := by
 unfold zq83.g zq83.o0
 rw [dcF hs, cF, e2, oB, e1, oB, oB]
 dsimp only
 cases ts with
 | nil =>
  show zq83.d2 (M + 1) s [] ok [] (!(ok == ok)) = _
  unfold zq83.d2 zq83.o2
  rw [beq_self_eq_true, nT, cF, e1]
  show zq83.d3 (M + 1) [] 1 (!(ok == ok)) = _
  rw [beq_self_eq_true]; rfl
 | cons t r =>
  generalize hL : t :: r = L at *
  have h0 : Nat.blt 0 L.length = true := by rw [← hL]; rfl
  have hE := eqS1_self (N := M + 1) L (by omega) (by omega)
  have hml := marks_len (M + 1) L.length 1
  rw [h0, cT, hE, oB]
  dsimp only
  rw [nT, cF, beq_self_eq_true]
  unfold zq83.d1 zq83.o1
  rw [nT, cF, h0, cT, markS_eq hN L ht, oB]
  dsimp only
  rw [nble (by omega), cT, List.take_of_length_le (by omega), heldS_eq hN L.length ht, oB, dcF (show ¬ ((1 + L.length : Nat) : Int) < 0 by omega), cF, bne_self_eq_false, cF, e1, oB, hE, oB]
  dsimp only
  rw [nT, cF, beq_self_eq_true]
  unfold zq83.d3 zq83.o3
  rw [nT, cF, heldS_eq hN L.length ht, oB, dcF (show ¬ ((1 + L.length : Nat) : Int) < 0 by omega), cF, bne_self_eq_false, cF]
theorem FnExactRunScript.pure : FnExactRunScript.Pure := by
 intro s _
 refine ⟨200000000000000, ?_⟩
 by_cases hs : (s.size : Int) > 1048576
 ·unfold zq83.g zq83.o0
  rw [dcT hs]; rfl
 ·rcases tells (N := 200000000000000) (by omega) s (by omega) with ⟨_, e1, e2, _⟩ | ⟨_, E, ts, _, _, _, ht, e1, e2, _⟩
  ·exact exactS (M := 199999999999999) (by omega) s hs [] (by simp) false e1 e2
  ·exact exactS (M := 199999999999999) (by omega) s hs ts ht true e1 e2
def marksI : Nat → Nat → List Int
 | _, 0 => []
 | k, j + 1 => (k : Int) :: marksI (k + 1) j
theorem marksI_len : ∀ j k, (marksI k j).length = j
 | 0, k => rfl
 | j + 1, k => by show (marksI (k + 1) j).length + 1 = j + 1; rw [marksI_len j]
theorem marksI_get : ∀ (j k i : Nat) (h : i < (marksI k j).length), (marksI k j)[i] = ((k + i : Nat) : Int)
 | 0, k, i, h => by cases h
 | j + 1, k, 0, h => rfl
 | j + 1, k, i + 1, h => by
  have hl : i < (marksI (k + 1) j).length := by have := marksI_len (j + 1) k; have := marksI_len j (k + 1); omega
  show (marksI (k + 1) j)[i] = _
  rw [marksI_get j (k + 1) i hl, show k + 1 + i = k + (i + 1) by omega]
theorem markI_l {N : Nat} (hN : 1000 ≤ N) (n : Nat) : ∀ (j i f k : Nat) (xs : List Int), i + j = n → xs.length = n → j < f → k + j ≤ 90 → n ≤ 1000 →
  zq94.l1 N f n (k : Int) (i : Int) xs = some (((k + j : Nat) : Int), xs.take i ++ marksI k j)
 | 0, i, f+1, k, xs, hi, hx, hf, hk, hi2 => by
  unfold zq94.l1 zq94.d1 zq94.o1
  rw [dcF (by omega), cF, List.take_of_length_le (by omega)]
  show _ = some (_, xs ++ [])
  rw [List.append_nil]; rfl
 | j+1, i, f+1, k, xs, hi, hx, hf, hk, hi2 => by
  unfold zq94.l1 zq94.d1 zq94.o1
  have hlt : i < xs.length := by omega
  rw [dcT (show (i : Int) < ((n : Nat) : Int) by omega), cT, dcT (show (0 : Int) ≤ (i : Int) by omega), cT, cT, tN, getAt hlt, w1add (by omega), w1add (by omega)]
  refine (markI_l hN n j (i + 1) f (k + 1) _ (by omega) (by rw [List.length_set]; exact hx) (by omega) (by omega) (by omega)).trans ?_
  rw [set_take _ _ _ hlt, List.append_assoc, show k + 1 + j = k + (j + 1) by omega]
  rfl
 | _, _, 0, _, _, _, _, hf, _, _ => by omega
theorem markI_eq {N : Nat} (hN : 1000 ≤ N) (xs : List Int) (hx : xs.length ≤ 50) : zq94.g N xs.length 1 xs = some (((1 + xs.length : Nat) : Int), marksI 1 xs.length) :=
 markI_l hN xs.length xs.length 0 N 1 xs (by omega) rfl (by omega) (by omega) (by omega)
theorem heldI_l {N : Nat} (hN : 1000 ≤ N) (n : Nat) (hn : n ≤ 50) : ∀ (j i f : Nat), i + j = n → j < f →
  zq91.l1 N f (marksI 1 n) ((1 + i : Nat) : Int) (i : Int) = some ((1 + n : Nat) : Int)
 | 0, i, f+1, hi, hf => by
  unfold zq91.l1 zq91.d1 zq91.o1
  rw [marksI_len, dcF (by omega), cF, show i = n by omega]
 | j+1, i, f+1, hi, hf => by
  unfold zq91.l1 zq91.d1 zq91.o1
  have hl := marksI_len n 1
  have hlt : i < (marksI 1 n).length := by omega
  rw [dcT (show (i : Int) < ((marksI 1 n).length : Int) by omega), cT, dcT (show (0 : Int) ≤ (i : Int) by omega), cT, cT, tN, getAt hlt, marksI_get, bne_self_eq_false, cF, w1add (by omega), w1add (by omega)]
  exact heldI_l hN n hn j (i + 1) f (by omega) (by omega)
 | _, _, 0, _, hf => by omega
theorem heldI_eq {N : Nat} (hN : 1000 ≤ N) (n : Nat) (hn : n ≤ 50) : zq91.g N (marksI 1 n) 1 = some ((1 + n : Nat) : Int) :=
 heldI_l hN n hn n 0 N (by omega) (by omega)
theorem eqI1_l (N : Nat) (l : List Int) (hs : l.length < 1000000000) : ∀ (d i n : Nat), i + d = l.length → d < n → zq87.l1 N n l l.length i l = some (true, l)
 | 0, i, n+1, hi, hn => by
  unfold zq87.l1 zq87.d1 zq87.o1
  rw [dcF (by omega), cF]
 | d+1, i, n+1, hi, hn => by
  have hlt : i < l.length := by omega
  unfold zq87.l1 zq87.d1 zq87.o1
  rw [dcT (show (i : Int) < (l.length : Int) by omega), cT, dcT (show (0 : Int) ≤ (i : Int) by omega), cT, cT, tN, getAt hlt]
  simp only [cT]
  rw [getAt hlt, bne_self_eq_false, cF, w1add (by omega)]
  exact eqI1_l N l hs d (i + 1) n (by omega) (by omega)
 | _, _, 0, _, hn => by omega
theorem eqI1_self {N : Nat} (l : List Int) (hs : l.length < 1000000000) (hN : l.length < N) : zq87.g N l l.length l = some (true, l) := by
 unfold zq87.g zq87.o0
 rw [bne_self_eq_false, cF]
 exact eqI1_l N l hs l.length 0 N (by omega) hN
theorem exactI {M : Nat} (hN : 1000 ≤ M + 1) (s : ByteArray) (hs : ¬ (s.size : Int) > 1048576) (ts : List Int) (ht : ts.length ≤ 50) (ok : Bool) (e1 : zq11.g (M + 1) s = some (ts, ok)) (e2 : zq113.g (M + 1) s = some (ts, ok)) : zq82.g (M + 1) s = some true := by
 unfold zq82.g zq82.o0
 rw [dcF hs, cF, e2, oB, e1, oB, oB]
 dsimp only
 cases ts with
 | nil =>
  show zq82.d2 (M + 1) s [] ok [] (!(ok == ok)) = _
  unfold zq82.d2 zq82.o2
  rw [beq_self_eq_true, nT, cF, e1]
  show zq82.d3 (M + 1) [] 1 (!(ok == ok)) = _
  rw [beq_self_eq_true]; rfl
 | cons t r =>
  generalize hL : t :: r = L at *
  have h0 : Nat.blt 0 L.length = true := by rw [← hL]; rfl
  have hE := eqI1_self (N := M + 1) L (by omega) (by omega)
  have hml := marksI_len L.length 1
  rw [h0, cT, hE, oB]
  dsimp only
  rw [nT, cF, beq_self_eq_true]
  unfold zq82.d1 zq82.o1
  rw [nT, cF, h0, cT, markI_eq hN L ht, oB]
  dsimp only
  rw [nble (by omega), cT, List.take_of_length_le (by omega), heldI_eq hN L.length ht, oB, dcF (show ¬ ((1 + L.length : Nat) : Int) < 0 by omega), cF, bne_self_eq_false, cF, e1, oB, hE, oB]
  dsimp only
  rw [nT, cF, beq_self_eq_true]
  unfold zq82.d3 zq82.o3
  rw [nT, cF, heldI_eq hN L.length ht, oB, dcF (show ¬ ((1 + L.length : Nat) : Int) < 0 by omega), cF, bne_self_eq_false, cF]
theorem FnExactFailedLines.pure : FnExactFailedLines.Pure := by
 intro s _
 refine ⟨200000000000000, ?_⟩
 by_cases hs : (s.size : Int) > 1048576
 ·unfold zq82.g zq82.o0
  rw [dcT hs]; rfl
 ·rcases tells (N := 200000000000000) (by omega) s (by omega) with ⟨_, _, _, _, _, e1, e2⟩ | ⟨_, E, ts, _, _, _, ht, _, _, _, _, e1, e2⟩
  ·exact exactI (M := 199999999999999) (by omega) s hs [] (by simp) false e1 e2
  ·exact exactI (M := 199999999999999) (by omega) s hs (failF ts 0) (by have := failF_len ts 0; omega) true e1 e2
end Go.Proofs.YtdidghlibfopgaaGreatDoor.M
