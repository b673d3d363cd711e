/- Copies of puzzles read alike. -/
import Derived.Test.YtpeleommbipeaaaLPuzzle0
import Derived.Test.YtpeleommbipeaaaFLawsSzPuzzle
import Derived.Test.YtpeleommbipeaaaFLawsToPuzzle
namespace Go.Proofs.Ytpeleommbipeaaa.P
open Go.RowKit Go.Proofs.YtpeleommbipeaaaW.PrintWords Go.Proofs.YtpeleommbipeaaaW.PrintLast
set_option linter.unusedVariables false
set_option linter.unusedSimpArgs false

abbrev LClue := S34
def cv (x : LClue) : IClue := ⟨x.f0, x.f1, x.f2⟩
theorem rd_getL (l : List LClue) (i : Nat) (h : i < l.length) : rd_T34 l i = l[i] := by
  show l.getD (i : Int).toNat _ = _
  rw [Int.toNat_natCast, List.getD_eq_getElem?_getD, List.getElem?_eq_getElem h]; rfl
theorem toClueS_l (l : List LClue) (hn : l.length ≤ 9223372036854775807) : ∀ (d i : Nat), i + d = l.length → ∀ k, d < k →
    laws_toClueS.l0 k l ((l.take i).map cv ++ List.replicate d z38) i = some (l.map cv) := by
  intro d
  induction d with
  | zero =>
    intro i hi k hk
    obtain ⟨k, rfl⟩ : ∃ m, k = m + 1 := ⟨k - 1, by omega⟩
    simp only [laws_toClueS.l0]
    rw [if_neg (by omega), List.take_of_length_le (by omega)]
    simp
  | succ d ih =>
    intro i hi k hk
    obtain ⟨k, rfl⟩ : ∃ m, k = m + 1 := ⟨k - 1, by omega⟩
    have hlt : i < l.length := by omega
    simp only [laws_toClueS.l0]
    rw [if_pos (by omega), if_pos (by omega), rd_getL l i hlt]
    simp only [laws_toClue.f, Option.bind_some]
    rw [if_pos (by simp; omega), wrap_succ hlt hn, Int.toNat_natCast]
    have e : ((l.take i).map cv ++ List.replicate (d + 1) z38).set i ⟨l[i].f0, l[i].f1, l[i].f2⟩ = (l.take (i + 1)).map cv ++ List.replicate d z38 := by
      have hl : ((l.take i).map cv).length = i := by simp; omega
      rw [List.set_append_right _ _ (by omega), hl, Nat.sub_self, List.replicate_succ, List.set_cons_zero, List.take_succ_eq_append_getElem hlt, List.map_append, List.append_assoc]
      rfl
    rw [e]
    exact ih (i + 1) (by omega) k (by omega)
theorem toClueS_ev (l : List LClue) (hn : l.length * 24 ≤ 140737488351232) : Ev (fun k => laws_toClueS.f k l) (l.map cv) := by
  refine ⟨l.length + 1, fun k hk => ?_⟩
  simp only [laws_toClueS.f]
  rw [if_pos (by omega), if_pos (by omega)]
  have := toClueS_l l (by omega) l.length 0 (by omega) k (by omega)
  simpa using this
theorem toPuzzle_ev (h : Int) (l : List LClue) (hn : l.length * 24 ≤ 140737488351232) : Ev (fun k => laws_toPuzzle.f k h l) (h, l.map cv) := by
  unfold laws_toPuzzle.f
  exact Ev.bind (toClueS_ev l hn) (Ev.now _)
theorem sz_law {R : Nat → Option Bool} {h : Int} {l : List LClue} (hs : l.length * 24 ≤ 140737488351232) (hr : l.length ≤ 1048576 → Ev R true) :
    Ev (fun k => (laws_szPuzzle.f h l 1048576).bind fun t => if t < 0 then some true else R k) true := by
  have hw : wrap64 (1048576 - (l.length : Int)) = 1048576 - (l.length : Int) := wsm (by omega) (by omega)
  simp only [laws_szPuzzle.f, laws_szClueS.f, hw]
  by_cases h0 : 1048576 - (l.length : Int) < 0
  · simp only [h0, if_true, Option.bind_some, show ((-1 : Int) < 0) from by omega]
    exact Ev.now _
  · simp only [h0, if_false, Option.bind_some]
    exact hr (by omega)
theorem cv_length (l : List LClue) (h : l.length ≤ 1048576) : (l.map cv).length ≤ 1048576 := by rw [List.length_map]; exact h

end Go.Proofs.Ytpeleommbipeaaa.P
