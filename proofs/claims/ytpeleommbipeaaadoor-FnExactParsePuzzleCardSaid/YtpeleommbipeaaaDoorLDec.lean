/- The reference's decimal texts are the library's. -/
import Derived.Test.YtpeleommbipeaaaDoorLBs
import Derived.Test.YtpeleommbipeaaaDoorFSpecL1Num
import Derived.Lib.ItoaNum
namespace Go.Proofs.YtpeleommbipeaaaDoor.P
open Go.RowKit Go.Proofs.YtpeleommbipeaaaDoorW.PrintWords Go.Proofs.YtpeleommbipeaaaDoorW.PrintLast
set_option linter.unusedVariables false
set_option linter.unusedSimpArgs false

def dn (n : Int) : List UInt8 := Lib.decDigits n.toNat
theorem dec_len : ∀ n : Nat, (Lib.decDigits n).length ≤ n + 1 := by
  intro n
  induction n using Nat.strongRecOn with
  | ind n ih =>
    rw [Lib.decDigits]
    split
    · simp
    · have := ih (n / 10) (by omega)
      simp only [List.length_append, List.length_singleton]
      omega
theorem dec_small {n : Nat} (h : n < 10) : Lib.decDigits n = [UInt8.ofNat (48 + n)] := by rw [Lib.decDigits, dif_pos h]
theorem dec_big {n : Nat} (h : 10 ≤ n) : Lib.decDigits n = Lib.decDigits (n / 10) ++ [UInt8.ofNat (48 + n % 10)] := by rw [Lib.decDigits, dif_neg (by omega)]
theorem dn_len2 {n : Int} (h : n < 100) : (dn n).length ≤ 2 := by
  unfold dn
  by_cases c : n.toNat < 10
  · rw [dec_small c]; simp
  · rw [dec_big (by omega), dec_small (by omega)]; simp
theorem strOf_digit (n : Int) (h0 : 0 ≤ n) (h1 : n < 10) : strOfNums [(wrap64 (48 + n)) % 256] = bsOf [UInt8.ofNat (48 + n.toNat)] := by
  apply bs_ext
  rw [bsOf_list, wsm (by omega) (by omega)]
  have : ((48 + n) % 256).toNat = 48 + n.toNat := by omega
  simp [strOfNums, this]
theorem l1Num_ev : ∀ (m : Nat) (n : Int), n.toNat = m → 0 ≤ n → n ≤ 1000000000000000000 → Ev (fun k => spec_l1Num.f k n) (bsOf (dn n)) := by
  intro m
  induction m using Nat.strongRecOn with
  | ind m ih =>
    intro n hm h0 h1
    refine ev_succ ?_
    simp only [spec_l1Num.f]
    unfold dn
    by_cases c : n < 10
    · refine ev_pos c ?_
      rw [dec_small (by omega), strOf_digit n h0 c]
      exact Ev.now _
    · refine ev_neg c ?_
      rw [Int.tdiv_eq_ediv_of_nonneg h0, Int.tmod_eq_emod_of_nonneg h0, wsm (n := n / 10) (by omega) (by omega)]
      refine Ev.bind (ih (n / 10).toNat (by omega) (n / 10) rfl (by omega) (by omega)) ?_
      simp only [Option.bind_some]
      rw [strOf_digit (n % 10) (by omega) (by omega)]
      have hl := dec_len (n / 10).toNat
      refine ev_pos (by rw [bsOf_size, bsOf_size]; unfold dn; simp; omega) ?_
      rw [bsOf_append, dec_big (n := n.toNat) (by omega)]
      unfold dn
      rw [show (n / 10).toNat = n.toNat / 10 by omega, show (n % 10).toNat = n.toNat % 10 by omega]
      exact Ev.now _
theorem num_ev {n : Int} (h0 : 0 ≤ n) (h1 : n ≤ 1000000000000000000) : Ev (fun k => spec_l1Num.f k n) (bsOf (dn n)) := l1Num_ev n.toNat n rfl h0 h1

end Go.Proofs.YtpeleommbipeaaaDoor.P
