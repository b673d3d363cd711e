/- The tune with a text. -/
import Derived.Test.YtjnmecjbhfinmaaDoorLSplit
import Derived.Test.YtjnmecjbhfinmaaDoorLTune
import Derived.Test.YtjnmecjbhfinmaaDoorFImplParseTune
import Derived.Test.YtjnmecjbhfinmaaDoorFSpecParseTune
namespace Go.Proofs.YtjnmecjbhfinmaaDoor.P
open Go.RowKit Go.Proofs.YtjnmecjbhfinmaaDoorW.PrintWords Go.Proofs.YtjnmecjbhfinmaaDoorW.PrintLast
set_option linter.unusedVariables false
set_option linter.unusedSimpArgs false

theorem tune_short (s : ByteArray) (h : tuneOk (pieces 47 s) = true) : s.size ≤ 120 := by
  obtain ⟨h1, h2, hs⟩ := tuneOk_facts h
  have := pieces_sum 47 s
  have := sum_le_mul (fun x : ByteArray => x.size) 8 (fun x hx => (hs x hx).2)
  omega
def parseB (s : ByteArray) : List ByteArray × Bool := if tuneOk (pieces 47 s) = true then (pieces 47 s, true) else ([], false)
theorem parse_len (s : ByteArray) : (parseB s).1.length ≤ 12 := by
  unfold parseB
  split
  · next h => exact (tuneOk_facts h).2.1
  · simp
theorem impl_parse_ev (s : ByteArray) (hs : s.size ≤ 1048576) : Ev (fun k => impl_ParseTune.f k s) (parseB s) := by
  unfold impl_ParseTune.f parseB
  rw [split_eq s 47 (by omega)]
  simp only [Option.bind_some]
  refine Ev.bind (isTune_ev _ (fun x hx => by have := pieces_size 47 s x hx; omega)) ?_
  by_cases h : tuneOk (pieces 47 s) = true
  · refine ev_pos h ?_
    rw [if_pos h]
    exact Ev.now _
  · refine ev_neg h ?_
    rw [if_neg h]
    exact Ev.now _
theorem spec_parse_ev (s : ByteArray) (hs : s.size ≤ 1048576) : Ev (fun k => spec_ParseTune.f k s) (parseB s) := by
  unfold spec_ParseTune.f parseB
  by_cases hl : (s.size : Int) > 120
  · refine ev_pos hl ?_
    rw [if_neg (fun h => by have := tune_short s h; omega)]
    exact Ev.now _
  · refine ev_neg hl ?_
    refine Ev.bind (l1Split_ev s 47 (by omega)) ?_
    refine Ev.bind (beTune_ev _ (fun x hx => by have := pieces_size 47 s x hx; omega)) ?_
    by_cases h : tuneOk (pieces 47 s) = true
    · refine ev_pos h ?_
      rw [if_pos h]
      exact Ev.bind (l1Split_ev s 47 (by omega)) (Ev.now _)
    · refine ev_neg h ?_
      rw [if_neg h]
      exact Ev.now _

end Go.Proofs.YtjnmecjbhfinmaaDoor.P
