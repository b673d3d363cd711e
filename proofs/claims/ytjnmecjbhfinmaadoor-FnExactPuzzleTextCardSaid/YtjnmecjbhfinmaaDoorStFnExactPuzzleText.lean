-- written by wip/gen.py (this session's) with the kit's printer; Lean checks it.
import Derived.Test.YtjnmecjbhfinmaaDoorFLawsFnExactPuzzleText
namespace Go.Proofs.YtjnmecjbhfinmaaDoor.P
open Go.Proofs.YtjnmecjbhfinmaaDoorW.PrintWords
def FnExactPuzzleText.Pure : Prop := ∀ (y0 : S53), (((Lit.int .i64 y0.f0).wf = true) ∧ (y0.f1.length ≤ maxLen ∧ y0.f1.length * 24 ≤ 140737488351232 ∧ ∀ y ∈ y0.f1, ((Lit.int .i64 y.f0).wf = true) ∧ ((Lit.int .i64 y.f1).wf = true) ∧ ((Lit.int .i64 y.f2).wf = true))) → ∃ k, laws_FnExactPuzzleText.f k y0.f0 y0.f1 = some true
end Go.Proofs.YtjnmecjbhfinmaaDoor.P
