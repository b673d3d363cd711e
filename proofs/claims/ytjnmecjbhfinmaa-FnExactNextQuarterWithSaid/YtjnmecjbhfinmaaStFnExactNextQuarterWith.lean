-- written by wip/gen.py (this session's) with the kit's printer; Lean checks it.
import Derived.Test.YtjnmecjbhfinmaaFLawsFnExactNextQuarterWith
namespace Go.Proofs.Ytjnmecjbhfinmaa.P
open Go.Proofs.YtjnmecjbhfinmaaW.PrintWords
def FnExactNextQuarterWith.Pure : Prop := ∀ (y0 : List ByteArray) (y1 : Int) (y2 : Int), (y0.length ≤ maxLen ∧ y0.length * 16 ≤ 140737488351232 ∧ ∀ y ∈ y0, y.size ≤ 140737488351232) → ((Lit.int .i64 y1).wf = true) → ((Lit.int .i64 y2).wf = true) → ∃ k, laws_FnExactNextQuarterWith.f k y0 y1 y2 = some true
end Go.Proofs.Ytjnmecjbhfinmaa.P
