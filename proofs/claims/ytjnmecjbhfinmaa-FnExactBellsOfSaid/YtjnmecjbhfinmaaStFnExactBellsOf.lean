-- written by wip/gen.py (this session's) with the kit's printer; Lean checks it.
import Derived.Test.YtjnmecjbhfinmaaFLawsFnExactBellsOf
namespace Go.Proofs.Ytjnmecjbhfinmaa.P
open Go.Proofs.YtjnmecjbhfinmaaW.PrintWords
def FnExactBellsOf.Pure : Prop := ∀ (y0 : List ByteArray), (y0.length ≤ maxLen ∧ y0.length * 16 ≤ 140737488351232 ∧ ∀ y ∈ y0, y.size ≤ 140737488351232) → ∃ k, laws_FnExactBellsOf.f k y0 = some true
end Go.Proofs.Ytjnmecjbhfinmaa.P
