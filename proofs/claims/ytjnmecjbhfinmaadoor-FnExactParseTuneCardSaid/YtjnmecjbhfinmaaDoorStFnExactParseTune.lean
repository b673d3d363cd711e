-- written by wip/gen.py (this session's) with the kit's printer; Lean checks it.
import Derived.Test.YtjnmecjbhfinmaaDoorFLawsFnExactParseTune
namespace Go.Proofs.YtjnmecjbhfinmaaDoor.P
open Go.Proofs.YtjnmecjbhfinmaaDoorW.PrintWords
def FnExactParseTune.Pure : Prop := ∀ (y0 : ByteArray), (y0.size ≤ 140737488351232) → ∃ k, laws_FnExactParseTune.f k y0 = some true
end Go.Proofs.YtjnmecjbhfinmaaDoor.P
