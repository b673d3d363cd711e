-- written by wip/gen.py (this session's) with the kit's printer; Lean checks it.
import Derived.Test.YtpeleommbipeaaaDoorFLawsFnExactParsePuzzle
namespace Go.Proofs.YtpeleommbipeaaaDoor.P
open Go.Proofs.YtpeleommbipeaaaDoorW.PrintWords
def FnExactParsePuzzle.Pure : Prop := ∀ (y0 : ByteArray), (y0.size ≤ 140737488351232) → ∃ k, laws_FnExactParsePuzzle.f k y0 = some true
end Go.Proofs.YtpeleommbipeaaaDoor.P
