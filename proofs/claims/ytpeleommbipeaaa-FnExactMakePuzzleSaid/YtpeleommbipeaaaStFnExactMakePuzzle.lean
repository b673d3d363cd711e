-- written by wip/gen.py (this session's) with the kit's printer; Lean checks it.
import Derived.Test.YtpeleommbipeaaaFLawsFnExactMakePuzzle
namespace Go.Proofs.Ytpeleommbipeaaa.P
open Go.Proofs.YtpeleommbipeaaaW.PrintWords
def FnExactMakePuzzle.Pure : Prop := ∀ (y0 : Int) (y1 : Int) (y2 : Int) (y3 : Int), ((Lit.int .i64 y0).wf = true) → ((Lit.int .i64 y1).wf = true) → ((Lit.int .i64 y2).wf = true) → ((Lit.int .i64 y3).wf = true) → ∃ k, laws_FnExactMakePuzzle.f k y0 y1 y2 y3 = some true
end Go.Proofs.Ytpeleommbipeaaa.P
