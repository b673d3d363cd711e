-- written by wip/gen.py (this session's) with the kit's printer; Lean checks it.
import Derived.Test.YtpeleommbipeaaaFLawsFnExactAddClueC
namespace Go.Proofs.Ytpeleommbipeaaa.P
open Go.Proofs.YtpeleommbipeaaaW.PrintWords
def FnExactAddClue.Pure : Prop := ∀ (y0 : S32) (y1 : S34), (((Lit.int .i64 y0.f0).wf = true) ∧ (y0.f1.length ≤ maxLen ∧ y0.f1.length * 24 ≤ 140737488351232 ∧ ∀ y ∈ y0.f1, ((Lit.int .i64 y.f0).wf = true) ∧ ((Lit.int .i64 y.f1).wf = true) ∧ ((Lit.int .i64 y.f2).wf = true))) → (((Lit.int .i64 y1.f0).wf = true) ∧ ((Lit.int .i64 y1.f1).wf = true) ∧ ((Lit.int .i64 y1.f2).wf = true)) → ∃ k, laws_FnExactAddClue.f k y0.f0 y0.f1 y1.f0 y1.f1 y1.f2 = some true
end Go.Proofs.Ytpeleommbipeaaa.P
