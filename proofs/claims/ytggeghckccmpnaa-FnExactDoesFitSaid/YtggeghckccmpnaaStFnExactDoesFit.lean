-- written by wip/gen.py (this session's) with the kit's printer; Lean checks it.
import Derived.Test.YtggeghckccmpnaaFLawsFnExactDoesFit
namespace Go.Proofs.Ytggeghckccmpnaa.P
open Go.Proofs.YtggeghckccmpnaaW.PrintWords
def FnExactDoesFit.Pure : Prop := ∀ (y0 : Int) (y1 : S32) (y2 : Int), ((Lit.int .i64 y0).wf = true) → (((Lit.int .i64 y1.f0).wf = true) ∧ ((Lit.int .i64 y1.f1).wf = true) ∧ ((Lit.int .i64 y1.f2).wf = true)) → ((Lit.int .i64 y2).wf = true) → ∃ k, laws_FnExactDoesFit.f k y0 y1.f0 y1.f1 y1.f2 y2 = some true
end Go.Proofs.Ytggeghckccmpnaa.P
