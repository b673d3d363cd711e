-- written by wip/gen.py (this session's) with the kit's printer; Lean checks it.
import Derived.Test.YtggeghckccmpnaaFLawsFnExactIsClue
namespace Go.Proofs.Ytggeghckccmpnaa.P
open Go.Proofs.YtggeghckccmpnaaW.PrintWords
def FnExactIsClue.Pure : Prop := ∀ (y0 : Int) (y1 : S32), ((Lit.int .i64 y0).wf = true) → (((Lit.int .i64 y1.f0).wf = true) ∧ ((Lit.int .i64 y1.f1).wf = true) ∧ ((Lit.int .i64 y1.f2).wf = true)) → ∃ k, laws_FnExactIsClue.f k y0 y1.f0 y1.f1 y1.f2 = some true
end Go.Proofs.Ytggeghckccmpnaa.P
