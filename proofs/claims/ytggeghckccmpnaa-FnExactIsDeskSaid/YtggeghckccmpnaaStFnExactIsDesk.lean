-- written by wip/gen.py (this session's) with the kit's printer; Lean checks it.
import Derived.Test.YtggeghckccmpnaaFLawsFnExactIsDesk
namespace Go.Proofs.Ytggeghckccmpnaa.P
open Go.Proofs.YtggeghckccmpnaaW.PrintWords
def FnExactIsDesk.Pure : Prop := ∀ (y0 : S41), (((Lit.int .i64 y0.f0).wf = true) ∧ (((Lit.int .i64 y0.f1.f0).wf = true) ∧ ((Lit.int .i64 y0.f1.f1).wf = true)) ∧ ((((Lit.int .i64 y0.f2.f0.f0).wf = true) ∧ ((Lit.int .i64 y0.f2.f0.f1).wf = true)) ∧ ((Lit.int .i64 y0.f2.f1).wf = true) ∧ ((Lit.int .i64 y0.f2.f2).wf = true))) → ∃ k, laws_FnExactIsDesk.f k y0.f0 y0.f1.f0 y0.f1.f1 y0.f2.f0.f0 y0.f2.f0.f1 y0.f2.f1 y0.f2.f2 = some true
end Go.Proofs.Ytggeghckccmpnaa.P
