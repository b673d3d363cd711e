/- What the program's functions compute, walked by the machine (part 4). No conditions but those stated. -/
import Derived.Test.YtpmipkbfohcjiaaFnFnTunesPlayedOfAll3
namespace Go.Proofs.Ytpmipkbfohcjiaa.M
open Go Go.PM Go.Proofs.Ytpmipkbfohcjiaa.P
set_option linter.unusedVariables false
set_option maxRecDepth 100000
def FnTunesPlayedOfAll.Pure : Prop := ∀ (y0 : List ByteArray) (y1 : Int) (y2 : List ByteArray) (y3 : Int) (y4 : Int), (y0.length ≤ maxLen ∧ y0.length * 16 ≤ 140737488351232 ∧ ∀ x ∈ y0, x.size ≤ 140737488351232) → ((Lit.int .i64 y1).wf = true) → (y2.length ≤ maxLen ∧ y2.length * 16 ≤ 140737488351232 ∧ ∀ x ∈ y2, x.size ≤ 140737488351232) → ((Lit.int .i64 y3).wf = true) → ((Lit.int .i64 y4).wf = true) → ∃ N, laws_FnTunesPlayedOfAll.g N y0 y1 y2 y3 y4 = some true
end Go.Proofs.Ytpmipkbfohcjiaa.M
