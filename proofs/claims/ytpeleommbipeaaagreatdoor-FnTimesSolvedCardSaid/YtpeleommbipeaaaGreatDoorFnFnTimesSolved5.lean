/- What the program's functions compute, walked by the machine (part 5). No conditions but those stated. -/
import Derived.Test.YtpeleommbipeaaaGreatDoorFnFnTimesSolved4
noncomputable section
namespace Go.Proofs.YtpeleommbipeaaaGreatDoor.M
open Go Go.PM Go.Proofs.YtpeleommbipeaaaGreatDoor.P
set_option linter.unusedVariables false
set_option maxRecDepth 100000
def FnTimesSolved.Pure : Prop := ∀ (y0 : List Int) (y1 : List Int), (y0.length ≤ maxLen ∧ y0.length * 1 ≤ 140737488351232 ∧ ∀ x ∈ y0, (Lit.int .u8 x).wf = true) → (y1.length ≤ maxLen ∧ y1.length * 1 ≤ 140737488351232 ∧ ∀ x ∈ y1, (Lit.int .u8 x).wf = true) → ∃ N, zq33.g N y0 y1 = some true
end Go.Proofs.YtpeleommbipeaaaGreatDoor.M
end
