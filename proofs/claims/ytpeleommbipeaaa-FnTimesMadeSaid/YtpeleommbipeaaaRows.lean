/-
  No cell of these rows narrows 'for every input' (looked for: loops, veiled, ifaces, maps, wideKeys, modest, calm, conditions, laid).
  DERIVED. THE GIVEN ROWS OF THIS SEAT. 4 by the template 'for every input the law returns true; each argument reads behind the call as it read before'; 0 by the template 'total and deterministic' (their statements: YtpeleommbipeaaaTotals.lean).
  GIVEN WITH THE SEED: the statements are not yours to turn. If you find one false, say at which input.
  Laid BY PROGRAM, IN A SANDBOX (cutbox-rows.mjs): the forced cells as the released guide's own fill.sh prints them over the translation 7dac35780e5081fa… (all of the seat's roots in one cut). By AI agents, Wed Nov 11 2026. No macro, syntax, notation, axiom, sorry.
-/
import Derived.Test.YtpeleommbipeaaaChecked
import GoSem.Claim
import GoSem.ClaimJoined
import GoSem.ClaimMapViews
import Derived.JoinedTies
import Derived.KernelRfl
namespace Go.Proofs.Ytpeleommbipeaaa
/- THE CELL 'sum', in the pinned program and in every row, IS THE sha256 OF THE DUMP (.gsa) THAT YtpeleommbipeaaaProg.lean LOADS. Nothing in Lean hashes anything: it is a label: what it is worth is what the hold of that sum in a sandbox is worth. -/
noncomputable def Try.pinned : Pinned := { name := "ytpeleommbipeaaa", sum := "7dac35780e5081fa8303c31cc6a9479d29bcffb2597370fe61af999ecd93b112", checked := Try.checked }
namespace Rows
def none {H : Type} : Left H := { results := [], args := [] }

/-- 'laws.FnExactMakePuzzle': WHATEVER THE INPUT: true; the input reads as it did. -/
def fnExactMakePuzzleSpec : ChangeSpec := { name := "fnExactMakePuzzle", fn := fun _ => fun
  | [d1, d2, d3, d4] => { results := [.lit (.bool true)], args := [d1, d2, d3, d4] }
  | _ => none }
def fnExactMakePuzzleRow : OpenClaim := { program := "ytpeleommbipeaaa", sum := "7dac35780e5081fa8303c31cc6a9479d29bcffb2597370fe61af999ecd93b112", func := "loop.example/g01241/laws.FnExactMakePuzzle", spec := "fnExactMakePuzzle", unfollowed := true, recurses := true, apart := false }
def FnExactMakePuzzleSaid : Prop := fnExactMakePuzzleRow.holds Try.pinned (OpenSpec.ofChange fnExactMakePuzzleSpec)

/-- ITS FALSE NEIGHBOUR: 'it returns false'. Refute it at one input. -/
def fnExactMakePuzzleWrong : ChangeSpec := { name := "fnExactMakePuzzle", fn := fun _ => fun
  | [d1, d2, d3, d4] => { results := [.lit (.bool false)], args := [d1, d2, d3, d4] }
  | _ => none }
def FnExactMakePuzzleWrongFalsely : Prop := fnExactMakePuzzleRow.holds Try.pinned (OpenSpec.ofChange fnExactMakePuzzleWrong)

/-- 'laws.FnExactAddClue': WHATEVER THE INPUT: true; the input reads as it did. -/
def fnExactAddClueSpec : ChangeSpec := { name := "fnExactAddClue", fn := fun _ => fun
  | [d1, d2] => { results := [.lit (.bool true)], args := [d1, d2] }
  | _ => none }
def fnExactAddClueRow : OpenClaim := { program := "ytpeleommbipeaaa", sum := "7dac35780e5081fa8303c31cc6a9479d29bcffb2597370fe61af999ecd93b112", func := "loop.example/g01241/laws.FnExactAddClue", spec := "fnExactAddClue", unfollowed := true, recurses := true, apart := false }
def FnExactAddClueSaid : Prop := fnExactAddClueRow.holds Try.pinned (OpenSpec.ofChange fnExactAddClueSpec)

/-- ITS FALSE NEIGHBOUR: 'it returns false'. Refute it at one input. -/
def fnExactAddClueWrong : ChangeSpec := { name := "fnExactAddClue", fn := fun _ => fun
  | [d1, d2] => { results := [.lit (.bool false)], args := [d1, d2] }
  | _ => none }
def FnExactAddClueWrongFalsely : Prop := fnExactAddClueRow.holds Try.pinned (OpenSpec.ofChange fnExactAddClueWrong)

/-- 'laws.FnTimesMadeOfAll': WHATEVER THE INPUT: true; the input reads as it did. -/
def fnTimesMadeOfAllSpec : ChangeSpec := { name := "fnTimesMadeOfAll", fn := fun _ => fun
  | [d1, d2, d3, d4, d5, d6, d7, d8, d9, d10, d11, d12] => { results := [.lit (.bool true)], args := [d1, d2, d3, d4, d5, d6, d7, d8, d9, d10, d11, d12] }
  | _ => none }
def fnTimesMadeOfAllRow : OpenClaim := { program := "ytpeleommbipeaaa", sum := "7dac35780e5081fa8303c31cc6a9479d29bcffb2597370fe61af999ecd93b112", func := "loop.example/g01241/laws.FnTimesMadeOfAll", spec := "fnTimesMadeOfAll", unfollowed := true, recurses := true, apart := false }
def FnTimesMadeOfAllSaid : Prop := fnTimesMadeOfAllRow.holds Try.pinned (OpenSpec.ofChange fnTimesMadeOfAllSpec)

/-- ITS FALSE NEIGHBOUR: 'it returns false'. Refute it at one input. -/
def fnTimesMadeOfAllWrong : ChangeSpec := { name := "fnTimesMadeOfAll", fn := fun _ => fun
  | [d1, d2, d3, d4, d5, d6, d7, d8, d9, d10, d11, d12] => { results := [.lit (.bool false)], args := [d1, d2, d3, d4, d5, d6, d7, d8, d9, d10, d11, d12] }
  | _ => none }
def FnTimesMadeOfAllWrongFalsely : Prop := fnTimesMadeOfAllRow.holds Try.pinned (OpenSpec.ofChange fnTimesMadeOfAllWrong)

/-- 'laws.FnTimesMade': WHATEVER THE INPUT: true; the input reads as it did. -/
def fnTimesMadeSpec : ChangeSpec := { name := "fnTimesMade", fn := fun _ => fun
  | [d1, d2] => { results := [.lit (.bool true)], args := [d1, d2] }
  | _ => none }
def fnTimesMadeRow : OpenClaim := { program := "ytpeleommbipeaaa", sum := "7dac35780e5081fa8303c31cc6a9479d29bcffb2597370fe61af999ecd93b112", func := "loop.example/g01241/laws.FnTimesMade", spec := "fnTimesMade", unfollowed := true, recurses := true, apart := false }
def FnTimesMadeSaid : Prop := fnTimesMadeRow.holds Try.pinned (OpenSpec.ofChange fnTimesMadeSpec)

/-- ITS FALSE NEIGHBOUR: 'it returns false'. Refute it at one input. -/
def fnTimesMadeWrong : ChangeSpec := { name := "fnTimesMade", fn := fun _ => fun
  | [d1, d2] => { results := [.lit (.bool false)], args := [d1, d2] }
  | _ => none }
def FnTimesMadeWrongFalsely : Prop := fnTimesMadeRow.holds Try.pinned (OpenSpec.ofChange fnTimesMadeWrong)

/- THE SECOND FORM. 'bulk': how many values and letters a reading holds, each counted each time it is reached (what is shared counts as often as it is met; a slice's spare places count too). A statement '..UptoSaid' is the law's where the arguments, and the package variables that the reading takes, are together of bulk at most 1048576: NARROWER than '..Said'. Prove '..Said' where nothing that the law and all that it calls make is longer than what came in: it says more and counts as full. Else prove '..UptoSaid'. A law counts once. -/
mutual
def uptoBulk {H : Type} : DataW H → Nat
  | .lit (.string bytes) => bytes.length + 1
  | .lit _ => 1
  | .nil => 1
  | .ptr d => uptoBulk d + 1
  | .slice elems spare => uptoBulkAll elems + uptoBulkAll spare + 1
  | .agg parts => uptoBulkAll parts + 1
  | .iface _ d => uptoBulk d + 1
  | .map entries => uptoBulkEntries entries + 1
  | .held _ => 1
def uptoBulkAll {H : Type} : List (DataW H) → Nat
  | [] => 0
  | d :: r => uptoBulk d + uptoBulkAll r
def uptoBulkEntries {H : Type} : List (Lit × DataW H) → Nat
  | [] => 0
  | x :: r => uptoBulkEntry x + uptoBulkEntries r
def uptoBulkEntry {H : Type} : Lit × DataW H → Nat
  | (.string bytes, d) => bytes.length + uptoBulk d + 1
  | (_, d) => uptoBulk d + 1
 end
def uptoSmall : (H : Type) → List (DataW H) → Bool := fun _ ds => decide (uptoBulkAll ds ≤ 1048576)
def OpenSpec.upto (s : _root_.Go.ChangeSpec) : _root_.Go.OpenSpec := { _root_.Go.OpenSpec.ofChange s with cond := some uptoSmall }

/-- 'laws.FnExactMakePuzzle', WHERE WHAT IT READS IS OF BULK AT MOST 1048576: true; the input reads as it did. -/
def fnExactMakePuzzleUptoRow : OpenClaim := { program := "ytpeleommbipeaaa", sum := "7dac35780e5081fa8303c31cc6a9479d29bcffb2597370fe61af999ecd93b112", func := "loop.example/g01241/laws.FnExactMakePuzzle", spec := "fnExactMakePuzzle", unfollowed := true, recurses := true, apart := false, narrowed := true }
def FnExactMakePuzzleUptoSaid : Prop := fnExactMakePuzzleUptoRow.holds Try.pinned (OpenSpec.upto fnExactMakePuzzleSpec)

/-- 'laws.FnExactAddClue', WHERE WHAT IT READS IS OF BULK AT MOST 1048576: true; the input reads as it did. -/
def fnExactAddClueUptoRow : OpenClaim := { program := "ytpeleommbipeaaa", sum := "7dac35780e5081fa8303c31cc6a9479d29bcffb2597370fe61af999ecd93b112", func := "loop.example/g01241/laws.FnExactAddClue", spec := "fnExactAddClue", unfollowed := true, recurses := true, apart := false, narrowed := true }
def FnExactAddClueUptoSaid : Prop := fnExactAddClueUptoRow.holds Try.pinned (OpenSpec.upto fnExactAddClueSpec)

/-- 'laws.FnTimesMadeOfAll', WHERE WHAT IT READS IS OF BULK AT MOST 1048576: true; the input reads as it did. -/
def fnTimesMadeOfAllUptoRow : OpenClaim := { program := "ytpeleommbipeaaa", sum := "7dac35780e5081fa8303c31cc6a9479d29bcffb2597370fe61af999ecd93b112", func := "loop.example/g01241/laws.FnTimesMadeOfAll", spec := "fnTimesMadeOfAll", unfollowed := true, recurses := true, apart := false, narrowed := true }
def FnTimesMadeOfAllUptoSaid : Prop := fnTimesMadeOfAllUptoRow.holds Try.pinned (OpenSpec.upto fnTimesMadeOfAllSpec)

/-- 'laws.FnTimesMade', WHERE WHAT IT READS IS OF BULK AT MOST 1048576: true; the input reads as it did. -/
def fnTimesMadeUptoRow : OpenClaim := { program := "ytpeleommbipeaaa", sum := "7dac35780e5081fa8303c31cc6a9479d29bcffb2597370fe61af999ecd93b112", func := "loop.example/g01241/laws.FnTimesMade", spec := "fnTimesMade", unfollowed := true, recurses := true, apart := false, narrowed := true }
def FnTimesMadeUptoSaid : Prop := fnTimesMadeUptoRow.holds Try.pinned (OpenSpec.upto fnTimesMadeSpec)

end Rows
end Go.Proofs.Ytpeleommbipeaaa
