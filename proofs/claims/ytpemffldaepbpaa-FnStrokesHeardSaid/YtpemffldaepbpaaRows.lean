/-
  No cell of these rows narrows 'for every input' (looked for: loops, veiled, ifaces, maps, wideKeys, modest, calm, conditions, laid).
  DERIVED. THE GIVEN ROWS OF THIS SEAT. 3 by the template 'for every input the law returns true; each argument reads behind the call as it read before'; 0 by the template 'total and deterministic' (their statements: YtpemffldaepbpaaTotals.lean).
  GIVEN WITH THE SEED: the statements are not yours to turn. If you find one false, say at which input.
  Laid BY PROGRAM, IN A SANDBOX (cutbox-rows.mjs): the forced cells as the released guide's own fill.sh prints them over the translation 5cc53d4e10a65f85… (all of the seat's roots in one cut). By AI agents, Wed Nov 11 2026. No macro, syntax, notation, axiom, sorry.
-/
import Derived.Test.YtpemffldaepbpaaChecked
import GoSem.Claim
import GoSem.ClaimJoined
import GoSem.ClaimMapViews
import Derived.JoinedTies
import Derived.KernelRfl
namespace Go.Proofs.Ytpemffldaepbpaa
/- THE CELL 'sum', in the pinned program and in every row, IS THE sha256 OF THE DUMP (.gsa) THAT YtpemffldaepbpaaProg.lean LOADS. Nothing in Lean hashes anything: it is a label: what it is worth is what the hold of that sum in a sandbox is worth. -/
noncomputable def Try.pinned : Pinned := { name := "ytpemffldaepbpaa", sum := "5cc53d4e10a65f853b78ba31eb7b4eec6432dfe35f7a019d608884d16811786e", checked := Try.checked }
namespace Rows
def none {H : Type} : Left H := { results := [], args := [] }

/-- 'laws.FnStrokesWaited': WHATEVER THE INPUT: true; the input reads as it did. -/
def fnStrokesWaitedSpec : ChangeSpec := { name := "fnStrokesWaited", fn := fun _ => fun
  | [d1, d2] => { results := [.lit (.bool true)], args := [d1, d2] }
  | _ => none }
def fnStrokesWaitedRow : OpenClaim := { program := "ytpemffldaepbpaa", sum := "5cc53d4e10a65f853b78ba31eb7b4eec6432dfe35f7a019d608884d16811786e", func := "loop.example/g01241/laws.FnStrokesWaited", spec := "fnStrokesWaited", apart := false }
def FnStrokesWaitedSaid : Prop := fnStrokesWaitedRow.holds Try.pinned (OpenSpec.ofChange fnStrokesWaitedSpec)

/-- ITS FALSE NEIGHBOUR: 'it returns false'. Refute it at one input. -/
def fnStrokesWaitedWrong : ChangeSpec := { name := "fnStrokesWaited", fn := fun _ => fun
  | [d1, d2] => { results := [.lit (.bool false)], args := [d1, d2] }
  | _ => none }
def FnStrokesWaitedWrongFalsely : Prop := fnStrokesWaitedRow.holds Try.pinned (OpenSpec.ofChange fnStrokesWaitedWrong)

/-- 'laws.FnStrokesCounted': WHATEVER THE INPUT: true; the input reads as it did. -/
def fnStrokesCountedSpec : ChangeSpec := { name := "fnStrokesCounted", fn := fun _ => fun
  | [d1, d2] => { results := [.lit (.bool true)], args := [d1, d2] }
  | _ => none }
def fnStrokesCountedRow : OpenClaim := { program := "ytpemffldaepbpaa", sum := "5cc53d4e10a65f853b78ba31eb7b4eec6432dfe35f7a019d608884d16811786e", func := "loop.example/g01241/laws.FnStrokesCounted", spec := "fnStrokesCounted", unfollowed := true, recurses := true, apart := false }
def FnStrokesCountedSaid : Prop := fnStrokesCountedRow.holds Try.pinned (OpenSpec.ofChange fnStrokesCountedSpec)

/-- ITS FALSE NEIGHBOUR: 'it returns false'. Refute it at one input. -/
def fnStrokesCountedWrong : ChangeSpec := { name := "fnStrokesCounted", fn := fun _ => fun
  | [d1, d2] => { results := [.lit (.bool false)], args := [d1, d2] }
  | _ => none }
def FnStrokesCountedWrongFalsely : Prop := fnStrokesCountedRow.holds Try.pinned (OpenSpec.ofChange fnStrokesCountedWrong)

/-- 'laws.FnStrokesHeard': WHATEVER THE INPUT: true; the input reads as it did. -/
def fnStrokesHeardSpec : ChangeSpec := { name := "fnStrokesHeard", fn := fun _ => fun
  | [d1, d2] => { results := [.lit (.bool true)], args := [d1, d2] }
  | _ => none }
def fnStrokesHeardRow : OpenClaim := { program := "ytpemffldaepbpaa", sum := "5cc53d4e10a65f853b78ba31eb7b4eec6432dfe35f7a019d608884d16811786e", func := "loop.example/g01241/laws.FnStrokesHeard", spec := "fnStrokesHeard", unfollowed := true, recurses := true, apart := false }
def FnStrokesHeardSaid : Prop := fnStrokesHeardRow.holds Try.pinned (OpenSpec.ofChange fnStrokesHeardSpec)

/-- ITS FALSE NEIGHBOUR: 'it returns false'. Refute it at one input. -/
def fnStrokesHeardWrong : ChangeSpec := { name := "fnStrokesHeard", fn := fun _ => fun
  | [d1, d2] => { results := [.lit (.bool false)], args := [d1, d2] }
  | _ => none }
def FnStrokesHeardWrongFalsely : Prop := fnStrokesHeardRow.holds Try.pinned (OpenSpec.ofChange fnStrokesHeardWrong)

/- THE SECOND FORM. 'bulk': how many values and letters a reading holds, each counted each time it is reached (what is shared counts as often as it is met; a slice's spare places count too). A statement '..UptoSaid' is the law's where the arguments, and the package variables that the reading takes, are together of bulk at most 1048576: NARROWER than '..Said'. Prove '..Said' where nothing that the law and all that it calls make is longer than what came in: it says more and counts as full. Else prove '..UptoSaid'. A law counts once. -/
mutual
def uptoBulk {H : Type} : DataW H → Nat
  | .lit (.string bytes) => bytes.length + 1
  | .lit _ => 1
  | .nil => 1
  | .ptr d => uptoBulk d + 1
  | .slice elems spare => uptoBulkAll elems + uptoBulkAll spare + 1
  | .agg parts => uptoBulkAll parts + 1
  | .iface _ d => uptoBulk d + 1
  | .map entries => uptoBulkEntries entries + 1
  | .held _ => 1
def uptoBulkAll {H : Type} : List (DataW H) → Nat
  | [] => 0
  | d :: r => uptoBulk d + uptoBulkAll r
def uptoBulkEntries {H : Type} : List (Lit × DataW H) → Nat
  | [] => 0
  | x :: r => uptoBulkEntry x + uptoBulkEntries r
def uptoBulkEntry {H : Type} : Lit × DataW H → Nat
  | (.string bytes, d) => bytes.length + uptoBulk d + 1
  | (_, d) => uptoBulk d + 1
 end
def uptoSmall : (H : Type) → List (DataW H) → Bool := fun _ ds => decide (uptoBulkAll ds ≤ 1048576)
def OpenSpec.upto (s : _root_.Go.ChangeSpec) : _root_.Go.OpenSpec := { _root_.Go.OpenSpec.ofChange s with cond := some uptoSmall }

/-- 'laws.FnStrokesWaited', WHERE WHAT IT READS IS OF BULK AT MOST 1048576: true; the input reads as it did. -/
def fnStrokesWaitedUptoRow : OpenClaim := { program := "ytpemffldaepbpaa", sum := "5cc53d4e10a65f853b78ba31eb7b4eec6432dfe35f7a019d608884d16811786e", func := "loop.example/g01241/laws.FnStrokesWaited", spec := "fnStrokesWaited", apart := false, narrowed := true }
def FnStrokesWaitedUptoSaid : Prop := fnStrokesWaitedUptoRow.holds Try.pinned (OpenSpec.upto fnStrokesWaitedSpec)

/-- 'laws.FnStrokesCounted', WHERE WHAT IT READS IS OF BULK AT MOST 1048576: true; the input reads as it did. -/
def fnStrokesCountedUptoRow : OpenClaim := { program := "ytpemffldaepbpaa", sum := "5cc53d4e10a65f853b78ba31eb7b4eec6432dfe35f7a019d608884d16811786e", func := "loop.example/g01241/laws.FnStrokesCounted", spec := "fnStrokesCounted", unfollowed := true, recurses := true, apart := false, narrowed := true }
def FnStrokesCountedUptoSaid : Prop := fnStrokesCountedUptoRow.holds Try.pinned (OpenSpec.upto fnStrokesCountedSpec)

/-- 'laws.FnStrokesHeard', WHERE WHAT IT READS IS OF BULK AT MOST 1048576: true; the input reads as it did. -/
def fnStrokesHeardUptoRow : OpenClaim := { program := "ytpemffldaepbpaa", sum := "5cc53d4e10a65f853b78ba31eb7b4eec6432dfe35f7a019d608884d16811786e", func := "loop.example/g01241/laws.FnStrokesHeard", spec := "fnStrokesHeard", unfollowed := true, recurses := true, apart := false, narrowed := true }
def FnStrokesHeardUptoSaid : Prop := fnStrokesHeardUptoRow.holds Try.pinned (OpenSpec.upto fnStrokesHeardSpec)

end Rows
end Go.Proofs.Ytpemffldaepbpaa
