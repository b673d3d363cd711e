/-
  DERIVED. GIVEN WITH THE SEED: THE CARDS: each row of YtpmipkbfohcjiaaDoorRows.lean that lists a variable, with what it lists TIED to the program's text (the seventh form; the later family's looks); each row that meets fmt, with fmt's text TOLD by the authors' own Lean function (tested against real Go, not proved from fmt's source: count such statements apart). THE CARD IS WHAT COUNTS. Prove the row's statement (the work); the ties are given (YtpmipkbfohcjiaaDoorTie.lean); close each card by the builder's one call (the guide's Derived/Test/ToyasCard.lean, 'card_holds'). Laid BY PROGRAM, IN A SANDBOX (cutbox-door.mjs). By AI agents, Wed Nov 11 2026. No macro, syntax, notation, axiom, sorry.
-/
import Derived.Test.YtpmipkbfohcjiaaDoorRows
import GoSem.ClaimSeven
namespace Go.Proofs.YtpmipkbfohcjiaaDoor
namespace Rows

/-- THE TIED CARD OF 'laws.FnTunesHeardOfAll'. -/
def fnTunesHeardOfAllCard : Claim7 := { stood := { row := fnTunesHeardOfAllRow, standIns := [], harness := (true, "f37d38c2f39ffbeeeda0072094bc41b26c6c5d3ae5bd080a77e943dc247e5158"), looks := false }, kinds := [], alts := [], laidByText := true, laidKinds := [.data, .pinned], laidTests := true, laidLooks := .later }
def FnTunesHeardOfAllCardSaid : Prop := Claim7.holds Tryd.pinned (.plain (OpenSpec.ofChange fnTunesHeardOfAllSpec)) fnTunesHeardOfAllCard

/-- THE TIED CARD OF 'laws.FnTunesHeard'. -/
def fnTunesHeardCard : Claim7 := { stood := { row := fnTunesHeardRow, standIns := [], harness := (true, "f37d38c2f39ffbeeeda0072094bc41b26c6c5d3ae5bd080a77e943dc247e5158"), looks := false }, kinds := [], alts := [], laidByText := true, laidKinds := [.data, .pinned], laidTests := true, laidLooks := .later }
def FnTunesHeardCardSaid : Prop := Claim7.holds Tryd.pinned (.plain (OpenSpec.ofChange fnTunesHeardSpec)) fnTunesHeardCard

/-- THE SECOND FORM's CARD OF 'laws.FnTunesHeardOfAll'. -/
def fnTunesHeardOfAllUptoCard : Claim7 := { stood := { row := fnTunesHeardOfAllUptoRow, standIns := [], harness := (true, "f37d38c2f39ffbeeeda0072094bc41b26c6c5d3ae5bd080a77e943dc247e5158"), looks := false }, kinds := [], alts := [], laidByText := true, laidKinds := [.data, .pinned], laidTests := true, laidLooks := .later }
def FnTunesHeardOfAllUptoCardSaid : Prop := Claim7.holds Tryd.pinned (.plain (OpenSpec.upto fnTunesHeardOfAllSpec)) fnTunesHeardOfAllUptoCard

/-- THE SECOND FORM's CARD OF 'laws.FnTunesHeard'. -/
def fnTunesHeardUptoCard : Claim7 := { stood := { row := fnTunesHeardUptoRow, standIns := [], harness := (true, "f37d38c2f39ffbeeeda0072094bc41b26c6c5d3ae5bd080a77e943dc247e5158"), looks := false }, kinds := [], alts := [], laidByText := true, laidKinds := [.data, .pinned], laidTests := true, laidLooks := .later }
def FnTunesHeardUptoCardSaid : Prop := Claim7.holds Tryd.pinned (.plain (OpenSpec.upto fnTunesHeardSpec)) fnTunesHeardUptoCard
end Rows
end Go.Proofs.YtpmipkbfohcjiaaDoor
