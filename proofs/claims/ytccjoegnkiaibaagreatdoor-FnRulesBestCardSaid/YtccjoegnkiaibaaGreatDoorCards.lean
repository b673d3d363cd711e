/-
  DERIVED. GIVEN WITH THE SEED: THE CARDS: each row of YtccjoegnkiaibaaGreatDoorRows.lean that lists a variable, with what it lists TIED to the program's text (the seventh form; the later family's looks); each row that meets fmt, with fmt's text TOLD by the authors' own Lean function (tested against real Go, not proved from fmt's source: count such statements apart). THE CARD IS WHAT COUNTS. Prove the row's statement (the work); the ties are given (YtccjoegnkiaibaaGreatDoorTie.lean); close each card by the builder's one call (the guide's Derived/Test/ToyasCard.lean, 'card_holds'). Laid BY PROGRAM, IN A SANDBOX (cutbox-door.mjs). By AI agents, Wed Nov 11 2026. No macro, syntax, notation, axiom, sorry.
-/
import Derived.Test.YtccjoegnkiaibaaGreatDoorRows
import GoSem.ClaimSeven
namespace Go.Proofs.YtccjoegnkiaibaaGreatDoor
namespace Rows

/-- THE TIED CARD OF 'laws.FnHandsStand'. -/
def fnHandsStandCard : Claim7 := { stood := { row := fnHandsStandRow, standIns := [], harness := (true, "e7eb01da5e0fb625039ac795aa12e5cbc53e42109e21622f43dab1cfafc7aef9"), looks := true }, kinds := [], alts := [], laidByText := true, laidKinds := [.data, .data, .data, .sentinel, .sentinel], laidTests := true, laidLooks := .later }
def FnHandsStandCardSaid : Prop := Claim7.holds Tryz.pinned (.plain (OpenSpec.ofChange fnHandsStandSpec)) fnHandsStandCard

/-- THE TIED CARD OF 'laws.FnRulesBest'. -/
def fnRulesBestCard : Claim7 := { stood := { row := fnRulesBestRow, standIns := [], harness := (true, "e7eb01da5e0fb625039ac795aa12e5cbc53e42109e21622f43dab1cfafc7aef9"), looks := true }, kinds := [], alts := [], laidByText := true, laidKinds := [.data, .data, .data, .sentinel, .sentinel], laidTests := true, laidLooks := .later }
def FnRulesBestCardSaid : Prop := Claim7.holds Tryz.pinned (.plain (OpenSpec.ofChange fnRulesBestSpec)) fnRulesBestCard

/-- THE SECOND FORM's CARD OF 'laws.FnHandsStand'. -/
def fnHandsStandUptoCard : Claim7 := { stood := { row := fnHandsStandUptoRow, standIns := [], harness := (true, "e7eb01da5e0fb625039ac795aa12e5cbc53e42109e21622f43dab1cfafc7aef9"), looks := true }, kinds := [], alts := [], laidByText := true, laidKinds := [.data, .data, .data, .sentinel, .sentinel], laidTests := true, laidLooks := .later }
def FnHandsStandUptoCardSaid : Prop := Claim7.holds Tryz.pinned (.plain (OpenSpec.upto fnHandsStandSpec)) fnHandsStandUptoCard

/-- THE SECOND FORM's CARD OF 'laws.FnRulesBest'. -/
def fnRulesBestUptoCard : Claim7 := { stood := { row := fnRulesBestUptoRow, standIns := [], harness := (true, "e7eb01da5e0fb625039ac795aa12e5cbc53e42109e21622f43dab1cfafc7aef9"), looks := true }, kinds := [], alts := [], laidByText := true, laidKinds := [.data, .data, .data, .sentinel, .sentinel], laidTests := true, laidLooks := .later }
def FnRulesBestUptoCardSaid : Prop := Claim7.holds Tryz.pinned (.plain (OpenSpec.upto fnRulesBestSpec)) fnRulesBestUptoCard
end Rows
end Go.Proofs.YtccjoegnkiaibaaGreatDoor
