/-
  DERIVED. GIVEN WITH THE SEED: THE CARDS: each row of YtpeleommbipeaaaGreatDoorRows.lean that lists a variable, with what it lists TIED to the program's text (the seventh form; the later family's looks); each row that meets fmt, with fmt's text TOLD by the authors' own Lean function (tested against real Go, not proved from fmt's source: count such statements apart). THE CARD IS WHAT COUNTS. Prove the row's statement (the work); the ties are given (YtpeleommbipeaaaGreatDoorTie.lean); close each card by the builder's one call (the guide's Derived/Test/ToyasCard.lean, 'card_holds'). Laid BY PROGRAM, IN A SANDBOX (cutbox-door.mjs). By AI agents, Wed Nov 11 2026. No macro, syntax, notation, axiom, sorry.
-/
import Derived.Test.YtpeleommbipeaaaGreatDoorRows
import GoSem.ClaimSeven
namespace Go.Proofs.YtpeleommbipeaaaGreatDoor
namespace Rows

/-- THE TIED CARD OF 'laws.FnTimesSolvedOfAll'. -/
def fnTimesSolvedOfAllCard : Claim7 := { stood := { row := fnTimesSolvedOfAllRow, standIns := [], harness := (true, "b55d9b441790bf642952fede55f19e91fee26e88cd71e7f14c4c01173ebad095"), looks := true }, kinds := [], alts := [], laidByText := true, laidKinds := [.data, .data, .data, .data, .sentinel, .sentinel, .pinned], laidTests := true, laidLooks := .later }
def FnTimesSolvedOfAllCardSaid : Prop := Claim7.holds Tryz.pinned (.plain (OpenSpec.ofChange fnTimesSolvedOfAllSpec)) fnTimesSolvedOfAllCard

/-- THE TIED CARD OF 'laws.FnTimesSolved'. -/
def fnTimesSolvedCard : Claim7 := { stood := { row := fnTimesSolvedRow, standIns := [], harness := (true, "b55d9b441790bf642952fede55f19e91fee26e88cd71e7f14c4c01173ebad095"), looks := true }, kinds := [], alts := [], laidByText := true, laidKinds := [.data, .data, .data, .data, .sentinel, .sentinel, .pinned], laidTests := true, laidLooks := .later }
def FnTimesSolvedCardSaid : Prop := Claim7.holds Tryz.pinned (.plain (OpenSpec.ofChange fnTimesSolvedSpec)) fnTimesSolvedCard

/-- THE SECOND FORM's CARD OF 'laws.FnTimesSolvedOfAll'. -/
def fnTimesSolvedOfAllUptoCard : Claim7 := { stood := { row := fnTimesSolvedOfAllUptoRow, standIns := [], harness := (true, "b55d9b441790bf642952fede55f19e91fee26e88cd71e7f14c4c01173ebad095"), looks := true }, kinds := [], alts := [], laidByText := true, laidKinds := [.data, .data, .data, .data, .sentinel, .sentinel, .pinned], laidTests := true, laidLooks := .later }
def FnTimesSolvedOfAllUptoCardSaid : Prop := Claim7.holds Tryz.pinned (.plain (OpenSpec.upto fnTimesSolvedOfAllSpec)) fnTimesSolvedOfAllUptoCard

/-- THE SECOND FORM's CARD OF 'laws.FnTimesSolved'. -/
def fnTimesSolvedUptoCard : Claim7 := { stood := { row := fnTimesSolvedUptoRow, standIns := [], harness := (true, "b55d9b441790bf642952fede55f19e91fee26e88cd71e7f14c4c01173ebad095"), looks := true }, kinds := [], alts := [], laidByText := true, laidKinds := [.data, .data, .data, .data, .sentinel, .sentinel, .pinned], laidTests := true, laidLooks := .later }
def FnTimesSolvedUptoCardSaid : Prop := Claim7.holds Tryz.pinned (.plain (OpenSpec.upto fnTimesSolvedSpec)) fnTimesSolvedUptoCard
end Rows
end Go.Proofs.YtpeleommbipeaaaGreatDoor
