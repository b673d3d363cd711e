/-
  DERIVED. GIVEN WITH THE SEED: THE CARDS: each row of YtjnmecjbhfinmaaDoorRows.lean that lists a variable, with what it lists TIED to the program's text (the seventh form; the later family's looks); each row that meets fmt, with fmt's text TOLD by the authors' own Lean function (tested against real Go, not proved from fmt's source: count such statements apart). THE CARD IS WHAT COUNTS. Prove the row's statement (the work); the ties are given (YtjnmecjbhfinmaaDoorTie.lean); close each card by the builder's one call (the guide's Derived/Test/ToyasCard.lean, 'card_holds'). Laid BY PROGRAM, IN A SANDBOX (cutbox-door.mjs). By AI agents, Wed Nov 11 2026. No macro, syntax, notation, axiom, sorry.
-/
import Derived.Test.YtjnmecjbhfinmaaDoorRows
import GoSem.ClaimSeven
namespace Go.Proofs.YtjnmecjbhfinmaaDoor
namespace Rows

/-- THE TIED CARD OF 'laws.FnExactParseTune'. -/
def fnExactParseTuneCard : Claim7 := { stood := { row := fnExactParseTuneRow, standIns := [], harness := (true, "48a6b73df62cfc25cb10f070b28b78e3bc355ba63f80dd6038d42ce3c75ffd9b"), looks := false }, kinds := [], alts := [], laidByText := true, laidKinds := [.data, .pinned], laidTests := true, laidLooks := .later }
def FnExactParseTuneCardSaid : Prop := Claim7.holds Tryd.pinned (.plain (OpenSpec.ofChange fnExactParseTuneSpec)) fnExactParseTuneCard

/-- THE TIED CARD OF 'laws.FnTunesHeardOfAll'. -/
def fnTunesHeardOfAllCard : Claim7 := { stood := { row := fnTunesHeardOfAllRow, standIns := [], harness := (true, "48a6b73df62cfc25cb10f070b28b78e3bc355ba63f80dd6038d42ce3c75ffd9b"), looks := false }, kinds := [], alts := [], laidByText := true, laidKinds := [.data, .pinned], laidTests := true, laidLooks := .later }
def FnTunesHeardOfAllCardSaid : Prop := Claim7.holds Tryd.pinned (.plain (OpenSpec.ofChange fnTunesHeardOfAllSpec)) fnTunesHeardOfAllCard

/-- THE TIED CARD OF 'laws.FnTunesHeard'. -/
def fnTunesHeardCard : Claim7 := { stood := { row := fnTunesHeardRow, standIns := [], harness := (true, "48a6b73df62cfc25cb10f070b28b78e3bc355ba63f80dd6038d42ce3c75ffd9b"), looks := false }, kinds := [], alts := [], laidByText := true, laidKinds := [.data, .pinned], laidTests := true, laidLooks := .later }
def FnTunesHeardCardSaid : Prop := Claim7.holds Tryd.pinned (.plain (OpenSpec.ofChange fnTunesHeardSpec)) fnTunesHeardCard

/-- THE TIED CARD OF 'laws.FnExactPuzzleText'. -/
def fnExactPuzzleTextCard : Claim7 := { stood := { row := fnExactPuzzleTextRow, standIns := [], harness := (true, "48a6b73df62cfc25cb10f070b28b78e3bc355ba63f80dd6038d42ce3c75ffd9b"), looks := false }, kinds := [], alts := [], laidByText := true, laidKinds := [.data, .data, .data], laidTests := true, laidLooks := .later }
def FnExactPuzzleTextCardSaid : Prop := Claim7.holds Tryd.pinned (.plain (OpenSpec.ofChange fnExactPuzzleTextSpec)) fnExactPuzzleTextCard

/-- THE SECOND FORM's CARD OF 'laws.FnExactParseTune'. -/
def fnExactParseTuneUptoCard : Claim7 := { stood := { row := fnExactParseTuneUptoRow, standIns := [], harness := (true, "48a6b73df62cfc25cb10f070b28b78e3bc355ba63f80dd6038d42ce3c75ffd9b"), looks := false }, kinds := [], alts := [], laidByText := true, laidKinds := [.data, .pinned], laidTests := true, laidLooks := .later }
def FnExactParseTuneUptoCardSaid : Prop := Claim7.holds Tryd.pinned (.plain (OpenSpec.upto fnExactParseTuneSpec)) fnExactParseTuneUptoCard

/-- THE SECOND FORM's CARD OF 'laws.FnTunesHeardOfAll'. -/
def fnTunesHeardOfAllUptoCard : Claim7 := { stood := { row := fnTunesHeardOfAllUptoRow, standIns := [], harness := (true, "48a6b73df62cfc25cb10f070b28b78e3bc355ba63f80dd6038d42ce3c75ffd9b"), looks := false }, kinds := [], alts := [], laidByText := true, laidKinds := [.data, .pinned], laidTests := true, laidLooks := .later }
def FnTunesHeardOfAllUptoCardSaid : Prop := Claim7.holds Tryd.pinned (.plain (OpenSpec.upto fnTunesHeardOfAllSpec)) fnTunesHeardOfAllUptoCard

/-- THE SECOND FORM's CARD OF 'laws.FnTunesHeard'. -/
def fnTunesHeardUptoCard : Claim7 := { stood := { row := fnTunesHeardUptoRow, standIns := [], harness := (true, "48a6b73df62cfc25cb10f070b28b78e3bc355ba63f80dd6038d42ce3c75ffd9b"), looks := false }, kinds := [], alts := [], laidByText := true, laidKinds := [.data, .pinned], laidTests := true, laidLooks := .later }
def FnTunesHeardUptoCardSaid : Prop := Claim7.holds Tryd.pinned (.plain (OpenSpec.upto fnTunesHeardSpec)) fnTunesHeardUptoCard

/-- THE SECOND FORM's CARD OF 'laws.FnExactPuzzleText'. -/
def fnExactPuzzleTextUptoCard : Claim7 := { stood := { row := fnExactPuzzleTextUptoRow, standIns := [], harness := (true, "48a6b73df62cfc25cb10f070b28b78e3bc355ba63f80dd6038d42ce3c75ffd9b"), looks := false }, kinds := [], alts := [], laidByText := true, laidKinds := [.data, .data, .data], laidTests := true, laidLooks := .later }
def FnExactPuzzleTextUptoCardSaid : Prop := Claim7.holds Tryd.pinned (.plain (OpenSpec.upto fnExactPuzzleTextSpec)) fnExactPuzzleTextUptoCard
end Rows
end Go.Proofs.YtjnmecjbhfinmaaDoor
