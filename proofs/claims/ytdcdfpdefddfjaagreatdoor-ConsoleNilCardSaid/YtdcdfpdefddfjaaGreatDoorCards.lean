/-
  DERIVED. GIVEN WITH THE SEED: THE CARDS: each row of YtdcdfpdefddfjaaGreatDoorRows.lean that lists a variable, with what it lists TIED to the program's text (the seventh form; the later family's looks); each row that meets fmt, with fmt's text TOLD by the authors' own Lean function (tested against real Go, not proved from fmt's source: count such statements apart). THE CARD IS WHAT COUNTS. Prove the row's statement (the work); the ties are given (YtdcdfpdefddfjaaGreatDoorTie.lean); close each card by the builder's one call (the guide's Derived/Test/ToyasCard.lean, 'card_holds'). Laid BY PROGRAM, IN A SANDBOX (cutbox-door.mjs). By AI agents, Wed Nov 11 2026. No macro, syntax, notation, axiom, sorry.
-/
import Derived.Test.YtdcdfpdefddfjaaGreatDoorRows
import GoSem.ClaimSeven
namespace Go.Proofs.YtdcdfpdefddfjaaGreatDoor
namespace Rows

/-- THE TIED CARD OF 'detentlaw27.ConsoleNil'. -/
def consoleNilCard : Claim7 := { stood := { row := consoleNilRow, standIns := [], harness := (true, "36913702f7b684d6479cc5b1403f0ab4e7db680e019d06e86f564ccfbf257670"), looks := true }, kinds := [], alts := [], laidByText := true, laidKinds := [.data, .listed, .data, .data, .data, .sentinel, .sentinel, .pinned, .data], laidTests := true, laidLooks := .later }
def ConsoleNilCardSaid : Prop := Claim7.holds Tryz.pinned (.plain (OpenSpec.ofChange consoleNilSpec)) consoleNilCard

/-- THE SECOND FORM's CARD OF 'detentlaw27.ConsoleNil'. -/
def consoleNilUptoCard : Claim7 := { stood := { row := consoleNilUptoRow, standIns := [], harness := (true, "36913702f7b684d6479cc5b1403f0ab4e7db680e019d06e86f564ccfbf257670"), looks := true }, kinds := [], alts := [], laidByText := true, laidKinds := [.data, .listed, .data, .data, .data, .sentinel, .sentinel, .pinned, .data], laidTests := true, laidLooks := .later }
def ConsoleNilUptoCardSaid : Prop := Claim7.holds Tryz.pinned (.plain (OpenSpec.upto consoleNilSpec)) consoleNilUptoCard
end Rows
end Go.Proofs.YtdcdfpdefddfjaaGreatDoor
