/-
  DERIVED. GIVEN WITH THE SEED: THE CARDS: each row of YtfnieibeimklcaaGreatDoorRows.lean that lists a variable, with what it lists TIED to the program's text (the seventh form; the later family's looks); each row that meets fmt, with fmt's text TOLD by the authors' own Lean function (tested against real Go, not proved from fmt's source: count such statements apart). THE CARD IS WHAT COUNTS. Prove the row's statement (the work); the ties are given (YtfnieibeimklcaaGreatDoorTie.lean); close each card by the builder's one call (the guide's Derived/Test/ToyasCard.lean, 'card_holds'). Laid BY PROGRAM, IN A SANDBOX (cutbox-door.mjs). By AI agents, Wed Nov 11 2026. No macro, syntax, notation, axiom, sorry.
-/
import Derived.Test.YtfnieibeimklcaaGreatDoorRows
import GoSem.ClaimSeven
namespace Go.Proofs.YtfnieibeimklcaaGreatDoor
namespace Rows

/-- THE TIED CARD OF 'detentlaw27.ConsoleLong'. -/
def consoleLongCard : Claim7 := { stood := { row := consoleLongRow, standIns := [], harness := (true, "54b717db56769a5aec2be3a059e52adebeebbfaf76c3ea40ea3f3c5737169062"), looks := true }, kinds := [], alts := [], laidByText := true, laidKinds := [.data, .listed, .data, .data, .data, .sentinel, .sentinel, .pinned, .data], laidTests := true, laidLooks := .later }
def ConsoleLongCardSaid : Prop := Claim7.holds Tryz.pinned (.plain (OpenSpec.ofChange consoleLongSpec)) consoleLongCard

/-- THE SECOND FORM's CARD OF 'detentlaw27.ConsoleLong'. -/
def consoleLongUptoCard : Claim7 := { stood := { row := consoleLongUptoRow, standIns := [], harness := (true, "54b717db56769a5aec2be3a059e52adebeebbfaf76c3ea40ea3f3c5737169062"), looks := true }, kinds := [], alts := [], laidByText := true, laidKinds := [.data, .listed, .data, .data, .data, .sentinel, .sentinel, .pinned, .data], laidTests := true, laidLooks := .later }
def ConsoleLongUptoCardSaid : Prop := Claim7.holds Tryz.pinned (.plain (OpenSpec.upto consoleLongSpec)) consoleLongUptoCard
end Rows
end Go.Proofs.YtfnieibeimklcaaGreatDoor
