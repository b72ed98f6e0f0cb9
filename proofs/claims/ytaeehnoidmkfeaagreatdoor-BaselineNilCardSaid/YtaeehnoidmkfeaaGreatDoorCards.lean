/-
  DERIVED. GIVEN WITH THE SEED: THE CARDS: each row of YtaeehnoidmkfeaaGreatDoorRows.lean that lists a variable, with what it lists TIED to the program's text (the seventh form; the later family's looks); each row that meets fmt, with fmt's text TOLD by the authors' own Lean function (tested against real Go, not proved from fmt's source: count such statements apart). THE CARD IS WHAT COUNTS. Prove the row's statement (the work); the ties are given (YtaeehnoidmkfeaaGreatDoorTie.lean); close each card by the builder's one call (the guide's Derived/Test/ToyasCard.lean, 'card_holds'). Laid BY PROGRAM, IN A SANDBOX (cutbox-door.mjs). By AI agents, Wed Nov 11 2026. No macro, syntax, notation, axiom, sorry.
-/
import Derived.Test.YtaeehnoidmkfeaaGreatDoorRows
import GoSem.ClaimSeven
namespace Go.Proofs.YtaeehnoidmkfeaaGreatDoor
namespace Rows

/-- THE TIED CARD OF 'detentlaw32.BaselineNil'. -/
def baselineNilCard : Claim7 := { stood := { row := baselineNilRow, standIns := [], harness := (true, "990737a23960ac72fd3f04984859c1ec1b7676ae13ebbcb0dbd0e4dc962c9819"), looks := true }, kinds := [], alts := [], laidByText := true, laidKinds := [.data, .listed, .data, .data, .data, .pinned, .data], laidTests := true, laidLooks := .later }
def BaselineNilCardSaid : Prop := Claim7.holds Tryz.pinned (.plain (OpenSpec.ofChange baselineNilSpec)) baselineNilCard

/-- THE SECOND FORM's CARD OF 'detentlaw32.BaselineNil'. -/
def baselineNilUptoCard : Claim7 := { stood := { row := baselineNilUptoRow, standIns := [], harness := (true, "990737a23960ac72fd3f04984859c1ec1b7676ae13ebbcb0dbd0e4dc962c9819"), looks := true }, kinds := [], alts := [], laidByText := true, laidKinds := [.data, .listed, .data, .data, .data, .pinned, .data], laidTests := true, laidLooks := .later }
def BaselineNilUptoCardSaid : Prop := Claim7.holds Tryz.pinned (.plain (OpenSpec.upto baselineNilSpec)) baselineNilUptoCard
end Rows
end Go.Proofs.YtaeehnoidmkfeaaGreatDoor
