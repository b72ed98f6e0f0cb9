/-
  DERIVED. GIVEN WITH THE SEED: THE CARDS: each row of YtdpohandjgnknaaGreatDoorRows.lean that lists a variable, with what it lists TIED to the program's text (the seventh form; the later family's looks); each row that meets fmt, with fmt's text TOLD by the authors' own Lean function (tested against real Go, not proved from fmt's source: count such statements apart). THE CARD IS WHAT COUNTS. Prove the row's statement (the work); the ties are given (YtdpohandjgnknaaGreatDoorTie.lean); close each card by the builder's one call (the guide's Derived/Test/ToyasCard.lean, 'card_holds'). Laid BY PROGRAM, IN A SANDBOX (cutbox-door.mjs). By AI agents, Wed Nov 11 2026. No macro, syntax, notation, axiom, sorry.
-/
import Derived.Test.YtdpohandjgnknaaGreatDoorRows
import GoSem.ClaimSeven
namespace Go.Proofs.YtdpohandjgnknaaGreatDoor
namespace Rows

/-- THE TIED CARD OF 'detentlaw31.ShrinkLess'. -/
def shrinkLessCard : Claim7 := { stood := { row := shrinkLessRow, standIns := [], harness := (true, "0d02a1e0bf58386a9fe0a6b72e727a557564ab7d80d514f5d84608d4076b5c04"), looks := true }, kinds := [], alts := [], laidByText := true, laidKinds := [.data, .data, .data], laidTests := true, laidLooks := .later }
def ShrinkLessCardSaid : Prop := Claim7.holds Tryz.pinned (.plain (OpenSpec.ofChange shrinkLessSpec)) shrinkLessCard

/-- THE TIED CARD OF 'detentlaw31.ShrinkNil'. -/
def shrinkNilCard : Claim7 := { stood := { row := shrinkNilRow, standIns := [], harness := (true, "0d02a1e0bf58386a9fe0a6b72e727a557564ab7d80d514f5d84608d4076b5c04"), looks := true }, kinds := [], alts := [], laidByText := true, laidKinds := [.data, .data, .data], laidTests := true, laidLooks := .later }
def ShrinkNilCardSaid : Prop := Claim7.holds Tryz.pinned (.plain (OpenSpec.ofChange shrinkNilSpec)) shrinkNilCard

/-- THE SECOND FORM's CARD OF 'detentlaw31.ShrinkLess'. -/
def shrinkLessUptoCard : Claim7 := { stood := { row := shrinkLessUptoRow, standIns := [], harness := (true, "0d02a1e0bf58386a9fe0a6b72e727a557564ab7d80d514f5d84608d4076b5c04"), looks := true }, kinds := [], alts := [], laidByText := true, laidKinds := [.data, .data, .data], laidTests := true, laidLooks := .later }
def ShrinkLessUptoCardSaid : Prop := Claim7.holds Tryz.pinned (.plain (OpenSpec.upto shrinkLessSpec)) shrinkLessUptoCard

/-- THE SECOND FORM's CARD OF 'detentlaw31.ShrinkNil'. -/
def shrinkNilUptoCard : Claim7 := { stood := { row := shrinkNilUptoRow, standIns := [], harness := (true, "0d02a1e0bf58386a9fe0a6b72e727a557564ab7d80d514f5d84608d4076b5c04"), looks := true }, kinds := [], alts := [], laidByText := true, laidKinds := [.data, .data, .data], laidTests := true, laidLooks := .later }
def ShrinkNilUptoCardSaid : Prop := Claim7.holds Tryz.pinned (.plain (OpenSpec.upto shrinkNilSpec)) shrinkNilUptoCard
end Rows
end Go.Proofs.YtdpohandjgnknaaGreatDoor
