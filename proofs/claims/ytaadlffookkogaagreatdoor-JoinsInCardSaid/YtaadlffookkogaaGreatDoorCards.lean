/-
  DERIVED. GIVEN WITH THE SEED: THE CARDS: each row of YtaadlffookkogaaGreatDoorRows.lean that lists a variable, with what it lists TIED to the program's text (the seventh form; the later family's looks); each row that meets fmt, with fmt's text TOLD by the authors' own Lean function (tested against real Go, not proved from fmt's source: count such statements apart). THE CARD IS WHAT COUNTS. Prove the row's statement (the work); the ties are given (YtaadlffookkogaaGreatDoorTie.lean); close each card by the builder's one call (the guide's Derived/Test/ToyasCard.lean, 'card_holds'). Laid BY PROGRAM, IN A SANDBOX (cutbox-door.mjs). By AI agents, Wed Nov 11 2026. No macro, syntax, notation, axiom, sorry.
-/
import Derived.Test.YtaadlffookkogaaGreatDoorRows
import GoSem.ClaimSeven
namespace Go.Proofs.YtaadlffookkogaaGreatDoor
namespace Rows

/-- THE TIED CARD OF 'detentlaw23.JoinsIn'. -/
def joinsInCard : Claim7 := { stood := { row := joinsInRow, standIns := [], harness := (true, "78d25212b890dbc2d542edb4f151829bbddd515c1be791ab772c0aa107c85a94"), looks := false }, kinds := [], alts := [], laidByText := true, laidKinds := [.data], laidTests := true, laidLooks := .later }
def JoinsInCardSaid : Prop := Claim7.holds Tryz.pinned (.plain (OpenSpec.ofChange joinsInSpec)) joinsInCard

/-- THE SECOND FORM's CARD OF 'detentlaw23.JoinsIn'. -/
def joinsInUptoCard : Claim7 := { stood := { row := joinsInUptoRow, standIns := [], harness := (true, "78d25212b890dbc2d542edb4f151829bbddd515c1be791ab772c0aa107c85a94"), looks := false }, kinds := [], alts := [], laidByText := true, laidKinds := [.data], laidTests := true, laidLooks := .later }
def JoinsInUptoCardSaid : Prop := Claim7.holds Tryz.pinned (.plain (OpenSpec.upto joinsInSpec)) joinsInUptoCard
end Rows
end Go.Proofs.YtaadlffookkogaaGreatDoor
