/-
  DERIVED. GIVEN WITH THE SEED: THE CARDS: each row of YtppbphgcnlelaaaGreatDoorRows.lean that lists a variable, with what it lists TIED to the program's text (the seventh form; the later family's looks); each row that meets fmt, with fmt's text TOLD by the authors' own Lean function (tested against real Go, not proved from fmt's source: count such statements apart). THE CARD IS WHAT COUNTS. Prove the row's statement (the work); the ties are given (YtppbphgcnlelaaaGreatDoorTie.lean); close each card by the builder's one call (the guide's Derived/Test/ToyasCard.lean, 'card_holds'). Laid BY PROGRAM, IN A SANDBOX (cutbox-door.mjs). By AI agents, Wed Nov 11 2026. No macro, syntax, notation, axiom, sorry.
-/
import Derived.Test.YtppbphgcnlelaaaGreatDoorRows
import GoSem.ClaimSeven
namespace Go.Proofs.YtppbphgcnlelaaaGreatDoor
namespace Rows

/-- THE TIED CARD OF 'detentlaw06.LowerSites'. -/
def lowerSitesCard : Claim7 := { stood := { row := lowerSitesRow, standIns := [], harness := (true, "6db0196e1038c84f784fbf5b39ea9cba782a540dd170d9a6d150232f9d713712"), looks := true }, kinds := [], alts := [], laidByText := true, laidKinds := [.data, .data, .data, .listed, .data], laidTests := true, laidLooks := .later }
def LowerSitesCardSaid : Prop := Claim7.holds Tryz.pinned (.plain (OpenSpec.ofChange lowerSitesSpec)) lowerSitesCard

/-- THE SECOND FORM's CARD OF 'detentlaw06.LowerSites'. -/
def lowerSitesUptoCard : Claim7 := { stood := { row := lowerSitesUptoRow, standIns := [], harness := (true, "6db0196e1038c84f784fbf5b39ea9cba782a540dd170d9a6d150232f9d713712"), looks := true }, kinds := [], alts := [], laidByText := true, laidKinds := [.data, .data, .data, .listed, .data], laidTests := true, laidLooks := .later }
def LowerSitesUptoCardSaid : Prop := Claim7.holds Tryz.pinned (.plain (OpenSpec.upto lowerSitesSpec)) lowerSitesUptoCard
end Rows
end Go.Proofs.YtppbphgcnlelaaaGreatDoor
