/-
  DERIVED. GIVEN WITH THE SEED: THE CARDS: each row of YtedpjdkikbgojaaGreatDoorRows.lean that lists a variable, with what it lists TIED to the program's text (the seventh form; the later family's looks); each row that meets fmt, with fmt's text TOLD by the authors' own Lean function (tested against real Go, not proved from fmt's source: count such statements apart). THE CARD IS WHAT COUNTS. Prove the row's statement (the work); the ties are given (YtedpjdkikbgojaaGreatDoorTie.lean); close each card by the builder's one call (the guide's Derived/Test/ToyasCard.lean, 'card_holds'). Laid BY PROGRAM, IN A SANDBOX (cutbox-door.mjs). By AI agents, Wed Nov 11 2026. No macro, syntax, notation, axiom, sorry.
-/
import Derived.Test.YtedpjdkikbgojaaGreatDoorRows
import GoSem.ClaimSeven
namespace Go.Proofs.YtedpjdkikbgojaaGreatDoor
namespace Rows

/-- THE TIED CARD OF 'detentlaw23.JoinsRefused'. -/
def joinsRefusedCard : Claim7 := { stood := { row := joinsRefusedRow, standIns := [], harness := (true, "386ac6a7c9233cbac14b2e3ce687b7e382096b3575f479b9317e94b8b4bf68ce"), looks := false }, kinds := [], alts := [], laidByText := true, laidKinds := [.data], laidTests := true, laidLooks := .later }
def JoinsRefusedCardSaid : Prop := Claim7.holds Tryz.pinned (.plain (OpenSpec.ofChange joinsRefusedSpec)) joinsRefusedCard

/-- THE SECOND FORM's CARD OF 'detentlaw23.JoinsRefused'. -/
def joinsRefusedUptoCard : Claim7 := { stood := { row := joinsRefusedUptoRow, standIns := [], harness := (true, "386ac6a7c9233cbac14b2e3ce687b7e382096b3575f479b9317e94b8b4bf68ce"), looks := false }, kinds := [], alts := [], laidByText := true, laidKinds := [.data], laidTests := true, laidLooks := .later }
def JoinsRefusedUptoCardSaid : Prop := Claim7.holds Tryz.pinned (.plain (OpenSpec.upto joinsRefusedSpec)) joinsRefusedUptoCard
end Rows
end Go.Proofs.YtedpjdkikbgojaaGreatDoor
