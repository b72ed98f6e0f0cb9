/-
  DERIVED. GIVEN WITH THE SEED: THE CARDS: each row of YtbijipibbddgdaaGreatDoorRows.lean that lists a variable, with what it lists TIED to the program's text (the seventh form; the later family's looks); each row that meets fmt, with fmt's text TOLD by the authors' own Lean function (tested against real Go, not proved from fmt's source: count such statements apart). THE CARD IS WHAT COUNTS. Prove the row's statement (the work); the ties are given (YtbijipibbddgdaaGreatDoorTie.lean); close each card by the builder's one call (the guide's Derived/Test/ToyasCard.lean, 'card_holds'). Laid BY PROGRAM, IN A SANDBOX (cutbox-door.mjs). By AI agents, Wed Nov 11 2026. No macro, syntax, notation, axiom, sorry.
-/
import Derived.Test.YtbijipibbddgdaaGreatDoorRows
import GoSem.ClaimSeven
namespace Go.Proofs.YtbijipibbddgdaaGreatDoor
namespace Rows

/-- THE TIED CARD OF 'detentlaw26.DriverWords'. -/
def driverWordsCard : Claim7 := { stood := { row := driverWordsRow, standIns := [], harness := (true, "b79a39c11eba24f800385859a56b7872467422a4e46ed70969d7eaca5d1ad0ee"), looks := true }, kinds := [], alts := [], laidByText := true, laidKinds := [.data, .data, .data, .listed, .data], laidTests := true, laidLooks := .later }
def DriverWordsCardSaid : Prop := Claim7.holds Tryz.pinned (.plain (OpenSpec.ofChange driverWordsSpec)) driverWordsCard

/-- THE SECOND FORM's CARD OF 'detentlaw26.DriverWords'. -/
def driverWordsUptoCard : Claim7 := { stood := { row := driverWordsUptoRow, standIns := [], harness := (true, "b79a39c11eba24f800385859a56b7872467422a4e46ed70969d7eaca5d1ad0ee"), looks := true }, kinds := [], alts := [], laidByText := true, laidKinds := [.data, .data, .data, .listed, .data], laidTests := true, laidLooks := .later }
def DriverWordsUptoCardSaid : Prop := Claim7.holds Tryz.pinned (.plain (OpenSpec.upto driverWordsSpec)) driverWordsUptoCard
end Rows
end Go.Proofs.YtbijipibbddgdaaGreatDoor
