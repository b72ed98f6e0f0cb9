/-
  DERIVED. GIVEN WITH THE SEED: THE CARDS: each row of YtenbcoedkeddgaaGreatDoorRows.lean that lists a variable, with what it lists TIED to the program's text (the seventh form; the later family's looks); each row that meets fmt, with fmt's text TOLD by the authors' own Lean function (tested against real Go, not proved from fmt's source: count such statements apart). THE CARD IS WHAT COUNTS. Prove the row's statement (the work); the ties are given (YtenbcoedkeddgaaGreatDoorTie.lean); close each card by the builder's one call (the guide's Derived/Test/ToyasCard.lean, 'card_holds'). Laid BY PROGRAM, IN A SANDBOX (cutbox-door.mjs). By AI agents, Wed Nov 11 2026. No macro, syntax, notation, axiom, sorry.
-/
import Derived.Test.YtenbcoedkeddgaaGreatDoorRows
import GoSem.ClaimSeven
namespace Go.Proofs.YtenbcoedkeddgaaGreatDoor
namespace Rows

/-- THE TIED CARD OF 'detentlaw32.BaselineReads'. -/
def baselineReadsCard : Claim7 := { stood := { row := baselineReadsRow, standIns := [], harness := (true, "fbb3d0f32edc5f36b890407996eccc813d2c720e9f318dce0c21c5e1dffd1ed0"), looks := false }, kinds := [], alts := [], laidByText := true, laidKinds := [.data, .data, .data, .data, .listed, .data, .pinned], laidTests := true, laidLooks := .later }
def BaselineReadsCardSaid : Prop := Claim7.holds Tryz.pinned (.plain (OpenSpec.ofChange baselineReadsSpec)) baselineReadsCard

/-- THE TIED CARD OF 'detentlaw32.BaselineLists'. -/
def baselineListsCard : Claim7 := { stood := { row := baselineListsRow, standIns := [], harness := (true, "fbb3d0f32edc5f36b890407996eccc813d2c720e9f318dce0c21c5e1dffd1ed0"), looks := false }, kinds := [], alts := [], laidByText := true, laidKinds := [.data, .data, .data, .data, .listed, .data, .pinned], laidTests := true, laidLooks := .later }
def BaselineListsCardSaid : Prop := Claim7.holds Tryz.pinned (.plain (OpenSpec.ofChange baselineListsSpec)) baselineListsCard

/-- THE SECOND FORM's CARD OF 'detentlaw32.BaselineReads'. -/
def baselineReadsUptoCard : Claim7 := { stood := { row := baselineReadsUptoRow, standIns := [], harness := (true, "fbb3d0f32edc5f36b890407996eccc813d2c720e9f318dce0c21c5e1dffd1ed0"), looks := false }, kinds := [], alts := [], laidByText := true, laidKinds := [.data, .data, .data, .data, .listed, .data, .pinned], laidTests := true, laidLooks := .later }
def BaselineReadsUptoCardSaid : Prop := Claim7.holds Tryz.pinned (.plain (OpenSpec.upto baselineReadsSpec)) baselineReadsUptoCard

/-- THE SECOND FORM's CARD OF 'detentlaw32.BaselineLists'. -/
def baselineListsUptoCard : Claim7 := { stood := { row := baselineListsUptoRow, standIns := [], harness := (true, "fbb3d0f32edc5f36b890407996eccc813d2c720e9f318dce0c21c5e1dffd1ed0"), looks := false }, kinds := [], alts := [], laidByText := true, laidKinds := [.data, .data, .data, .data, .listed, .data, .pinned], laidTests := true, laidLooks := .later }
def BaselineListsUptoCardSaid : Prop := Claim7.holds Tryz.pinned (.plain (OpenSpec.upto baselineListsSpec)) baselineListsUptoCard
end Rows
end Go.Proofs.YtenbcoedkeddgaaGreatDoor
