/-
  DERIVED. GIVEN WITH THE SEED: THE CARDS: each row of YtmeblifndelpbaaDoorRows.lean that lists a variable, with what it lists TIED to the program's text (the seventh form; the later family's looks); each row that meets fmt, with fmt's text TOLD by the authors' own Lean function (tested against real Go, not proved from fmt's source: count such statements apart). THE CARD IS WHAT COUNTS. Prove the row's statement (the work); the ties are given (YtmeblifndelpbaaDoorTie.lean); close each card by the builder's one call (the guide's Derived/Test/ToyasCard.lean, 'card_holds'). Laid BY PROGRAM, IN A SANDBOX (cutbox-door.mjs). By AI agents, Wed Nov 11 2026. No macro, syntax, notation, axiom, sorry.
-/
import Derived.Test.YtmeblifndelpbaaDoorRows
import GoSem.ClaimSeven
namespace Go.Proofs.YtmeblifndelpbaaDoor
namespace Rows

/-- THE TIED CARD OF 'detentlaw13.TraceFinals'. -/
def traceFinalsCard : Claim7 := { stood := { row := traceFinalsRow, standIns := [], harness := (true, "18dca466658f1c9978bf7f20305f2626f28bbb3df1cac78a42f0f2b31863da03"), looks := false }, kinds := [], alts := [], laidByText := true, laidKinds := [.data, .data, .data], laidTests := true, laidLooks := .later }
def TraceFinalsCardSaid : Prop := Claim7.holds Tryd.pinned (.plain (OpenSpec.ofChange traceFinalsSpec)) traceFinalsCard

/-- THE SECOND FORM's CARD OF 'detentlaw13.TraceFinals'. -/
def traceFinalsUptoCard : Claim7 := { stood := { row := traceFinalsUptoRow, standIns := [], harness := (true, "18dca466658f1c9978bf7f20305f2626f28bbb3df1cac78a42f0f2b31863da03"), looks := false }, kinds := [], alts := [], laidByText := true, laidKinds := [.data, .data, .data], laidTests := true, laidLooks := .later }
def TraceFinalsUptoCardSaid : Prop := Claim7.holds Tryd.pinned (.plain (OpenSpec.upto traceFinalsSpec)) traceFinalsUptoCard
end Rows
end Go.Proofs.YtmeblifndelpbaaDoor
