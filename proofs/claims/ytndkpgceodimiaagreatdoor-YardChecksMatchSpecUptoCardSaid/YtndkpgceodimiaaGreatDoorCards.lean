/-
  DERIVED. GIVEN WITH THE SEED: THE CARDS: each row of YtndkpgceodimiaaGreatDoorRows.lean that lists a variable, with what it lists TIED to the program's text (the seventh form; the later family's looks); each row that meets fmt, with fmt's text TOLD by the authors' own Lean function (tested against real Go, not proved from fmt's source: count such statements apart). THE CARD IS WHAT COUNTS. Prove the row's statement (the work); the ties are given (YtndkpgceodimiaaGreatDoorTie.lean); close each card by the builder's one call (the guide's Derived/Test/ToyasCard.lean, 'card_holds'). Laid BY PROGRAM, IN A SANDBOX (cutbox-door.mjs). By AI agents, Wed Nov 11 2026. No macro, syntax, notation, axiom, sorry.
-/
import Derived.Test.YtndkpgceodimiaaGreatDoorRows
import GoSem.ClaimSeven
namespace Go.Proofs.YtndkpgceodimiaaGreatDoor
namespace Rows

/-- THE TIED CARD OF 'skewbacklaw33.YardChecksMatchSpec'. -/
def yardChecksMatchSpecCard : Claim7 := { stood := { row := yardChecksMatchSpecRow, standIns := [], harness := (true, "b096a1aff2d0a35cee5a880e1dc8ec072473cf47b60e43aef673cc0e4ca71736"), looks := false }, kinds := [], alts := [], laidByText := true, laidKinds := [.data, .data], laidTests := true, laidLooks := .later }
def YardChecksMatchSpecCardSaid : Prop := Claim7.holds Tryz.pinned (.plain (OpenSpec.ofChange yardChecksMatchSpecSpec)) yardChecksMatchSpecCard

/-- THE SECOND FORM's CARD OF 'skewbacklaw33.YardChecksMatchSpec'. -/
def yardChecksMatchSpecUptoCard : Claim7 := { stood := { row := yardChecksMatchSpecUptoRow, standIns := [], harness := (true, "b096a1aff2d0a35cee5a880e1dc8ec072473cf47b60e43aef673cc0e4ca71736"), looks := false }, kinds := [], alts := [], laidByText := true, laidKinds := [.data, .data], laidTests := true, laidLooks := .later }
def YardChecksMatchSpecUptoCardSaid : Prop := Claim7.holds Tryz.pinned (.plain (OpenSpec.upto yardChecksMatchSpecSpec)) yardChecksMatchSpecUptoCard
end Rows
end Go.Proofs.YtndkpgceodimiaaGreatDoor
