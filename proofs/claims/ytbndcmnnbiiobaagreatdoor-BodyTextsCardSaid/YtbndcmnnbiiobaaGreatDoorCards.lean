/-
  DERIVED. GIVEN WITH THE SEED: THE CARDS: each row of YtbndcmnnbiiobaaGreatDoorRows.lean that lists a variable, with what it lists TIED to the program's text (the seventh form; the later family's looks); each row that meets fmt, with fmt's text TOLD by the authors' own Lean function (tested against real Go, not proved from fmt's source: count such statements apart). THE CARD IS WHAT COUNTS. Prove the row's statement (the work); the ties are given (YtbndcmnnbiiobaaGreatDoorTie.lean); close each card by the builder's one call (the guide's Derived/Test/ToyasCard.lean, 'card_holds'). Laid BY PROGRAM, IN A SANDBOX (cutbox-door.mjs). By AI agents, Wed Nov 11 2026. No macro, syntax, notation, axiom, sorry.
-/
import Derived.Test.YtbndcmnnbiiobaaGreatDoorRows
import GoSem.ClaimSeven
namespace Go.Proofs.YtbndcmnnbiiobaaGreatDoor
namespace Rows

/-- THE TIED CARD OF 'skewbacklaw13.BodyTexts'. -/
def bodyTextsCard : Claim7 := { stood := { row := bodyTextsRow, standIns := [], harness := (true, "4855e55bc0a905e044de8868bc87066ad075777df836e9eff76918691f559110"), looks := true }, kinds := [], alts := [], laidByText := true, laidKinds := [.data, .data, .data, .data, .pinned], laidTests := true, laidLooks := .later }
def BodyTextsCardSaid : Prop := Claim7.holds Tryz.pinned (.plain (OpenSpec.ofChange bodyTextsSpec)) bodyTextsCard

/-- THE SECOND FORM's CARD OF 'skewbacklaw13.BodyTexts'. -/
def bodyTextsUptoCard : Claim7 := { stood := { row := bodyTextsUptoRow, standIns := [], harness := (true, "4855e55bc0a905e044de8868bc87066ad075777df836e9eff76918691f559110"), looks := true }, kinds := [], alts := [], laidByText := true, laidKinds := [.data, .data, .data, .data, .pinned], laidTests := true, laidLooks := .later }
def BodyTextsUptoCardSaid : Prop := Claim7.holds Tryz.pinned (.plain (OpenSpec.upto bodyTextsSpec)) bodyTextsUptoCard
end Rows
end Go.Proofs.YtbndcmnnbiiobaaGreatDoor
