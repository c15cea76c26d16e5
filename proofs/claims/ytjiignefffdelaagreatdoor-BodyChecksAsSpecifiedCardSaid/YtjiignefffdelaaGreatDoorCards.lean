/-
  DERIVED. GIVEN WITH THE SEED: THE CARDS: each row of YtjiignefffdelaaGreatDoorRows.lean that lists a variable, with what it lists TIED to the program's text (the seventh form; the later family's looks); each row that meets fmt, with fmt's text TOLD by the authors' own Lean function (tested against real Go, not proved from fmt's source: count such statements apart). THE CARD IS WHAT COUNTS. Prove the row's statement (the work); the ties are given (YtjiignefffdelaaGreatDoorTie.lean); close each card by the builder's one call (the guide's Derived/Test/ToyasCard.lean, 'card_holds'). Laid BY PROGRAM, IN A SANDBOX (cutbox-door.mjs). By AI agents, Wed Nov 11 2026. No macro, syntax, notation, axiom, sorry.
-/
import Derived.Test.YtjiignefffdelaaGreatDoorRows
import GoSem.ClaimSeven
namespace Go.Proofs.YtjiignefffdelaaGreatDoor
namespace Rows

/-- THE TIED CARD OF 'skewbacklaw13.BodyChecksAsSpecified'. -/
def bodyChecksAsSpecifiedCard : Claim7 := { stood := { row := bodyChecksAsSpecifiedRow, standIns := [], harness := (true, "3a6f2c9987e67ad756ef0b09123a39c19d1cac9d7cce6aad672d048b33458913"), looks := true }, kinds := [], alts := [], laidByText := true, laidKinds := [.data, .data, .data, .data, .pinned], laidTests := true, laidLooks := .later }
def BodyChecksAsSpecifiedCardSaid : Prop := Claim7.holds Tryz.pinned (.plain (OpenSpec.ofChange bodyChecksAsSpecifiedSpec)) bodyChecksAsSpecifiedCard

/-- THE SECOND FORM's CARD OF 'skewbacklaw13.BodyChecksAsSpecified'. -/
def bodyChecksAsSpecifiedUptoCard : Claim7 := { stood := { row := bodyChecksAsSpecifiedUptoRow, standIns := [], harness := (true, "3a6f2c9987e67ad756ef0b09123a39c19d1cac9d7cce6aad672d048b33458913"), looks := true }, kinds := [], alts := [], laidByText := true, laidKinds := [.data, .data, .data, .data, .pinned], laidTests := true, laidLooks := .later }
def BodyChecksAsSpecifiedUptoCardSaid : Prop := Claim7.holds Tryz.pinned (.plain (OpenSpec.upto bodyChecksAsSpecifiedSpec)) bodyChecksAsSpecifiedUptoCard
end Rows
end Go.Proofs.YtjiignefffdelaaGreatDoor
