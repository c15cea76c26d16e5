/-
  DERIVED. GIVEN WITH THE SEED: THE CARDS: each row of YtogfcjbgeebfkaaGreatDoorRows.lean that lists a variable, with what it lists TIED to the program's text (the seventh form; the later family's looks); each row that meets fmt, with fmt's text TOLD by the authors' own Lean function (tested against real Go, not proved from fmt's source: count such statements apart). THE CARD IS WHAT COUNTS. Prove the row's statement (the work); the ties are given (YtogfcjbgeebfkaaGreatDoorTie.lean); close each card by the builder's one call (the guide's Derived/Test/ToyasCard.lean, 'card_holds'). Laid BY PROGRAM, IN A SANDBOX (cutbox-door.mjs). By AI agents, Wed Nov 11 2026. No macro, syntax, notation, axiom, sorry.
-/
import Derived.Test.YtogfcjbgeebfkaaGreatDoorRows
import GoSem.ClaimSeven
namespace Go.Proofs.YtogfcjbgeebfkaaGreatDoor
namespace Rows

/-- THE TIED CARD OF 'skewbacklaw13.BodyMeasuresAsSpecified'. -/
def bodyMeasuresAsSpecifiedCard : Claim7 := { stood := { row := bodyMeasuresAsSpecifiedRow, standIns := [], harness := (true, "de0a7a9d339af4dbc0d1f23680ca14c7f3f6be2a4411435a0f8f7f6075ee15a9"), looks := true }, kinds := [], alts := [], laidByText := true, laidKinds := [.data, .data, .data, .data, .pinned], laidTests := true, laidLooks := .later }
def BodyMeasuresAsSpecifiedCardSaid : Prop := Claim7.holds Tryz.pinned (.plain (OpenSpec.ofChange bodyMeasuresAsSpecifiedSpec)) bodyMeasuresAsSpecifiedCard

/-- THE TIED CARD OF 'skewbacklaw13.BodyDisjointAsSpecified'. -/
def bodyDisjointAsSpecifiedCard : Claim7 := { stood := { row := bodyDisjointAsSpecifiedRow, standIns := [], harness := (true, "de0a7a9d339af4dbc0d1f23680ca14c7f3f6be2a4411435a0f8f7f6075ee15a9"), looks := true }, kinds := [], alts := [], laidByText := true, laidKinds := [.data, .data, .data, .data, .pinned], laidTests := true, laidLooks := .later }
def BodyDisjointAsSpecifiedCardSaid : Prop := Claim7.holds Tryz.pinned (.plain (OpenSpec.ofChange bodyDisjointAsSpecifiedSpec)) bodyDisjointAsSpecifiedCard

/-- THE TIED CARD OF 'skewbacklaw13.BodyMovesRigidly'. -/
def bodyMovesRigidlyCard : Claim7 := { stood := { row := bodyMovesRigidlyRow, standIns := [], harness := (true, "de0a7a9d339af4dbc0d1f23680ca14c7f3f6be2a4411435a0f8f7f6075ee15a9"), looks := true }, kinds := [], alts := [], laidByText := true, laidKinds := [.data, .data, .data, .data, .pinned], laidTests := true, laidLooks := .later }
def BodyMovesRigidlyCardSaid : Prop := Claim7.holds Tryz.pinned (.plain (OpenSpec.ofChange bodyMovesRigidlySpec)) bodyMovesRigidlyCard

/-- THE TIED CARD OF 'skewbacklaw13.BodyInertiaIsPositive'. -/
def bodyInertiaIsPositiveCard : Claim7 := { stood := { row := bodyInertiaIsPositiveRow, standIns := [], harness := (true, "de0a7a9d339af4dbc0d1f23680ca14c7f3f6be2a4411435a0f8f7f6075ee15a9"), looks := true }, kinds := [], alts := [], laidByText := true, laidKinds := [.data, .data, .data, .data, .pinned], laidTests := true, laidLooks := .later }
def BodyInertiaIsPositiveCardSaid : Prop := Claim7.holds Tryz.pinned (.plain (OpenSpec.ofChange bodyInertiaIsPositiveSpec)) bodyInertiaIsPositiveCard

/-- THE SECOND FORM's CARD OF 'skewbacklaw13.BodyMeasuresAsSpecified'. -/
def bodyMeasuresAsSpecifiedUptoCard : Claim7 := { stood := { row := bodyMeasuresAsSpecifiedUptoRow, standIns := [], harness := (true, "de0a7a9d339af4dbc0d1f23680ca14c7f3f6be2a4411435a0f8f7f6075ee15a9"), looks := true }, kinds := [], alts := [], laidByText := true, laidKinds := [.data, .data, .data, .data, .pinned], laidTests := true, laidLooks := .later }
def BodyMeasuresAsSpecifiedUptoCardSaid : Prop := Claim7.holds Tryz.pinned (.plain (OpenSpec.upto bodyMeasuresAsSpecifiedSpec)) bodyMeasuresAsSpecifiedUptoCard

/-- THE SECOND FORM's CARD OF 'skewbacklaw13.BodyDisjointAsSpecified'. -/
def bodyDisjointAsSpecifiedUptoCard : Claim7 := { stood := { row := bodyDisjointAsSpecifiedUptoRow, standIns := [], harness := (true, "de0a7a9d339af4dbc0d1f23680ca14c7f3f6be2a4411435a0f8f7f6075ee15a9"), looks := true }, kinds := [], alts := [], laidByText := true, laidKinds := [.data, .data, .data, .data, .pinned], laidTests := true, laidLooks := .later }
def BodyDisjointAsSpecifiedUptoCardSaid : Prop := Claim7.holds Tryz.pinned (.plain (OpenSpec.upto bodyDisjointAsSpecifiedSpec)) bodyDisjointAsSpecifiedUptoCard

/-- THE SECOND FORM's CARD OF 'skewbacklaw13.BodyMovesRigidly'. -/
def bodyMovesRigidlyUptoCard : Claim7 := { stood := { row := bodyMovesRigidlyUptoRow, standIns := [], harness := (true, "de0a7a9d339af4dbc0d1f23680ca14c7f3f6be2a4411435a0f8f7f6075ee15a9"), looks := true }, kinds := [], alts := [], laidByText := true, laidKinds := [.data, .data, .data, .data, .pinned], laidTests := true, laidLooks := .later }
def BodyMovesRigidlyUptoCardSaid : Prop := Claim7.holds Tryz.pinned (.plain (OpenSpec.upto bodyMovesRigidlySpec)) bodyMovesRigidlyUptoCard

/-- THE SECOND FORM's CARD OF 'skewbacklaw13.BodyInertiaIsPositive'. -/
def bodyInertiaIsPositiveUptoCard : Claim7 := { stood := { row := bodyInertiaIsPositiveUptoRow, standIns := [], harness := (true, "de0a7a9d339af4dbc0d1f23680ca14c7f3f6be2a4411435a0f8f7f6075ee15a9"), looks := true }, kinds := [], alts := [], laidByText := true, laidKinds := [.data, .data, .data, .data, .pinned], laidTests := true, laidLooks := .later }
def BodyInertiaIsPositiveUptoCardSaid : Prop := Claim7.holds Tryz.pinned (.plain (OpenSpec.upto bodyInertiaIsPositiveSpec)) bodyInertiaIsPositiveUptoCard
end Rows
end Go.Proofs.YtogfcjbgeebfkaaGreatDoor
