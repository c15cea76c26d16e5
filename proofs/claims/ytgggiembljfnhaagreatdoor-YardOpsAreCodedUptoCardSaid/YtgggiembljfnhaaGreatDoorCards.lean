/-
  DERIVED. GIVEN WITH THE SEED: THE CARDS: each row of YtgggiembljfnhaaGreatDoorRows.lean that lists a variable, with what it lists TIED to the program's text (the seventh form; the later family's looks); each row that meets fmt, with fmt's text TOLD by the authors' own Lean function (tested against real Go, not proved from fmt's source: count such statements apart). THE CARD IS WHAT COUNTS. Prove the row's statement (the work); the ties are given (YtgggiembljfnhaaGreatDoorTie.lean); close each card by the builder's one call (the guide's Derived/Test/ToyasCard.lean, 'card_holds'). Laid BY PROGRAM, IN A SANDBOX (cutbox-door.mjs). By AI agents, Wed Nov 11 2026. No macro, syntax, notation, axiom, sorry.
-/
import Derived.Test.YtgggiembljfnhaaGreatDoorRows
import GoSem.ClaimSeven
namespace Go.Proofs.YtgggiembljfnhaaGreatDoor
namespace Rows

/-- THE TIED CARD OF 'skewbacklaw33.YardAppliesAsSpecified'. -/
def yardAppliesAsSpecifiedCard : Claim7 := { stood := { row := yardAppliesAsSpecifiedRow, standIns := [], harness := (true, "2555f4abdd34ebf0fbecd781b3804c093bae5b2e16ca7f711e6d9cd202ce7705"), looks := true }, kinds := [], alts := [], laidByText := true, laidKinds := [.data, .data], laidTests := true, laidLooks := .later }
def YardAppliesAsSpecifiedCardSaid : Prop := Claim7.holds Tryz.pinned (.plain (OpenSpec.ofChange yardAppliesAsSpecifiedSpec)) yardAppliesAsSpecifiedCard

/-- THE TIED CARD OF 'skewbacklaw33.YardRunsAsSpecified'. -/
def yardRunsAsSpecifiedCard : Claim7 := { stood := { row := yardRunsAsSpecifiedRow, standIns := [], harness := (true, "2555f4abdd34ebf0fbecd781b3804c093bae5b2e16ca7f711e6d9cd202ce7705"), looks := true }, kinds := [], alts := [], laidByText := true, laidKinds := [.data, .data], laidTests := true, laidLooks := .later }
def YardRunsAsSpecifiedCardSaid : Prop := Claim7.holds Tryz.pinned (.plain (OpenSpec.ofChange yardRunsAsSpecifiedSpec)) yardRunsAsSpecifiedCard

/-- THE TIED CARD OF 'skewbacklaw33.YardOpsAreCoded'. -/
def yardOpsAreCodedCard : Claim7 := { stood := { row := yardOpsAreCodedRow, standIns := [], harness := (true, "2555f4abdd34ebf0fbecd781b3804c093bae5b2e16ca7f711e6d9cd202ce7705"), looks := true }, kinds := [], alts := [], laidByText := true, laidKinds := [.data, .data], laidTests := true, laidLooks := .later }
def YardOpsAreCodedCardSaid : Prop := Claim7.holds Tryz.pinned (.plain (OpenSpec.ofChange yardOpsAreCodedSpec)) yardOpsAreCodedCard

/-- THE SECOND FORM's CARD OF 'skewbacklaw33.YardAppliesAsSpecified'. -/
def yardAppliesAsSpecifiedUptoCard : Claim7 := { stood := { row := yardAppliesAsSpecifiedUptoRow, standIns := [], harness := (true, "2555f4abdd34ebf0fbecd781b3804c093bae5b2e16ca7f711e6d9cd202ce7705"), looks := true }, kinds := [], alts := [], laidByText := true, laidKinds := [.data, .data], laidTests := true, laidLooks := .later }
def YardAppliesAsSpecifiedUptoCardSaid : Prop := Claim7.holds Tryz.pinned (.plain (OpenSpec.upto yardAppliesAsSpecifiedSpec)) yardAppliesAsSpecifiedUptoCard

/-- THE SECOND FORM's CARD OF 'skewbacklaw33.YardRunsAsSpecified'. -/
def yardRunsAsSpecifiedUptoCard : Claim7 := { stood := { row := yardRunsAsSpecifiedUptoRow, standIns := [], harness := (true, "2555f4abdd34ebf0fbecd781b3804c093bae5b2e16ca7f711e6d9cd202ce7705"), looks := true }, kinds := [], alts := [], laidByText := true, laidKinds := [.data, .data], laidTests := true, laidLooks := .later }
def YardRunsAsSpecifiedUptoCardSaid : Prop := Claim7.holds Tryz.pinned (.plain (OpenSpec.upto yardRunsAsSpecifiedSpec)) yardRunsAsSpecifiedUptoCard

/-- THE SECOND FORM's CARD OF 'skewbacklaw33.YardOpsAreCoded'. -/
def yardOpsAreCodedUptoCard : Claim7 := { stood := { row := yardOpsAreCodedUptoRow, standIns := [], harness := (true, "2555f4abdd34ebf0fbecd781b3804c093bae5b2e16ca7f711e6d9cd202ce7705"), looks := true }, kinds := [], alts := [], laidByText := true, laidKinds := [.data, .data], laidTests := true, laidLooks := .later }
def YardOpsAreCodedUptoCardSaid : Prop := Claim7.holds Tryz.pinned (.plain (OpenSpec.upto yardOpsAreCodedSpec)) yardOpsAreCodedUptoCard
end Rows
end Go.Proofs.YtgggiembljfnhaaGreatDoor
