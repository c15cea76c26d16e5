/-
  DERIVED. GIVEN WITH THE SEED: THE CARDS: each row of YtfdaiidepcbemaaDoorRows.lean that lists a variable, with what it lists TIED to the program's text (the seventh form; the later family's looks); each row that meets fmt, with fmt's text TOLD by the authors' own Lean function (tested against real Go, not proved from fmt's source: count such statements apart). THE CARD IS WHAT COUNTS. Prove the row's statement (the work); the ties are given (YtfdaiidepcbemaaDoorTie.lean); close each card by the builder's one call (the guide's Derived/Test/ToyasCard.lean, 'card_holds'). Laid BY PROGRAM, IN A SANDBOX (cutbox-door.mjs). By AI agents, Wed Nov 11 2026. No macro, syntax, notation, axiom, sorry.
-/
import Derived.Test.YtfdaiidepcbemaaDoorRows
import GoSem.ClaimSeven
namespace Go.Proofs.YtfdaiidepcbemaaDoor
namespace Rows

/-- THE TIED CARD OF 'skewbacklaw46.LogCodesAsSpecified'. -/
def logCodesAsSpecifiedCard : Claim7 := { stood := { row := logCodesAsSpecifiedRow, standIns := [], harness := (true, "26945f000dbe006f99a28b0308c8797aa065b33ccd9c93e2aed44b43dd9ccbba"), looks := true }, kinds := [], alts := [], laidByText := true, laidKinds := [.data, .data], laidTests := true, laidLooks := .later }
def LogCodesAsSpecifiedCardSaid : Prop := Claim7.holds Tryd.pinned (.plain (OpenSpec.ofChange logCodesAsSpecifiedSpec)) logCodesAsSpecifiedCard

/-- THE SECOND FORM's CARD OF 'skewbacklaw46.LogCodesAsSpecified'. -/
def logCodesAsSpecifiedUptoCard : Claim7 := { stood := { row := logCodesAsSpecifiedUptoRow, standIns := [], harness := (true, "26945f000dbe006f99a28b0308c8797aa065b33ccd9c93e2aed44b43dd9ccbba"), looks := true }, kinds := [], alts := [], laidByText := true, laidKinds := [.data, .data], laidTests := true, laidLooks := .later }
def LogCodesAsSpecifiedUptoCardSaid : Prop := Claim7.holds Tryd.pinned (.plain (OpenSpec.upto logCodesAsSpecifiedSpec)) logCodesAsSpecifiedUptoCard
end Rows
end Go.Proofs.YtfdaiidepcbemaaDoor
