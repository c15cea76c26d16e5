/-
  THE CARD: its listed variables tied to the program's text.
-/
import Derived.Test.YtfdaiidepcbemaaDoorA44
import Derived.Test.YtfdaiidepcbemaaDoorTie
import Derived.Test.YtfdaiidepcbemaaDoorCards
import Derived.SevenTiedAt
set_option linter.unusedVariables false
section
set_option maxRecDepth 100000
namespace Go.Proofs.YtfdaiidepcbemaaDoor
open Go
theorem card_holds : Rows.LogCodesAsSpecifiedCardSaid :=
  Claim7.holds_tied_plain_at .later [] [.data, .data] true (true, "26945f000dbe006f99a28b0308c8797aa065b33ccd9c93e2aed44b43dd9ccbba") true
    f_holds (fun _ h => by cases h) (by kernel_rfl) (fun _ h => by cases h) logCodesAsSpecified_row_tie rfl ⟨rfl, rfl⟩ (by kernel_rfl) rfl
    (fun f fn hf hfn => by
      obtain rfl : f = 3 := Option.some.inj ((show Tryd.prog.funcNamed Rows.logCodesAsSpecifiedRow.func = some 3 by kernel_rfl).symm.trans hf) |>.symm
      obtain rfl : fn = Tryd.f3 := (Option.some.inj (Tryd.func3.symm.trans hfn)).symm
      exact ⟨by kernel_rfl, fun j t ht => by
        rw [Tryd.params3] at ht
        have h3 : t = 27 ∨ t = 28 ∨ t = 5 := by
          rcases j with _ | _ | _ | j
          · exact .inl (by simpa using ht.symm)
          · exact .inr (.inl (by simpa using ht.symm))
          · exact .inr (.inr (by simpa using ht.symm))
          · simp at ht
        rcases h3 with rfl | rfl | rfl
        · exact (show Tryd.prog.wantsStandIn 27 = false by kernel_rfl)
        · exact (show Tryd.prog.wantsStandIn 28 = false by kernel_rfl)
        · exact (show Tryd.prog.wantsStandIn 5 = false by kernel_rfl)⟩)
    (by kernel_rfl)
#print axioms card_holds
end Go.Proofs.YtfdaiidepcbemaaDoor
end
