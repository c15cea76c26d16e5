/-
  Statement 5: for every text of at most 600 bytes body.Parse returns what the specification's Parse returns, and for every valid body with at most three parts of at most 10 vertices body.Parse of its Text returns the body (BodyTexts returns true for every input), and the chapter's examples hold.
  No condition: every argument, every memory, every tape. Its listed variables are tied to the program's text.
-/
import Derived.Test.YtbndcmnnbiiobaaGreatDoorA20
import Derived.Test.YtbndcmnnbiiobaaGreatDoorTie
import Derived.Test.YtbndcmnnbiiobaaGreatDoorCards
import Derived.SevenTiedAt
set_option linter.unusedVariables false
set_option maxRecDepth 100000
set_option maxHeartbeats 16000000
namespace Go.Proofs.YtbndcmnnbiiobaaGreatDoor
open Go
theorem card_holds:Rows.BodyTextsCardSaid:=
 Claim7.holds_tied_plain_at .later [] [.data,.data,.data,.data,.pinned] true (true, "4855e55bc0a905e044de8868bc87066ad075777df836e9eff76918691f559110") true
  aGy (fun _ h=>by cases h) (by kernel_rfl) (fun _ h=>by cases h) bodyTexts_row_tie rfl ⟨rfl,rfl⟩ (by kernel_rfl) rfl
  (fun f fn hf hfn=>by
    obtain rfl:f=3:=Aa ((show Tryz.prog.funcNamed Rows.bodyTextsRow.func=some 3 by kernel_rfl).symm.trans hf) |>.symm;obtain rfl:fn=Tryz.f3:=(Aa (Tryz.func3.symm.trans hfn)).symm
    exact⟨by kernel_rfl,fun j t ht=>by
     rw[Tryz.params3] at ht
     have h3:t=9\/t=25:=by
      rcases j with _|_|j
      · exact .inl (by simpa using ht.symm)
      · exact .inr (by simpa using ht.symm)
      simp at ht
     rcases h3 with rfl|rfl
     · exact(show Tryz.prog.wantsStandIn 9=false by kernel_rfl)
     exact(show Tryz.prog.wantsStandIn 25=false by kernel_rfl)⟩)
  (by kernel_rfl)
end Go.Proofs.YtbndcmnnbiiobaaGreatDoor
