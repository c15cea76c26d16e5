/-
  Statement 4: for every body, whatever it is, with at most three parts of at most 10 vertices, body.Check returns what the specification's Check returns (BodyChecksAsSpecified returns true for every input), and the chapter's examples hold.
  No condition: every argument, every memory, every tape. Its listed variables are tied to the program's text.
-/
import Derived.Test.YtjiignefffdelaaGreatDoorA48
import Derived.Test.YtjiignefffdelaaGreatDoorTie
import Derived.Test.YtjiignefffdelaaGreatDoorCards
import Derived.SevenTiedAt
set_option linter.unusedVariables false
set_option maxRecDepth 100000
set_option maxHeartbeats 16000000
namespace Go.Proofs.YtjiignefffdelaaGreatDoor
open Go
theorem card_holds:Rows.BodyChecksAsSpecifiedCardSaid:=
 Claim7.holds_tied_plain_at .later [] [.data,.data,.data,.data,.pinned] true (true, "3a6f2c9987e67ad756ef0b09123a39c19d1cac9d7cce6aad672d048b33458913") true
  aRi (fun _ h=>by cases h) (by kernel_rfl) (fun _ h=>by cases h) bodyChecksAsSpecified_row_tie rfl ⟨rfl,rfl⟩ (by kernel_rfl) rfl
  (fun f fn hf hfn=>by
    obtain rfl:f=3:=Option.some.inj ((show Tryz.prog.funcNamed Rows.bodyChecksAsSpecifiedRow.func=some 3 by kernel_rfl).symm.trans hf) |>.symm;obtain rfl:fn=Tryz.f3:=(Option.some.inj (Tryz.func3.symm.trans hfn)).symm
    exact⟨by kernel_rfl,fun j t ht=>by
     rw[Tryz.params3] at ht
     have h3:t=25:=by
      rcases j with _|j
      · simpa using ht.symm
      · simp at ht
     subst h3
     exact(show Tryz.prog.wantsStandIn 25=false by kernel_rfl)⟩)
  (by kernel_rfl)
end Go.Proofs.YtjiignefffdelaaGreatDoor
