/-
  Statement 12: for every yard without error with few things, and at most 30 operations from Start on, each one returns the scene of the specification, or its error (YardRunsAsSpecified returns true for every input), and the chapter's examples hold.
  No condition: every argument, every memory, every tape. Its listed variables are tied to the program's text.
-/
import Derived.Test.YtgggiembljfnhaaGreatDoorB39
import Derived.Test.YtgggiembljfnhaaGreatDoorTie
import Derived.Test.YtgggiembljfnhaaGreatDoorCards
import Derived.SevenTiedAt
set_option linter.unusedVariables false
set_option linter.unusedSimpArgs false
set_option maxRecDepth 100000
set_option maxHeartbeats 16000000
namespace Go.Proofs.YtgggiembljfnhaaGreatDoor
open Go
theorem aTa:Tryz.prog.mainIs=some (Rows.yardRunsAsSpecifiedCard.stood.harness.1,Rows.yardRunsAsSpecifiedCard.stood.harness.2.toList):=by kernel_rfl
theorem aGf:true=Tryz.prog.looks []:=by kernel_rfl
theorem aTl:false=Rows.yardRunsAsSpecifiedRow.goesBy Tryz.prog:=by kernel_rfl
theorem card_holds:Rows.YardRunsAsSpecifiedCardSaid:=
 Claim7.holds_tied_plain_at .later [] _ _ _ _
  aEw (fun _ h=>by cases h) (by kernel_rfl) (fun _ h=>by cases h) yardRunsAsSpecified_row_tie rfl ⟨rfl,rfl⟩ aTa rfl
  (fun f fn hf hfn=>by
    obtain rfl:f=4:=Aa ((show Tryz.prog.funcNamed Rows.yardRunsAsSpecifiedRow.func=some 4 by kernel_rfl).symm.trans hf) |>.symm;obtain rfl:fn=Tryz.f4:=(Aa (Tryz.func4.symm.trans hfn)).symm
    exact⟨aGf,fun j t ht=>by
     rw[Tryz.params4] at ht
     have h3:t=27\/t=45:=by
      rcases j with _|_|j
      . exact .inl (by simpa using ht.symm)
      . exact .inr (by simpa using ht.symm)
      simp at ht
     rcases h3 with rfl|rfl
     . exact(show Tryz.prog.wantsStandIn 27=false by kernel_rfl)
     exact(show Tryz.prog.wantsStandIn 45=false by kernel_rfl)⟩)
  aTl
end Go.Proofs.YtgggiembljfnhaaGreatDoor
