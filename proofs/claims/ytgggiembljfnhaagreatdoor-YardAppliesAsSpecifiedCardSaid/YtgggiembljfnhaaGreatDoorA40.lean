/-
  Statement 11: for every yard without error with few things, every scene that fits it and every operation, yard.Apply returns the scene that the specification defines, which fits, or the error with the scene as it was (YardAppliesAsSpecified returns true for every input), and the chapter's examples hold.
  No condition: every argument, every memory, every tape. Its listed variables are tied to the program's text.
-/
import Derived.Test.YtgggiembljfnhaaGreatDoorA39
import Derived.Test.YtgggiembljfnhaaGreatDoorTie
import Derived.Test.YtgggiembljfnhaaGreatDoorCards
import Derived.SevenTiedAt
set_option linter.unusedVariables false
set_option linter.unusedSimpArgs false
set_option maxRecDepth 100000
set_option maxHeartbeats 16000000
namespace Go.Proofs.YtgggiembljfnhaaGreatDoor
open Go
theorem aSl:Tryz.prog.mainIs=some (Rows.yardAppliesAsSpecifiedCard.stood.harness.1,Rows.yardAppliesAsSpecifiedCard.stood.harness.2.toList):=by kernel_rfl
theorem aFp:true=Tryz.prog.looks []:=by kernel_rfl
theorem aSw:false=Rows.yardAppliesAsSpecifiedRow.goesBy Tryz.prog:=by kernel_rfl
theorem card_holds:Rows.YardAppliesAsSpecifiedCardSaid:=
 Claim7.holds_tied_plain_at .later [] _ _ _ _
  aEh (fun _ h=>by cases h) (by kernel_rfl) (fun _ h=>by cases h) yardAppliesAsSpecified_row_tie rfl ⟨rfl,rfl⟩ aSl rfl
  (fun f fn hf hfn=>by
    obtain rfl:f=3:=Aa ((show Tryz.prog.funcNamed Rows.yardAppliesAsSpecifiedRow.func=some 3 by kernel_rfl).symm.trans hf) |>.symm;obtain rfl:fn=Tryz.f3:=(Aa (Tryz.func3.symm.trans hfn)).symm
    exact⟨aFp,fun j t ht=>by
     rw[Tryz.params3] at ht
     have h3:t=27\/t=32\/t=34:=by
      rcases j with _|_|_|j
      . exact .inl (by simpa using ht.symm)
      . exact .inr (.inl (by simpa using ht.symm))
      . exact .inr (.inr (by simpa using ht.symm))
      simp at ht
     rcases h3 with rfl|rfl|rfl
     . exact(show Tryz.prog.wantsStandIn 27=false by kernel_rfl)
     . exact(show Tryz.prog.wantsStandIn 32=false by kernel_rfl)
     exact(show Tryz.prog.wantsStandIn 34=false by kernel_rfl)⟩)
  aSw
end Go.Proofs.YtgggiembljfnhaaGreatDoor
