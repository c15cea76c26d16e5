/-
  Statement 14 (second form): for every operation, every scene and all bytes, of bulk at most 1048576: the codings of operations and of scenes are the specification's, they are read back, and what is read has been written so (YardOpsAreCoded returns true for every such input), and the chapter's examples hold.
  The bound: the sum of the scene's six lengths may wrap, so that without it slices of any size are coded.
  No condition besides: every argument, every memory, every tape. Its listed variables are tied to the program's text.
-/
import Derived.Test.YtgggiembljfnhaaGreatDoorC31
import Derived.Test.YtgggiembljfnhaaGreatDoorTie
import Derived.Test.YtgggiembljfnhaaGreatDoorCards
import Derived.SevenTiedAt
set_option linter.unusedVariables false
set_option linter.unusedSimpArgs false
set_option maxRecDepth 100000
set_option maxHeartbeats 16000000
namespace Go.Proofs.YtgggiembljfnhaaGreatDoor
open Go
theorem aBk:Tryz.prog.mainIs=some (Rows.yardOpsAreCodedUptoCard.stood.harness.1,Rows.yardOpsAreCodedUptoCard.stood.harness.2.toList):=by kernel_rfl
theorem jw:true=Tryz.prog.looks []:=by kernel_rfl
theorem aBw:false=Rows.yardOpsAreCodedUptoRow.goesBy Tryz.prog:=by kernel_rfl
theorem card_holds:Rows.YardOpsAreCodedUptoCardSaid:=
 Claim7.holds_tied_plain_at .later [] _ _ _ _
  fk (fun _ h=>by cases h) (by kernel_rfl) (fun _ h=>by cases h) yardOpsAreCodedUpto_row_tie rfl ⟨rfl,rfl⟩ aBk rfl
  (fun f fn hf hfn=>by
    obtain rfl:f=5:=Aa ((show Tryz.prog.funcNamed Rows.yardOpsAreCodedUptoRow.func=some 5 by kernel_rfl).symm.trans hf) |>.symm;obtain rfl:fn=Tryz.f5:=(Aa (Tryz.func5.symm.trans hfn)).symm
    exact⟨jw,fun j t ht=>by
     rw[Tryz.params5] at ht
     have h3:t=34\/t=32\/t=50:=by
      rcases j with _|_|_|j
      . exact .inl (by simpa using ht.symm)
      . exact .inr (.inl (by simpa using ht.symm))
      . exact .inr (.inr (by simpa using ht.symm))
      simp at ht
     rcases h3 with rfl|rfl|rfl
     . exact(show Tryz.prog.wantsStandIn 34=false by kernel_rfl)
     . exact(show Tryz.prog.wantsStandIn 32=false by kernel_rfl)
     exact(show Tryz.prog.wantsStandIn 50=false by kernel_rfl)⟩)
  aBw
end Go.Proofs.YtgggiembljfnhaaGreatDoor
