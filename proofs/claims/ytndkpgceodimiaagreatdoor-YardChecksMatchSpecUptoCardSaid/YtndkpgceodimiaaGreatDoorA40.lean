/-
  Statement 10: for every yard, operation and scene of bulk at most 1048576, the checks of yards answer as the specification's (YardChecksMatchSpec returns true for every such input), and the chapter's examples hold.
  The bound: 'yard.Standing' makes a slice of 8-byte numbers of a slice of flags of one byte, so that without it the first form is false by size alone.
  No condition besides: every argument, every memory, every tape. Its listed variables are tied to the program's text.
-/
import Derived.Test.YtndkpgceodimiaaGreatDoorA39
import Derived.Test.YtndkpgceodimiaaGreatDoorTie
import Derived.Test.YtndkpgceodimiaaGreatDoorCards
import Derived.SevenTiedAt
set_option linter.unusedVariables false
set_option maxRecDepth 100000
set_option maxHeartbeats 16000000
namespace Go.Proofs.YtndkpgceodimiaaGreatDoor
open Go
theorem aRs:Tryz.prog.mainIs=some (Rows.yardChecksMatchSpecUptoCard.stood.harness.1,Rows.yardChecksMatchSpecUptoCard.stood.harness.2.toList):=by kernel_rfl
theorem aFr:false=Tryz.prog.looks []:=by kernel_rfl
theorem aSd:false=Rows.yardChecksMatchSpecUptoRow.goesBy Tryz.prog:=by kernel_rfl
theorem card_holds:Rows.YardChecksMatchSpecUptoCardSaid:=
 Claim7.holds_tied_plain_at .later [] _ _ _ _
  aEl (fun _ h=>by cases h) (by kernel_rfl) (fun _ h=>by cases h) yardChecksMatchSpecUpto_row_tie rfl ⟨rfl,rfl⟩ aRs rfl
  (fun f fn hf hfn=>by
    obtain rfl:f=3:=Aa ((show Tryz.prog.funcNamed Rows.yardChecksMatchSpecUptoRow.func=some 3 by kernel_rfl).symm.trans hf) |>.symm;obtain rfl:fn=Tryz.f3:=(Aa (Tryz.func3.symm.trans hfn)).symm
    exact⟨aFr,fun j t ht=>by
     rw[Tryz.params3] at ht
     have h3:t=27\/t=30\/t=34:=by
      rcases j with _|_|_|j
      · exact .inl (by simpa using ht.symm)
      · exact .inr (.inl (by simpa using ht.symm))
      · exact .inr (.inr (by simpa using ht.symm))
      simp at ht
     rcases h3 with rfl|rfl|rfl
     · exact(show Tryz.prog.wantsStandIn 27=false by kernel_rfl)
     · exact(show Tryz.prog.wantsStandIn 30=false by kernel_rfl)
     exact(show Tryz.prog.wantsStandIn 34=false by kernel_rfl)⟩)
  aSd
end Go.Proofs.YtndkpgceodimiaaGreatDoor
