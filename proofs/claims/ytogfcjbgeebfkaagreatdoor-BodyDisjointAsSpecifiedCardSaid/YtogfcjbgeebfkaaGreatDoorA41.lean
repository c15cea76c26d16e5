/-
  Statement 7: for any two valid polyhedra of at most 10 vertices, and a vector: body.Disjoint returns what the specification's Disjoint returns, for both orders; none is disjoint from itself; no vertex, nor the centroid, of one is in the interior of the other if they are disjoint; and it is the same if both are moved (BodyDisjointAsSpecified returns true for every input), and the chapter's examples hold.
  No condition: every argument, every memory, every tape. Its listed variables are tied to the program's text.
-/
import Derived.Test.YtogfcjbgeebfkaaGreatDoorA40
import Derived.Test.YtogfcjbgeebfkaaGreatDoorTie
import Derived.Test.YtogfcjbgeebfkaaGreatDoorCards
import Derived.SevenTiedAt
set_option linter.unusedVariables false
set_option linter.unusedSimpArgs false
set_option maxRecDepth 100000
set_option maxHeartbeats 16000000
namespace Go.Proofs.YtogfcjbgeebfkaaGreatDoor
open Go
theorem aVk:Tryz.prog.mainIs=some (Rows.bodyDisjointAsSpecifiedCard.stood.harness.1,Rows.bodyDisjointAsSpecifiedCard.stood.harness.2.toList):=by kernel_rfl
theorem aJi:true=Tryz.prog.looks []:=by kernel_rfl
theorem aWl:false=Rows.bodyDisjointAsSpecifiedRow.goesBy Tryz.prog:=by kernel_rfl
theorem card_holds:Rows.BodyDisjointAsSpecifiedCardSaid:=
 Claim7.holds_tied_plain_at .later [] _ _ _ _
  aIa (fun _ h=>by cases h) (by kernel_rfl) (fun _ h=>by cases h) bodyDisjointAsSpecified_row_tie rfl ⟨rfl,rfl⟩ aVk rfl
  (fun f fn hf hfn=>by
    obtain rfl:f=4:=Aa ((show Tryz.prog.funcNamed Rows.bodyDisjointAsSpecifiedRow.func=some 4 by kernel_rfl).symm.trans hf) |>.symm;obtain rfl:fn=Tryz.f4:=(Aa (Tryz.func4.symm.trans hfn)).symm
    exact⟨aJi,fun j t ht=>by
     rw[Tryz.params4] at ht
     have h3:t=65\/t=65\/t=33:=by
      rcases j with _|_|_|j
      . exact .inl (by simpa using ht.symm)
      . exact .inr (.inl (by simpa using ht.symm))
      . exact .inr (.inr (by simpa using ht.symm))
      simp at ht
     rcases h3 with rfl|rfl|rfl
     . exact(show Tryz.prog.wantsStandIn 65=false by kernel_rfl)
     . exact(show Tryz.prog.wantsStandIn 65=false by kernel_rfl)
     exact(show Tryz.prog.wantsStandIn 33=false by kernel_rfl)⟩)
  aWl
end Go.Proofs.YtogfcjbgeebfkaaGreatDoor
