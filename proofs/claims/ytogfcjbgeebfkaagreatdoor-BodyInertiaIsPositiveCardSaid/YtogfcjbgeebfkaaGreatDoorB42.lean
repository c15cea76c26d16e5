/-
  Statement 13: for every valid body with at most three parts of at most 10 vertices, and coordinates of at most 1000, and a mass from 1 to 256: body.Inertia is symmetric and positive (matrix.Positive says so), no element of its diagonal is greater than the sum of the two others, and the one for the double mass is the double (BodyInertiaIsPositive returns true for every input), and the chapter's examples hold.
  No condition: every argument, every memory, every tape. Its listed variables are tied to the program's text.
-/
import Derived.Test.YtogfcjbgeebfkaaGreatDoorB41
import Derived.Test.YtogfcjbgeebfkaaGreatDoorTie
import Derived.Test.YtogfcjbgeebfkaaGreatDoorCards
import Derived.SevenTiedAt
set_option linter.unusedSimpArgs false
set_option linter.unusedVariables false
set_option maxRecDepth 100000
set_option maxHeartbeats 16000000
namespace Go.Proofs.YtogfcjbgeebfkaaGreatDoor
open Go
theorem bBb:Tryz.prog.mainIs=some (Rows.bodyInertiaIsPositiveCard.stood.harness.1,Rows.bodyInertiaIsPositiveCard.stood.harness.2.toList):=by kernel_rfl
theorem aOc:true=Tryz.prog.looks []:=by kernel_rfl
theorem bCd:false=Rows.bodyInertiaIsPositiveRow.goesBy Tryz.prog:=by kernel_rfl
theorem card_holds:Rows.BodyInertiaIsPositiveCardSaid:=
 Claim7.holds_tied_plain_at .later [] _ _ _ _
  aMs (fun _ h=>by cases h) (by kernel_rfl) (fun _ h=>by cases h) bodyInertiaIsPositive_row_tie rfl ⟨rfl,rfl⟩ bBb rfl
  (fun f fn N g=>by
    obtain rfl:f=6:=Aa ((show Tryz.prog.funcNamed Rows.bodyInertiaIsPositiveRow.func=some 6 by kernel_rfl).symm.trans N) |>.symm;obtain rfl:fn=Tryz.f6:=(Aa (Tryz.func6.symm.trans g)).symm
    exact⟨aOc,fun j t W=>by
     rw[Tryz.params6] at W
     have B:t=25\/t=5:=by
      rcases j with _|_|j
      . exact .inl (by simpa using W.symm)
      . exact .inr (by simpa using W.symm)
      simp at W
     rcases B with rfl|rfl
     . exact(show Tryz.prog.wantsStandIn 25=false by kernel_rfl)
     exact(show Tryz.prog.wantsStandIn 5=false by kernel_rfl)⟩)
  bCd
end Go.Proofs.YtogfcjbgeebfkaaGreatDoor
