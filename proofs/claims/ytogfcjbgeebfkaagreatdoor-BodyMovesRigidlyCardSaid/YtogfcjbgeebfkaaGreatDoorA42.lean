/-
  Statement 9: for every valid body with at most three parts of at most 10 vertices, and coordinates of at most 1000, and a vector of at most 1000: body.Move keeps name, volume and validity, subtracts the vector from the centre, and changes the inertia as Steiner's rule says; moved by its origin, the body's centre has components of at most 1/2 (BodyMovesRigidly returns true for every input), and the chapter's examples hold.
  No condition: every argument, every memory, every tape. Its listed variables are tied to the program's text.
-/
import Derived.Test.YtogfcjbgeebfkaaGreatDoorA41
import Derived.Test.YtogfcjbgeebfkaaGreatDoorTie
import Derived.Test.YtogfcjbgeebfkaaGreatDoorCards
import Derived.SevenTiedAt
set_option linter.unusedSimpArgs false
set_option linter.unusedVariables false
set_option maxRecDepth 100000
set_option maxHeartbeats 16000000
namespace Go.Proofs.YtogfcjbgeebfkaaGreatDoor
open Go
theorem bBb:Tryz.prog.mainIs=some (Rows.bodyMovesRigidlyCard.stood.harness.1,Rows.bodyMovesRigidlyCard.stood.harness.2.toList):=by kernel_rfl
theorem aOw:true=Tryz.prog.looks []:=by kernel_rfl
theorem bCe:false=Rows.bodyMovesRigidlyRow.goesBy Tryz.prog:=by kernel_rfl
theorem card_holds:Rows.BodyMovesRigidlyCardSaid:=
 Claim7.holds_tied_plain_at .later [] _ _ _ _
  aNm (fun _ h=>by cases h) (by kernel_rfl) (fun _ h=>by cases h) bodyMovesRigidly_row_tie rfl ⟨rfl,rfl⟩ bBb rfl
  (fun f fn N g=>by
    obtain rfl:f=5:=Aa ((show Tryz.prog.funcNamed Rows.bodyMovesRigidlyRow.func=some 5 by kernel_rfl).symm.trans N) |>.symm;obtain rfl:fn=Tryz.f5:=(Aa (Tryz.func5.symm.trans g)).symm
    exact⟨aOw,fun j t q=>by
     rw[Tryz.params5] at q
     have W:t=25\/t=33:=by
      rcases j with _|_|j
      . exact .inl (by simpa using q.symm)
      . exact .inr (by simpa using q.symm)
      simp at q
     rcases W with rfl|rfl
     . exact(show Tryz.prog.wantsStandIn 25=false by kernel_rfl)
     exact(show Tryz.prog.wantsStandIn 33=false by kernel_rfl)⟩)
  bCe
end Go.Proofs.YtogfcjbgeebfkaaGreatDoor
