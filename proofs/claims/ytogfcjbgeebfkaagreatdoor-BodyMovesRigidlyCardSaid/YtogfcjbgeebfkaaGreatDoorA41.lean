/-
  Part of the proof of statement 9
-/
import Derived.Test.YtogfcjbgeebfkaaGreatDoorA40
set_option linter.unusedSimpArgs false
set_option linter.unusedVariables false
set_option maxRecDepth 100000
set_option maxHeartbeats 16000000
namespace Go.Proofs.YtogfcjbgeebfkaaGreatDoor
open Go Go.Av Go.aC
open Go.ChangeShapes Go.WideShapes Go.ChangeAt Go.RowKit
theorem q1:mapsRowed Tryz.prog=true:=by kernel_rfl
theorem q2:Tryz.prog.inPlace 5=Rows.bodyMovesRigidlyRow.inPlace:=by kernel_rfl
theorem q3:Tryz.prog.unfollowed 5=Rows.bodyMovesRigidlyRow.unfollowed:=by kernel_rfl
theorem q4:Tryz.prog.recurses 5=Rows.bodyMovesRigidlyRow.recurses:=by kernel_rfl
theorem q5:Tryz.prog.varsNamed 5=Rows.bodyMovesRigidlyRow.named:=by kernel_rfl
theorem facts:joinedFacts Tryz.prog 5 Tryz.f5 (OpenSpec.ofChange Rows.bodyMovesRigidlySpec).bare Rows.bodyMovesRigidlyRow=true:=by
 unfold joinedFacts;rw[laidOut,q1,q2,q3,q4,q5]
 kernel_rfl
theorem aNm:Rows.BodyMovesRigidlySaid:=
 OpenClaim.holds_of_cond 5 Tryz.f5 rfl rfl rfl rfl rfl rfl rfl ⟨rfl,rfl,rfl,rfl,rfl⟩ rfl rfl rfl rfl rfl (by kernel_rfl) Tryz.func5 facts
  (Dv (by kernel_rfl)) (by unfold Func.isWrapper;rw[if_neg Zb3];exact⟨rfl,rfl⟩)
  (fun os c H enc _ F=>by rw[OpenClaim.pre_eq_preRow];exact aOl os c H enc F)
end Go.Proofs.YtogfcjbgeebfkaaGreatDoor
