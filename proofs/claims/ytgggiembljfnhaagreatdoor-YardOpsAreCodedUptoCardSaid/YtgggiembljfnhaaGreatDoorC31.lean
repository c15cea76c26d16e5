/-
  Part of the proof of statement 14
-/
import Derived.Test.YtgggiembljfnhaaGreatDoorC30
set_option linter.unusedVariables false
set_option linter.unusedSimpArgs false
set_option maxRecDepth 100000
set_option maxHeartbeats 16000000
namespace Go.Proofs.YtgggiembljfnhaaGreatDoor
open Go Go.Av Go.aY
open Go.ChangeShapes Go.WideShapes Go.ChangeAt Go.RowKit
theorem q1:mapsRowed Tryz.prog=true:=by kernel_rfl
theorem q2:Tryz.prog.inPlace 5=Rows.yardOpsAreCodedUptoRow.inPlace:=by kernel_rfl
theorem q3:Tryz.prog.unfollowed 5=Rows.yardOpsAreCodedUptoRow.unfollowed:=by kernel_rfl
theorem q4:Tryz.prog.recurses 5=Rows.yardOpsAreCodedUptoRow.recurses:=by kernel_rfl
theorem q5:Tryz.prog.varsNamed 5=Rows.yardOpsAreCodedUptoRow.named:=by kernel_rfl
theorem facts:joinedFacts Tryz.prog 5 Tryz.f5 (Rows.OpenSpec.upto Rows.yardOpsAreCodedSpec).bare Rows.yardOpsAreCodedUptoRow=true:=by
 unfold joinedFacts;rw[laidOut,q1,q2,q3,q4,q5]
 kernel_rfl
theorem fk:Rows.YardOpsAreCodedUptoSaid:=
 OpenClaim.holds_of_cond 5 Tryz.f5 rfl rfl rfl rfl rfl rfl rfl ⟨rfl,rfl,rfl,rfl,rfl⟩ rfl rfl rfl rfl rfl (by kernel_rfl) Tryz.func5 facts
  (Dq (by kernel_rfl)) (by unfold Func.isWrapper;rw[if_neg (by decide+kernel)];exact⟨rfl,rfl⟩)
  (fun os started H enc _ F=>by rw[OpenClaim.pre_eq_preRow];exact Yc os started H enc F)
end Go.Proofs.YtgggiembljfnhaaGreatDoor
