/-
  Part of the proof of statement 11
-/
import Derived.Test.YtgggiembljfnhaaGreatDoorA38
set_option linter.unusedVariables false
set_option linter.unusedSimpArgs false
set_option maxRecDepth 100000
set_option maxHeartbeats 16000000
namespace Go.Proofs.YtgggiembljfnhaaGreatDoor
open Go Go.Av Go.aP
open Go.ChangeShapes Go.WideShapes Go.ChangeAt Go.RowKit
theorem q1:mapsRowed Tryz.prog=true:=by kernel_rfl
theorem q2:Tryz.prog.inPlace 3=Rows.yardAppliesAsSpecifiedRow.inPlace:=by kernel_rfl
theorem q3:Tryz.prog.unfollowed 3=Rows.yardAppliesAsSpecifiedRow.unfollowed:=by kernel_rfl
theorem q4:Tryz.prog.recurses 3=Rows.yardAppliesAsSpecifiedRow.recurses:=by kernel_rfl
theorem q5:Tryz.prog.varsNamed 3=Rows.yardAppliesAsSpecifiedRow.named:=by kernel_rfl
theorem facts:joinedFacts Tryz.prog 3 Tryz.f3 (OpenSpec.ofChange Rows.yardAppliesAsSpecifiedSpec).bare Rows.yardAppliesAsSpecifiedRow=true:=by
 unfold joinedFacts;rw[laidOut,q1,q2,q3,q4,q5]
 kernel_rfl
theorem aEh:Rows.YardAppliesAsSpecifiedSaid:=
 OpenClaim.holds_of_cond 3 Tryz.f3 rfl rfl rfl rfl rfl rfl rfl ⟨rfl,rfl,rfl,rfl,rfl⟩ rfl rfl rfl rfl rfl (by kernel_rfl) Tryz.func3 facts
  (Cp (by kernel_rfl)) (by unfold Func.isWrapper;rw[if_neg (by decide+kernel)];exact⟨rfl,rfl⟩)
  (fun os started H enc _ F=>by rw[OpenClaim.pre_eq_preRow];exact x7 os started H enc F)
end Go.Proofs.YtgggiembljfnhaaGreatDoor
