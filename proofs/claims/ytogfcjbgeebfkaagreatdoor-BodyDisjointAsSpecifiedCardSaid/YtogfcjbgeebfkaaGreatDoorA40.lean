/-
  Part of the proof of statement 7
-/
import Derived.Test.YtogfcjbgeebfkaaGreatDoorA39
set_option linter.unusedVariables false
set_option linter.unusedSimpArgs false
set_option maxRecDepth 100000
set_option maxHeartbeats 16000000
namespace Go.Proofs.YtogfcjbgeebfkaaGreatDoor
open Go Go.Av Go.aD
open Go.ChangeShapes Go.WideShapes Go.ChangeAt Go.RowKit
theorem q1:mapsRowed Tryz.prog=true:=by kernel_rfl
theorem q2:Tryz.prog.inPlace 4=Rows.bodyDisjointAsSpecifiedRow.inPlace:=by kernel_rfl
theorem q3:Tryz.prog.unfollowed 4=Rows.bodyDisjointAsSpecifiedRow.unfollowed:=by kernel_rfl
theorem q4:Tryz.prog.recurses 4=Rows.bodyDisjointAsSpecifiedRow.recurses:=by kernel_rfl
theorem q5:Tryz.prog.varsNamed 4=Rows.bodyDisjointAsSpecifiedRow.named:=by kernel_rfl
theorem facts:joinedFacts Tryz.prog 4 Tryz.f4 (OpenSpec.ofChange Rows.bodyDisjointAsSpecifiedSpec).bare Rows.bodyDisjointAsSpecifiedRow=true:=by
 unfold joinedFacts;rw[laidOut,q1,q2,q3,q4,q5]
 kernel_rfl
theorem aIa:Rows.BodyDisjointAsSpecifiedSaid:=
 OpenClaim.holds_of_cond 4 Tryz.f4 rfl rfl rfl rfl rfl rfl rfl ⟨rfl,rfl,rfl,rfl,rfl⟩ rfl rfl rfl rfl rfl (by kernel_rfl) Tryz.func4 facts
  (Ed (by kernel_rfl)) (by unfold Func.isWrapper;rw[if_neg (by decide+kernel)];exact⟨rfl,rfl⟩)
  (fun os started H enc _ F=>by rw[OpenClaim.pre_eq_preRow];exact aJc os started H enc F)
end Go.Proofs.YtogfcjbgeebfkaaGreatDoor
