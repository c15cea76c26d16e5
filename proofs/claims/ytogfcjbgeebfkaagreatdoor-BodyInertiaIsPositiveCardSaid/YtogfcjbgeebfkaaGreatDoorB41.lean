/-
  Part of the proof of statement 13
-/
import Derived.Test.YtogfcjbgeebfkaaGreatDoorB40
set_option linter.unusedSimpArgs false
set_option linter.unusedVariables false
set_option maxRecDepth 100000
set_option maxHeartbeats 16000000
namespace Go.Proofs.YtogfcjbgeebfkaaGreatDoor
open Go Go.Av Go.aH
open Go.ChangeShapes Go.WideShapes Go.ChangeAt Go.RowKit
theorem q1:mapsRowed Tryz.prog=true:=by kernel_rfl
theorem q2:Tryz.prog.inPlace 6=Rows.bodyInertiaIsPositiveRow.inPlace:=by kernel_rfl
theorem q3:Tryz.prog.unfollowed 6=Rows.bodyInertiaIsPositiveRow.unfollowed:=by kernel_rfl
theorem q4:Tryz.prog.recurses 6=Rows.bodyInertiaIsPositiveRow.recurses:=by kernel_rfl
theorem q5:Tryz.prog.varsNamed 6=Rows.bodyInertiaIsPositiveRow.named:=by kernel_rfl
theorem facts:joinedFacts Tryz.prog 6 Tryz.f6 (OpenSpec.ofChange Rows.bodyInertiaIsPositiveSpec).bare Rows.bodyInertiaIsPositiveRow=true:=by
 unfold joinedFacts;rw[laidOut,q1,q2,q3,q4,q5]
 kernel_rfl
theorem aMs:Rows.BodyInertiaIsPositiveSaid:=
 OpenClaim.holds_of_cond 6 Tryz.f6 rfl rfl rfl rfl rfl rfl rfl ⟨rfl,rfl,rfl,rfl,rfl⟩ rfl rfl rfl rfl rfl (by kernel_rfl) Tryz.func6 facts
  (Ek (by kernel_rfl)) (by unfold Func.isWrapper;rw[if_neg (by decide+kernel)];exact⟨rfl,rfl⟩)
  (fun os c H enc _ F=>by rw[OpenClaim.pre_eq_preRow];exact aFz os c H enc F)
end Go.Proofs.YtogfcjbgeebfkaaGreatDoor
