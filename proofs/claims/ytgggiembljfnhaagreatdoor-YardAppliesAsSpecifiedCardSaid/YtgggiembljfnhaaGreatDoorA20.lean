/-
  Part of the proof of statement 11
-/
import Derived.Test.YtgggiembljfnhaaGreatDoorA07
set_option maxRecDepth 100000
set_option maxHeartbeats 16000000
set_option linter.unusedVariables false
set_option linter.unusedSimpArgs false
namespace Go.Proofs.YtgggiembljfnhaaGreatDoor
open Go Go.Av
def aCp:{x // KU Tryz.prog gv true Tryz.f155=some x}:=⟨_,uJ⟩
theorem aJm:kH Tryz.prog gv true 155 aCp.1:=jC Tryz.func155 (by kernel_rfl) aCp.2
end Go.Proofs.YtgggiembljfnhaaGreatDoor
