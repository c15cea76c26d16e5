/-
  Part of the proof of statement 10
-/
import Derived.Test.YtndkpgceodimiaaGreatDoorA07
set_option maxRecDepth 100000
set_option maxHeartbeats 16000000
set_option linter.unusedVariables false
namespace Go.Proofs.YtndkpgceodimiaaGreatDoor
open Go Go.Av
def aCq:{x // LA Tryz.prog gv true Tryz.f111=some x}:=⟨_,cL⟩
theorem aJd:kP Tryz.prog gv true 111 aCq.1:=iZ Tryz.func111 (by kernel_rfl) aCq.2
end Go.Proofs.YtndkpgceodimiaaGreatDoor
