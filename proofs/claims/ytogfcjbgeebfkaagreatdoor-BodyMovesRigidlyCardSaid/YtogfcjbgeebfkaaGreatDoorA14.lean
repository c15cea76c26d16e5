/-
  Part of the proof of statement 9
-/
import Derived.Test.YtogfcjbgeebfkaaGreatDoorA07
set_option linter.unusedSimpArgs false
set_option maxRecDepth 100000
set_option maxHeartbeats 16000000
set_option linter.unusedVariables false
namespace Go.Proofs.YtogfcjbgeebfkaaGreatDoor
open Go Go.Av
def aLn:{x // AG Tryz.prog gv true Tryz.f191=some x}:=⟨_,Mh⟩
theorem aSx:iM Tryz.prog gv true 191 aLn.1:=dW Tryz.func191 (by kernel_rfl) aLn.2
end Go.Proofs.YtogfcjbgeebfkaaGreatDoor
