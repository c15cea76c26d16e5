/-
  Part of the proof of statement 13
-/
import Derived.Test.YtogfcjbgeebfkaaGreatDoorB07
set_option linter.unusedSimpArgs false
set_option maxRecDepth 100000
set_option maxHeartbeats 16000000
set_option linter.unusedVariables false
namespace Go.Proofs.YtogfcjbgeebfkaaGreatDoor
open Go Go.Av
def aKw:{x // xT Tryz.prog gv true Tryz.f191=some x}:=⟨_,Mx⟩
theorem aSi:gX Tryz.prog gv true 191 aKw.1:=dT Tryz.func191 (by kernel_rfl) aKw.2
end Go.Proofs.YtogfcjbgeebfkaaGreatDoor
