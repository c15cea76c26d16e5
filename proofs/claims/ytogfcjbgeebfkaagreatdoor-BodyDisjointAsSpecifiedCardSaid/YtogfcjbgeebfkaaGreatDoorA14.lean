/-
  Part of the proof of statement 7
-/
import Derived.Test.YtogfcjbgeebfkaaGreatDoorA07
set_option maxRecDepth 100000
set_option maxHeartbeats 16000000
set_option linter.unusedVariables false
set_option linter.unusedSimpArgs false
namespace Go.Proofs.YtogfcjbgeebfkaaGreatDoor
open Go Go.Av
def aGn:{x // wE Tryz.prog gv true Tryz.f191=some x}:=⟨_,KO⟩
theorem aNm:gH Tryz.prog gv true 191 aGn.1:=dQ Tryz.func191 (by kernel_rfl) aGn.2
end Go.Proofs.YtogfcjbgeebfkaaGreatDoor
