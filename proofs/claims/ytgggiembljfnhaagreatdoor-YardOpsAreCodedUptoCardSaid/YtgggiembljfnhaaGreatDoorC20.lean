/-
  Part of the proof of statement 14
-/
import Derived.Test.YtgggiembljfnhaaGreatDoorC07
set_option maxRecDepth 100000
set_option maxHeartbeats 16000000
set_option linter.unusedVariables false
set_option linter.unusedSimpArgs false
namespace Go.Proofs.YtgggiembljfnhaaGreatDoor
open Go Go.Av
def cj:{x // GB Tryz.prog gv true Tryz.f155=some x}:=⟨_,xV⟩
theorem rn:iM Tryz.prog gv true 155 cj.1:=gJ Tryz.func155 (by kernel_rfl) cj.2
end Go.Proofs.YtgggiembljfnhaaGreatDoor
