/-
  Part of the proof of statement 12
-/
import Derived.Test.YtgggiembljfnhaaGreatDoorB07
set_option maxRecDepth 100000
set_option maxHeartbeats 16000000
set_option linter.unusedVariables false
set_option linter.unusedSimpArgs false
namespace Go.Proofs.YtgggiembljfnhaaGreatDoor
open Go Go.Av
def aDd:{x // KS Tryz.prog gv true Tryz.f155=some x}:=⟨_,vF⟩
theorem aKb:kM Tryz.prog gv true 155 aDd.1:=jF Tryz.func155 (by kernel_rfl) aDd.2
end Go.Proofs.YtgggiembljfnhaaGreatDoor
