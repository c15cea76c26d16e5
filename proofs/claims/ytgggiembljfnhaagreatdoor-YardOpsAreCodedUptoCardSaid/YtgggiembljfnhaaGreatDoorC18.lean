/-
  Part of the proof of statement 14
-/
import Derived.Test.YtgggiembljfnhaaGreatDoorC07
set_option maxRecDepth 100000
set_option maxHeartbeats 16000000
set_option linter.unusedVariables false
set_option linter.unusedSimpArgs false
namespace Go.Proofs.YtgggiembljfnhaaGreatDoor
open Go Go.Av
def cb:CW Tryz.f122:=⟨_,cX⟩
theorem q9:Fi 122 cb:=cN Tryz.func122 cb
def b9:CW Tryz.f102:=⟨_,cX⟩
theorem qy:Fi 102 b9:=cN Tryz.func102 b9
def uj:CW Tryz.f103:=⟨_,cX⟩
theorem aEm:Fi 103 uj:=cN Tryz.func103 uj
def ui:CW Tryz.f101:=⟨_,cX⟩
theorem aEl:Fi 101 ui:=cN Tryz.func101 ui
def W64:CW Tryz.f64:=⟨_,cX⟩
theorem aMy:Fi 64 W64:=cN Tryz.func64 W64
end Go.Proofs.YtgggiembljfnhaaGreatDoor
