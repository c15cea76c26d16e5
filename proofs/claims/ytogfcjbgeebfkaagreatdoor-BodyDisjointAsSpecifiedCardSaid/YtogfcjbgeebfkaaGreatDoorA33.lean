/-
  Part of the proof of statement 7
-/
import Derived.Test.YtogfcjbgeebfkaaGreatDoorA07
set_option maxRecDepth 100000
set_option maxHeartbeats 16000000
set_option linter.unusedVariables false
set_option linter.unusedSimpArgs false
namespace Go.Proofs.YtogfcjbgeebfkaaGreatDoor
open Go Go.Av
def aGk:CW Tryz.f179:=⟨_,KO⟩
theorem aNj:Fi 179 aGk:=dC Tryz.func179 aGk
def aGl:CW Tryz.f180:=⟨_,KO⟩
theorem aNk:Fi 180 aGl:=dC Tryz.func180 aGl
def W91:CW Tryz.f91:=⟨_,dB⟩
theorem bEl:Fi 91 W91:=dC Tryz.func91 W91
def W92:CW Tryz.f92:=⟨_,dB⟩
theorem bKr:Fi 92 W92:=dC Tryz.func92 W92
def W30:CW Tryz.f30:=⟨_,dB⟩
theorem bDw:Fi 30 W30:=dC Tryz.func30 W30
def W96:CW Tryz.f96:=⟨_,dB⟩
theorem bEm:Fi 96 W96:=dC Tryz.func96 W96
def aPy:CW Tryz.f187:=⟨_,dB⟩
theorem bBe:Fi 187 aPy:=dC Tryz.func187 aPy
end Go.Proofs.YtogfcjbgeebfkaaGreatDoor
