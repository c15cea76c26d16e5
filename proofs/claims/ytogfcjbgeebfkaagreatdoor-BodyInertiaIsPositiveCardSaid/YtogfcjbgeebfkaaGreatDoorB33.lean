/-
  Part of the proof of statement 13
-/
import Derived.Test.YtogfcjbgeebfkaaGreatDoorB07
set_option linter.unusedSimpArgs false
set_option maxRecDepth 100000
set_option maxHeartbeats 16000000
set_option linter.unusedVariables false
namespace Go.Proofs.YtogfcjbgeebfkaaGreatDoor
open Go Go.Av
def aKt:CW Tryz.f179:=⟨_,Mx⟩
theorem aSf:Fi 179 aKt:=dH Tryz.func179 aKt
def aKu:CW Tryz.f180:=⟨_,Mx⟩
theorem aSg:Fi 180 aKu:=dH Tryz.func180 aKu
def W91:CW Tryz.f91:=⟨_,dD⟩
theorem bLh:Fi 91 W91:=dH Tryz.func91 W91
def W92:CW Tryz.f92:=⟨_,dD⟩
theorem bRm:Fi 92 W92:=dH Tryz.func92 W92
def W30:CW Tryz.f30:=⟨_,dD⟩
theorem bKk:Fi 30 W30:=dH Tryz.func30 W30
def W96:CW Tryz.f96:=⟨_,dD⟩
theorem bLi:Fi 96 W96:=dH Tryz.func96 W96
def aVj:CW Tryz.f187:=⟨_,dD⟩
theorem bHr:Fi 187 aVj:=dH Tryz.func187 aVj
end Go.Proofs.YtogfcjbgeebfkaaGreatDoor
