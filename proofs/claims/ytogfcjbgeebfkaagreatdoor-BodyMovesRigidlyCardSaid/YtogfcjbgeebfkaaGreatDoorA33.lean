/-
  Part of the proof of statement 9
-/
import Derived.Test.YtogfcjbgeebfkaaGreatDoorA07
set_option linter.unusedSimpArgs false
set_option maxRecDepth 100000
set_option maxHeartbeats 16000000
set_option linter.unusedVariables false
namespace Go.Proofs.YtogfcjbgeebfkaaGreatDoor
open Go Go.Av
def aLk:CW Tryz.f179:=⟨_,Mh⟩
theorem aSu:Fi 179 aLk:=dK Tryz.func179 aLk
def aLl:CW Tryz.f180:=⟨_,Mh⟩
theorem aSv:Fi 180 aLl:=dK Tryz.func180 aLl
def W91:CW Tryz.f91:=⟨_,dI⟩
theorem bLh:Fi 91 W91:=dK Tryz.func91 W91
def W92:CW Tryz.f92:=⟨_,dI⟩
theorem bQx:Fi 92 W92:=dK Tryz.func92 W92
def W30:CW Tryz.f30:=⟨_,dI⟩
theorem bKj:Fi 30 W30:=dK Tryz.func30 W30
def W96:CW Tryz.f96:=⟨_,dI⟩
theorem bLi:Fi 96 W96:=dK Tryz.func96 W96
def aVu:CW Tryz.f187:=⟨_,dI⟩
theorem bHy:Fi 187 aVu:=dK Tryz.func187 aVu
end Go.Proofs.YtogfcjbgeebfkaaGreatDoor
