/-
  Part of the proof of statement 12
-/
import Derived.Test.YtgggiembljfnhaaGreatDoorB07
set_option maxRecDepth 100000
set_option maxHeartbeats 16000000
set_option linter.unusedVariables false
set_option linter.unusedSimpArgs false
namespace Go.Proofs.YtgggiembljfnhaaGreatDoor
open Go Go.Av
def aMi:CW Tryz.f143:=⟨_,cX⟩
theorem aXm:Fi 143 aMi:=cM Tryz.func143 aMi
def aLq:CW Tryz.f114:=⟨_,cX⟩
theorem aWt:Fi 114 aLq:=cM Tryz.func114 aLq
def aMm:CW Tryz.f149:=⟨_,cX⟩
theorem aXq:Fi 149 aMm:=cM Tryz.func149 aMm
def aNk:CW Tryz.f193:=⟨_,cX⟩
theorem aYo:Fi 193 aNk:=cM Tryz.func193 aNk
def aMk:CW Tryz.f147:=⟨_,cX⟩
theorem aXo:Fi 147 aMk:=cM Tryz.func147 aMk
def aMl:CW Tryz.f148:=⟨_,vF⟩
theorem aXp:Fi 148 aMl:=cM Tryz.func148 aMl
def aLs:CW Tryz.f117:=⟨_,cX⟩
theorem aWv:Fi 117 aLs:=cM Tryz.func117 aLs
def aLr:CW Tryz.f116:=⟨_,cX⟩
theorem aWu:Fi 116 aLr:=cM Tryz.func116 aLr
def W87:CW Tryz.f87:=⟨_,cX⟩
theorem bDc:Fi 87 W87:=cM Tryz.func87 W87
end Go.Proofs.YtgggiembljfnhaaGreatDoor
