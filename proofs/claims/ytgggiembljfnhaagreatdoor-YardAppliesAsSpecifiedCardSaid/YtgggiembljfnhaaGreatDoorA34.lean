/-
  Part of the proof of statement 11
-/
import Derived.Test.YtgggiembljfnhaaGreatDoorA07
set_option maxRecDepth 100000
set_option maxHeartbeats 16000000
set_option linter.unusedVariables false
set_option linter.unusedSimpArgs false
namespace Go.Proofs.YtgggiembljfnhaaGreatDoor
open Go Go.Av
def aLt:CW Tryz.f143:=⟨_,cX⟩
theorem aWv:Fi 143 aLt:=cM Tryz.func143 aLt
def aLb:CW Tryz.f114:=⟨_,cX⟩
theorem aWd:Fi 114 aLb:=cM Tryz.func114 aLb
def aLx:CW Tryz.f149:=⟨_,cX⟩
theorem aWz:Fi 149 aLx:=cM Tryz.func149 aLx
def aMv:CW Tryz.f193:=⟨_,cX⟩
theorem aXx:Fi 193 aMv:=cM Tryz.func193 aMv
def aLv:CW Tryz.f147:=⟨_,cX⟩
theorem aWx:Fi 147 aLv:=cM Tryz.func147 aLv
def aLw:CW Tryz.f148:=⟨_,uJ⟩
theorem aWy:Fi 148 aLw:=cM Tryz.func148 aLw
def aLd:CW Tryz.f117:=⟨_,cX⟩
theorem aWf:Fi 117 aLd:=cM Tryz.func117 aLd
def aLc:CW Tryz.f116:=⟨_,cX⟩
theorem aWe:Fi 116 aLc:=cM Tryz.func116 aLc
def W87:CW Tryz.f87:=⟨_,cX⟩
theorem bCl:Fi 87 W87:=cM Tryz.func87 W87
end Go.Proofs.YtgggiembljfnhaaGreatDoor
