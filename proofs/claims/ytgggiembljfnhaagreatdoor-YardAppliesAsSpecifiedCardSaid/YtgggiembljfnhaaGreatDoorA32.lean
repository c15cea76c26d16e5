/-
  Part of the proof of statement 11
-/
import Derived.Test.YtgggiembljfnhaaGreatDoorA07
set_option maxRecDepth 100000
set_option maxHeartbeats 16000000
set_option linter.unusedVariables false
set_option linter.unusedSimpArgs false
namespace Go.Proofs.YtgggiembljfnhaaGreatDoor
open Go Go.Av
def aCw:CW Tryz.f191:=⟨_,uJ⟩
theorem aJt:Fi 191 aCw:=cM Tryz.func191 aCw
def aCx:CW Tryz.f192:=⟨_,uJ⟩
theorem aJu:Fi 192 aCx:=cM Tryz.func192 aCx
def aCm:CW Tryz.f144:=⟨_,cX⟩
theorem aJj:Fi 144 aCm:=cM Tryz.func144 aCm
def aLu:CW Tryz.f145:=⟨_,cX⟩
theorem aWw:Fi 145 aLu:=cM Tryz.func145 aLu
def aCj:CW Tryz.f115:=⟨_,cX⟩
theorem aJg:Fi 115 aCj:=cM Tryz.func115 aCj
def aCn:CW Tryz.f146:=⟨_,cX⟩
theorem aJk:Fi 146 aCn:=cM Tryz.func146 aCn
def aMx:CW Tryz.f195:=⟨_,cX⟩
theorem aXz:Fi 195 aMx:=cM Tryz.func195 aMx
end Go.Proofs.YtgggiembljfnhaaGreatDoor
