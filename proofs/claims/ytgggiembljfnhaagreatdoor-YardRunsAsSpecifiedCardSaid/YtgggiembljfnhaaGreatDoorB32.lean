/-
  Part of the proof of statement 12
-/
import Derived.Test.YtgggiembljfnhaaGreatDoorB07
set_option maxRecDepth 100000
set_option maxHeartbeats 16000000
set_option linter.unusedVariables false
set_option linter.unusedSimpArgs false
namespace Go.Proofs.YtgggiembljfnhaaGreatDoor
open Go Go.Av
def aDk:CW Tryz.f191:=⟨_,vF⟩
theorem aKi:Fi 191 aDk:=cM Tryz.func191 aDk
def aDl:CW Tryz.f192:=⟨_,vF⟩
theorem aKj:Fi 192 aDl:=cM Tryz.func192 aDl
def aDa:CW Tryz.f144:=⟨_,cX⟩
theorem aJy:Fi 144 aDa:=cM Tryz.func144 aDa
def aMj:CW Tryz.f145:=⟨_,cX⟩
theorem aXn:Fi 145 aMj:=cM Tryz.func145 aMj
def aCx:CW Tryz.f115:=⟨_,cX⟩
theorem aJv:Fi 115 aCx:=cM Tryz.func115 aCx
def aDb:CW Tryz.f146:=⟨_,cX⟩
theorem aJz:Fi 146 aDb:=cM Tryz.func146 aDb
def aNm:CW Tryz.f195:=⟨_,cX⟩
theorem aYq:Fi 195 aNm:=cM Tryz.func195 aNm
end Go.Proofs.YtgggiembljfnhaaGreatDoor
