/-
  Part of the proof of statement 12
-/
import Derived.Test.YtgggiembljfnhaaGreatDoorB07
set_option maxRecDepth 100000
set_option maxHeartbeats 16000000
set_option linter.unusedVariables false
set_option linter.unusedSimpArgs false
namespace Go.Proofs.YtgggiembljfnhaaGreatDoor
open Go Go.Av
def aOf:CW Tryz.f221:=⟨_,cX⟩
theorem aZj:Fi 221 aOf:=cM Tryz.func221 aOf
def aMw:CW Tryz.f170:=⟨_,vF⟩
theorem aYa:Fi 170 aMw:=cM Tryz.func170 aMw
def aMu:CW Tryz.f165:=⟨_,cX⟩
theorem aXy:Fi 165 aMu:=cM Tryz.func165 aMu
def aLz:CW Tryz.f129:=⟨_,vF⟩
theorem aXc:Fi 129 aLz:=cM Tryz.func129 aLz
def aNi:CW Tryz.f188:=⟨_,cX⟩
theorem aYm:Fi 188 aNi:=cM Tryz.func188 aNi
def aMc:CW Tryz.f132:=⟨_,cX⟩
theorem aXf:Fi 132 aMc:=cM Tryz.func132 aMc
def aOj:CW Tryz.f227:=⟨_,cX⟩
theorem aZn:Fi 227 aOj:=cM Tryz.func227 aOj
def aDf:CW Tryz.f166:=⟨_,cX⟩
theorem aKd:Fi 166 aDf:=cM Tryz.func166 aDf
def aMv:CW Tryz.f168:=⟨_,cX⟩
theorem aXz:Fi 168 aMv:=cM Tryz.func168 aMv
def aLx:CW Tryz.f127:=⟨_,cX⟩
theorem aXa:Fi 127 aLx:=cM Tryz.func127 aLx
def aLl:CW Tryz.f106:=⟨_,cX⟩
theorem aWn:Fi 106 aLl:=cM Tryz.func106 aLl
def aLm:CW Tryz.f107:=⟨_,cX⟩
theorem aWo:Fi 107 aLm:=cM Tryz.func107 aLm
def aMx:CW Tryz.f171:=⟨_,cX⟩
theorem aYb:Fi 171 aMx:=cM Tryz.func171 aMx
def aOv:CW Tryz.f246:=⟨_,vF⟩
theorem aZz:Fi 246 aOv:=cM Tryz.func246 aOv
def aPy:CW Tryz.f290:=⟨_,cX⟩
theorem bBd:Fi 290 aPy:=cM Tryz.func290 aPy
def W69:CW Tryz.f69:=⟨_,cX⟩
theorem bId:Fi 69 W69:=cM Tryz.func69 W69
end Go.Proofs.YtgggiembljfnhaaGreatDoor
