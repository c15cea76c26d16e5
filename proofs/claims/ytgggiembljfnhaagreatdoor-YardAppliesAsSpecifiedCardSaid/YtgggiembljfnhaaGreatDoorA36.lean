/-
  Part of the proof of statement 11
-/
import Derived.Test.YtgggiembljfnhaaGreatDoorA07
set_option maxRecDepth 100000
set_option maxHeartbeats 16000000
set_option linter.unusedVariables false
set_option linter.unusedSimpArgs false
namespace Go.Proofs.YtgggiembljfnhaaGreatDoor
open Go Go.Av
def aNq:CW Tryz.f221:=⟨_,cX⟩
theorem aYs:Fi 221 aNq:=cM Tryz.func221 aNq
def aMh:CW Tryz.f170:=⟨_,uJ⟩
theorem aXj:Fi 170 aMh:=cM Tryz.func170 aMh
def aMf:CW Tryz.f165:=⟨_,cX⟩
theorem aXh:Fi 165 aMf:=cM Tryz.func165 aMf
def aLk:CW Tryz.f129:=⟨_,uJ⟩
theorem aWm:Fi 129 aLk:=cM Tryz.func129 aLk
def aMt:CW Tryz.f188:=⟨_,cX⟩
theorem aXv:Fi 188 aMt:=cM Tryz.func188 aMt
def aLn:CW Tryz.f132:=⟨_,cX⟩
theorem aWp:Fi 132 aLn:=cM Tryz.func132 aLn
def aNu:CW Tryz.f227:=⟨_,cX⟩
theorem aYw:Fi 227 aNu:=cM Tryz.func227 aNu
def aCr:CW Tryz.f166:=⟨_,cX⟩
theorem aJo:Fi 166 aCr:=cM Tryz.func166 aCr
def aMg:CW Tryz.f168:=⟨_,cX⟩
theorem aXi:Fi 168 aMg:=cM Tryz.func168 aMg
def aLi:CW Tryz.f127:=⟨_,cX⟩
theorem aWk:Fi 127 aLi:=cM Tryz.func127 aLi
def aKw:CW Tryz.f106:=⟨_,cX⟩
theorem aVx:Fi 106 aKw:=cM Tryz.func106 aKw
def aKx:CW Tryz.f107:=⟨_,cX⟩
theorem aVy:Fi 107 aKx:=cM Tryz.func107 aKx
def aMi:CW Tryz.f171:=⟨_,cX⟩
theorem aXk:Fi 171 aMi:=cM Tryz.func171 aMi
def aOg:CW Tryz.f246:=⟨_,uJ⟩
theorem aZi:Fi 246 aOg:=cM Tryz.func246 aOg
def aPj:CW Tryz.f290:=⟨_,cX⟩
theorem bAm:Fi 290 aPj:=cM Tryz.func290 aPj
def W69:CW Tryz.f69:=⟨_,cX⟩
theorem bHl:Fi 69 W69:=cM Tryz.func69 W69
end Go.Proofs.YtgggiembljfnhaaGreatDoor
