/-
  Part of the proof of statement 10
-/
import Derived.Test.YtndkpgceodimiaaGreatDoorA07
set_option maxRecDepth 100000
set_option maxHeartbeats 16000000
set_option linter.unusedVariables false
namespace Go.Proofs.YtndkpgceodimiaaGreatDoor
open Go Go.Av
def aNv:CW Tryz.f236:=⟨_,cL⟩
theorem aYl:Fi 236 aNv:=cH Tryz.func236 aNv
def aMj:CW Tryz.f178:=⟨_,cL⟩
theorem aWy:Fi 178 aMj:=cH Tryz.func178 aMj
def aNu:CW Tryz.f235:=⟨_,cL⟩
theorem aYk:Fi 235 aNu:=cH Tryz.func235 aNu
def aMu:CW Tryz.f193:=⟨_,cL⟩
theorem aXk:Fi 193 aMu:=cH Tryz.func193 aMu
def aLo:CW Tryz.f144:=⟨_,cL⟩
theorem aWc:Fi 144 aLo:=cH Tryz.func144 aLo
def aDh:CW Tryz.f191:=⟨_,cL⟩
theorem aJu:Fi 191 aDh:=cH Tryz.func191 aDh
def aDi:CW Tryz.f223:=⟨_,cL⟩
theorem aJv:Fi 223 aDi:=cH Tryz.func223 aDi
def aCz:CW Tryz.f157:=⟨_,cL⟩
theorem aJm:Fi 157 aCz:=cH Tryz.func157 aCz
def aMh:CW Tryz.f173:=⟨_,cL⟩
theorem aWw:Fi 173 aMh:=cH Tryz.func173 aMh
def W85:CW Tryz.f85:=⟨_,cL⟩
theorem bGo:Fi 85 W85:=cH Tryz.func85 W85
def aLk:CW Tryz.f140:=⟨_,Mq⟩
theorem aVy:Fi 140 aLk:=cH Tryz.func140 aLk
end Go.Proofs.YtndkpgceodimiaaGreatDoor
