/-
  Part of the proof of statement 10
-/
import Derived.Test.YtndkpgceodimiaaGreatDoorA07
set_option maxRecDepth 100000
set_option maxHeartbeats 16000000
set_option linter.unusedVariables false
namespace Go.Proofs.YtndkpgceodimiaaGreatDoor
open Go Go.Av
def aMr:CW Tryz.f188:=⟨_,cL⟩
theorem aXh:Fi 188 aMr:=cH Tryz.func188 aMr
def aLi:CW Tryz.f137:=⟨_,Mq⟩
theorem aVw:Fi 137 aLi:=cH Tryz.func137 aLi
def aLg:CW Tryz.f132:=⟨_,cL⟩
theorem aVu:Fi 132 aLg:=cH Tryz.func132 aLg
def W96:CW Tryz.f96:=⟨_,cL⟩
theorem bGy:Fi 96 W96:=cH Tryz.func96 W96
def aLu:CW Tryz.f155:=⟨_,cL⟩
theorem aWj:Fi 155 aLu:=cH Tryz.func155 aLu
def W99:CW Tryz.f99:=⟨_,cL⟩
theorem bHb:Fi 99 W99:=cH Tryz.func99 W99
def aMv:CW Tryz.f194:=⟨_,cL⟩
theorem aXl:Fi 194 aMv:=cH Tryz.func194 aMv
def aCv:CW Tryz.f133:=⟨_,cL⟩
theorem aJi:Fi 133 aCv:=cH Tryz.func133 aCv
def aLh:CW Tryz.f135:=⟨_,cL⟩
theorem aVv:Fi 135 aLh:=cH Tryz.func135 aLh
def W94:CW Tryz.f94:=⟨_,cL⟩
theorem bGw:Fi 94 W94:=cH Tryz.func94 W94
def W71:CW Tryz.f71:=⟨_,cL⟩
theorem bGf:Fi 71 W71:=cH Tryz.func71 W71
def W72:CW Tryz.f72:=⟨_,cL⟩
theorem bGg:Fi 72 W72:=cH Tryz.func72 W72
def aLj:CW Tryz.f138:=⟨_,cL⟩
theorem aVx:Fi 138 aLj:=cH Tryz.func138 aLj
def aNi:CW Tryz.f213:=⟨_,cL⟩
theorem aXy:Fi 213 aNi:=cH Tryz.func213 aNi
def aOm:CW Tryz.f257:=⟨_,cL⟩
theorem aZd:Fi 257 aOm:=cH Tryz.func257 aOm
def W43:CW Tryz.f43:=⟨_,cL⟩
theorem bFl:Fi 43 W43:=cH Tryz.func43 W43
end Go.Proofs.YtndkpgceodimiaaGreatDoor
