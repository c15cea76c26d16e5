/-
  Part of the proof of statement 10
-/
import Derived.Test.YtndkpgceodimiaaGreatDoorA07
set_option maxRecDepth 100000
set_option maxHeartbeats 16000000
set_option linter.unusedVariables false
namespace Go.Proofs.YtndkpgceodimiaaGreatDoor
open Go Go.Av
def aKt:CW Tryz.f114:=⟨_,cL⟩
theorem aVe:Fi 114 aKt:=cH Tryz.func114 aKt
def aCp:CW Tryz.f110:=⟨_,cL⟩
theorem aJc:Fi 110 aCp:=cH Tryz.func110 aCp
def aLw:CW Tryz.f160:=⟨_,cL⟩
theorem aWl:Fi 160 aLw:=cH Tryz.func160 aLw
def aDa:CW Tryz.f159:=⟨_,cL⟩
theorem aJn:Fi 159 aDa:=cH Tryz.func159 aDa
def aDk:CW Tryz.f226:=⟨_,cL⟩
theorem aJx:Fi 226 aDk:=cH Tryz.func226 aDk
def te:CW Tryz.f158:=⟨_,cL⟩
theorem yl:Fi 158 te:=cH Tryz.func158 te
def aDj:CW Tryz.f224:=⟨_,cL⟩
theorem aJw:Fi 224 aDj:=cH Tryz.func224 aDj
def aDl:{x // LA Tryz.prog gv true Tryz.f269=some x}:=⟨_,cL⟩
theorem aJy:kP Tryz.prog gv true 269 aDl.1:=iZ Tryz.func269 (by kernel_rfl) aDl.2
def aDb:CW Tryz.f163:=⟨_,cL⟩
theorem aJo:Fi 163 aDb:=cH Tryz.func163 aDb
def W82:CW Tryz.f82:=⟨_,cL⟩
theorem bGl:Fi 82 W82:=cH Tryz.func82 W82
end Go.Proofs.YtndkpgceodimiaaGreatDoor
