/-
  Part of the proof of statement 10
-/
import Derived.Test.YtndkpgceodimiaaGreatDoorA07
set_option maxRecDepth 100000
set_option maxHeartbeats 16000000
set_option linter.unusedVariables false
namespace Go.Proofs.YtndkpgceodimiaaGreatDoor
open Go Go.Av
def W95:CW Tryz.f95:=⟨_,cL⟩
theorem bGx:Fi 95 W95:=cH Tryz.func95 W95
def aCw:CW Tryz.f134:=⟨_,cL⟩
theorem aJj:Fi 134 aCw:=cH Tryz.func134 aCw
def aDe:CW Tryz.f177:=⟨_,cL⟩
theorem aJr:Fi 177 aDe:=cH Tryz.func177 aDe
def aCs:CW Tryz.f119:=⟨_,cL⟩
theorem aJf:Fi 119 aCs:=cH Tryz.func119 aCs
def aMt:CW Tryz.f190:=⟨_,cL⟩
theorem aXj:Fi 190 aMt:=cH Tryz.func190 aMt
def aMw:CW Tryz.f195:=⟨_,cL⟩
theorem aXm:Fi 195 aMw:=cH Tryz.func195 aMw
def aCx:CW Tryz.f139:=⟨_,cL⟩
theorem aJk:Fi 139 aCx:=cH Tryz.func139 aCx
def aKx:CW Tryz.f120:=⟨_,cL⟩
theorem aVj:Fi 120 aKx:=cH Tryz.func120 aKx
def aMx:CW Tryz.f196:=⟨_,cL⟩
theorem aXn:Fi 196 aMx:=cH Tryz.func196 aMx
def aMs:CW Tryz.f189:=⟨_,cL⟩
theorem aXi:Fi 189 aMs:=cH Tryz.func189 aMs
end Go.Proofs.YtndkpgceodimiaaGreatDoor
