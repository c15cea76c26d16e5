/-
  Part of the proof of statement 10
-/
import Derived.Test.YtndkpgceodimiaaGreatDoorA07
set_option maxRecDepth 100000
set_option maxHeartbeats 16000000
set_option linter.unusedVariables false
namespace Go.Proofs.YtndkpgceodimiaaGreatDoor
open Go Go.Av
def aDf:CW Tryz.f179:=⟨_,cL⟩
theorem aJs:Fi 179 aDf:=cH Tryz.func179 aDf
def aDg:CW Tryz.f180:=⟨_,cL⟩
theorem aJt:Fi 180 aDg:=cH Tryz.func180 aDg
def aCt:CW Tryz.f122:=⟨_,cL⟩
theorem aJg:Fi 122 aCt:=cH Tryz.func122 aCt
def aKz:CW Tryz.f123:=⟨_,cL⟩
theorem aVl:Fi 123 aKz:=cH Tryz.func123 aKz
def W87:CW Tryz.f87:=⟨_,cL⟩
theorem bAy:Fi 87 W87:=cH Tryz.func87 W87
def aCu:CW Tryz.f124:=⟨_,cL⟩
theorem aJh:Fi 124 aCu:=cH Tryz.func124 aCu
def aMm:CW Tryz.f183:=⟨_,cL⟩
theorem aXc:Fi 183 aMm:=cH Tryz.func183 aMm
end Go.Proofs.YtndkpgceodimiaaGreatDoor
