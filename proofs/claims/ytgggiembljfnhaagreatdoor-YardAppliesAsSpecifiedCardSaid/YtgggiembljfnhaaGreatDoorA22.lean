/-
  Part of the proof of statement 11
-/
import Derived.Test.YtgggiembljfnhaaGreatDoorA07
set_option maxRecDepth 100000
set_option maxHeartbeats 16000000
set_option linter.unusedVariables false
namespace Go.Proofs.YtgggiembljfnhaaGreatDoor
open Go Go.Av
def aMc:CW Tryz.f158:=⟨_,cX⟩
theorem aXe:Fi 158 aMc:=cM Tryz.func158 aMc
def aCo:CW Tryz.f154:=⟨_,cX⟩
theorem aJl:Fi 154 aCo:=cM Tryz.func154 aCo
def aNc:CW Tryz.f202:=⟨_,cX⟩
theorem aYe:Fi 202 aNc:=cM Tryz.func202 aNc
def aCy:CW Tryz.f201:=⟨_,cX⟩
theorem aJv:Fi 201 aCy:=cM Tryz.func201 aCy
def aDe:CW Tryz.f272:=⟨_,cX⟩
theorem aKb:Fi 272 aDe:=cM Tryz.func272 aDe
def q9:CW Tryz.f200:=⟨_,cX⟩
theorem xr:Fi 200 q9:=cM Tryz.func200 q9
def aDd:CW Tryz.f270:=⟨_,cX⟩
theorem aKa:Fi 270 aDd:=cM Tryz.func270 aDd
def aDf:{x // KU Tryz.prog gv true Tryz.f313=some x}:=⟨_,cX⟩
theorem aKc:kH Tryz.prog gv true 313 aDf.1:=jC Tryz.func313 (by kernel_rfl) aDf.2
def aCz:CW Tryz.f205:=⟨_,cX⟩
theorem aJw:Fi 205 aCz:=cM Tryz.func205 aCz
def aLg:CW Tryz.f123:=⟨_,cX⟩
theorem aWi:Fi 123 aLg:=cM Tryz.func123 aLg
end Go.Proofs.YtgggiembljfnhaaGreatDoor
