/-
  Part of the proof of statement 11
-/
import Derived.Test.YtgggiembljfnhaaGreatDoorA07
set_option maxRecDepth 100000
set_option maxHeartbeats 16000000
set_option linter.unusedVariables false
namespace Go.Proofs.YtgggiembljfnhaaGreatDoor
open Go Go.Av
def aQi:CW Tryz.f339:=⟨_,cX⟩
theorem bBn:Fi 339 aQi:=cM Tryz.func339 aQi
def aQk:CW Tryz.f341:=⟨_,cX⟩
theorem bBq:Fi 341 aQk:=cM Tryz.func341 aQk
def aPz:CW Tryz.f311:=⟨_,cX⟩
theorem bBc:Fi 311 aPz:=cM Tryz.func311 aPz
def aQn:CW Tryz.f370:=⟨_,cX⟩
theorem bBt:Fi 370 aQn:=cM Tryz.func370 aQn
def aQe:CW Tryz.f335:=⟨_,cX⟩
theorem bBj:Fi 335 aQe:=cM Tryz.func335 aQe
def aMw:CW Tryz.f194:=⟨_,cX⟩
theorem aXy:Fi 194 aMw:=cM Tryz.func194 aMw
def aMz:CW Tryz.f197:=⟨_,cX⟩
theorem aYb:Fi 197 aMz:=cM Tryz.func197 aMz
def aQd:CW Tryz.f334:=⟨_,cX⟩
theorem bBi:Fi 334 aQd:=cM Tryz.func334 aQd
def aQo:CW Tryz.f372:=⟨_,cX⟩
theorem bBu:Fi 372 aQo:=cM Tryz.func372 aQo
def aQf:CW Tryz.f336:=⟨_,cX⟩
theorem bBk:Fi 336 aQf:=cM Tryz.func336 aQf
end Go.Proofs.YtgggiembljfnhaaGreatDoor
