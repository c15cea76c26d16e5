/-
  Part of the proof of statement 10
-/
import Derived.Test.YtndkpgceodimiaaGreatDoorA07
set_option maxRecDepth 100000
set_option maxHeartbeats 16000000
set_option linter.unusedVariables false
namespace Go.Proofs.YtndkpgceodimiaaGreatDoor
open Go Go.Av
def aPi:CW Tryz.f325:=⟨_,cL⟩
theorem bAb:Fi 325 aPi:=cH Tryz.func325 aPi
def aMn:CW Tryz.f184:=⟨_,cL⟩
theorem aXd:Fi 184 aMn:=cH Tryz.func184 aMn
def aNw:CW Tryz.f237:=⟨_,cL⟩
theorem aYm:Fi 237 aNw:=cH Tryz.func237 aNw
def aMq:CW Tryz.f187:=⟨_,cL⟩
theorem aXg:Fi 187 aMq:=cH Tryz.func187 aMq
def aOj:CW Tryz.f249:=⟨_,cL⟩
theorem aYz:Fi 249 aOj:=cH Tryz.func249 aOj
def aOw:CW Tryz.f284:=⟨_,cL⟩
theorem aZp:Fi 284 aOw:=cH Tryz.func284 aOw
def aMp:CW Tryz.f186:=⟨_,Mq⟩
theorem aXf:Fi 186 aMp:=cH Tryz.func186 aMp
def aOe:CW Tryz.f244:=⟨_,cL⟩
theorem aYu:Fi 244 aOe:=cH Tryz.func244 aOe
def aLd:CW Tryz.f128:=⟨_,cL⟩
theorem aVp:Fi 128 aLd:=cH Tryz.func128 aLd
def aOu:CW Tryz.f282:=⟨_,cL⟩
theorem aZn:Fi 282 aOu:=cH Tryz.func282 aOu
end Go.Proofs.YtndkpgceodimiaaGreatDoor
