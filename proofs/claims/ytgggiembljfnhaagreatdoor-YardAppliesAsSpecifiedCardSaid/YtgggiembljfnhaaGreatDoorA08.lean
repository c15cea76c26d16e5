/-
  Part of the proof of statement 11
-/
import Derived.Test.YtgggiembljfnhaaGreatDoorA07
set_option maxRecDepth 100000
set_option maxHeartbeats 16000000
set_option linter.unusedVariables false
namespace Go.Proofs.YtgggiembljfnhaaGreatDoor
open Go Go.Av
def aPt:CW Tryz.f306:=⟨_,cX⟩
theorem bAw:Fi 306 aPt:=cM Tryz.func306 aPt
def aOv:CW Tryz.f265:=⟨_,cX⟩
theorem aZx:Fi 265 aOv:=cM Tryz.func265 aOv
def aQj:CW Tryz.f340:=⟨_,cX⟩
theorem bBp:Fi 340 aQj:=cM Tryz.func340 aQj
def aPv:CW Tryz.f308:=⟨_,cX⟩
theorem bAy:Fi 308 aPv:=cM Tryz.func308 aPv
def aPu:CW Tryz.f307:=⟨_,cX⟩
theorem bAx:Fi 307 aPu:=cM Tryz.func307 aPu
def aOw:CW Tryz.f266:=⟨_,cX⟩
theorem aZy:Fi 266 aOw:=cM Tryz.func266 aOw
def aPw:CW Tryz.f309:=⟨_,uJ⟩
theorem bAz:Fi 309 aPw:=cM Tryz.func309 aPw
def aPy:CW Tryz.f310:=⟨_,cX⟩
theorem bBb:Fi 310 aPy:=cM Tryz.func310 aPy
def aOx:CW Tryz.f267:=⟨_,cX⟩
theorem aZz:Fi 267 aOx:=cM Tryz.func267 aOx
def aOy:CW Tryz.f268:=⟨_,cX⟩
theorem bAa:Fi 268 aOy:=cM Tryz.func268 aOy
def aQl:CW Tryz.f342:=⟨_,cX⟩
theorem bBr:Fi 342 aQl:=cM Tryz.func342 aQl
def aQm:CW Tryz.f343:=⟨_,cX⟩
theorem bBs:Fi 343 aQm:=cM Tryz.func343 aQm
def aQa:CW Tryz.f312:=⟨_,cX⟩
theorem bBd:Fi 312 aQa:=cM Tryz.func312 aQa
end Go.Proofs.YtgggiembljfnhaaGreatDoor
