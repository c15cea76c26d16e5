/-
  Part of the proof of statement 12
-/
import Derived.Test.YtgggiembljfnhaaGreatDoorB07
set_option maxRecDepth 100000
set_option maxHeartbeats 16000000
set_option linter.unusedVariables false
set_option linter.unusedSimpArgs false
namespace Go.Proofs.YtgggiembljfnhaaGreatDoor
open Go Go.Av
def aQi:CW Tryz.f306:=⟨_,cX⟩
theorem bBn:Fi 306 aQi:=cM Tryz.func306 aQi
def aPk:CW Tryz.f265:=⟨_,cX⟩
theorem bAo:Fi 265 aPk:=cM Tryz.func265 aPk
def aQy:CW Tryz.f340:=⟨_,cX⟩
theorem bCg:Fi 340 aQy:=cM Tryz.func340 aQy
def aQk:CW Tryz.f308:=⟨_,cX⟩
theorem bBp:Fi 308 aQk:=cM Tryz.func308 aQk
def aQj:CW Tryz.f307:=⟨_,cX⟩
theorem bBo:Fi 307 aQj:=cM Tryz.func307 aQj
def aPl:CW Tryz.f266:=⟨_,cX⟩
theorem bAp:Fi 266 aPl:=cM Tryz.func266 aPl
def aQl:CW Tryz.f309:=⟨_,vF⟩
theorem bBq:Fi 309 aQl:=cM Tryz.func309 aQl
def aQn:CW Tryz.f310:=⟨_,cX⟩
theorem bBs:Fi 310 aQn:=cM Tryz.func310 aQn
def aPm:CW Tryz.f267:=⟨_,cX⟩
theorem bAq:Fi 267 aPm:=cM Tryz.func267 aPm
def aPn:CW Tryz.f268:=⟨_,cX⟩
theorem bAr:Fi 268 aPn:=cM Tryz.func268 aPn
def aRa:CW Tryz.f342:=⟨_,cX⟩
theorem bCi:Fi 342 aRa:=cM Tryz.func342 aRa
def aRb:CW Tryz.f343:=⟨_,cX⟩
theorem bCj:Fi 343 aRb:=cM Tryz.func343 aRb
def aQp:CW Tryz.f312:=⟨_,cX⟩
theorem bBu:Fi 312 aQp:=cM Tryz.func312 aQp
end Go.Proofs.YtgggiembljfnhaaGreatDoor
