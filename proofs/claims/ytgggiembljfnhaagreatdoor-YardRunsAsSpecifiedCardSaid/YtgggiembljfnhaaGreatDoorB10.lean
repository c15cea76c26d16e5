/-
  Part of the proof of statement 12
-/
import Derived.Test.YtgggiembljfnhaaGreatDoorB07
set_option maxRecDepth 100000
set_option maxHeartbeats 16000000
set_option linter.unusedVariables false
set_option linter.unusedSimpArgs false
namespace Go.Proofs.YtgggiembljfnhaaGreatDoor
open Go Go.Av
def aQx:CW Tryz.f339:=⟨_,cX⟩
theorem bCe:Fi 339 aQx:=cM Tryz.func339 aQx
def aQz:CW Tryz.f341:=⟨_,cX⟩
theorem bCh:Fi 341 aQz:=cM Tryz.func341 aQz
def aQo:CW Tryz.f311:=⟨_,cX⟩
theorem bBt:Fi 311 aQo:=cM Tryz.func311 aQo
def aRc:CW Tryz.f370:=⟨_,cX⟩
theorem bCk:Fi 370 aRc:=cM Tryz.func370 aRc
def aQt:CW Tryz.f335:=⟨_,cX⟩
theorem bCa:Fi 335 aQt:=cM Tryz.func335 aQt
def aNl:CW Tryz.f194:=⟨_,cX⟩
theorem aYp:Fi 194 aNl:=cM Tryz.func194 aNl
def aNo:CW Tryz.f197:=⟨_,cX⟩
theorem aYs:Fi 197 aNo:=cM Tryz.func197 aNo
def aQs:CW Tryz.f334:=⟨_,cX⟩
theorem bBz:Fi 334 aQs:=cM Tryz.func334 aQs
def aRd:CW Tryz.f372:=⟨_,cX⟩
theorem bCl:Fi 372 aRd:=cM Tryz.func372 aRd
def aQu:CW Tryz.f336:=⟨_,cX⟩
theorem bCb:Fi 336 aQu:=cM Tryz.func336 aQu
end Go.Proofs.YtgggiembljfnhaaGreatDoor
