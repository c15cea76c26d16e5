/-
  Part of the proof of statement 11
-/
import Derived.Test.YtgggiembljfnhaaGreatDoorA07
set_option maxRecDepth 100000
set_option maxHeartbeats 16000000
set_option linter.unusedVariables false
namespace Go.Proofs.YtgggiembljfnhaaGreatDoor
open Go Go.Av
def aPg:CW Tryz.f282:=⟨_,cX⟩
theorem bAi:Fi 282 aPg:=cM Tryz.func282 aPg
def aNp:CW Tryz.f220:=⟨_,cX⟩
theorem aYr:Fi 220 aNp:=cM Tryz.func220 aNp
def aPf:CW Tryz.f281:=⟨_,cX⟩
theorem bAh:Fi 281 aPf:=cM Tryz.func281 aPf
def aNt:CW Tryz.f226:=⟨_,cX⟩
theorem aYv:Fi 226 aNt:=cM Tryz.func226 aNt
def aMn:CW Tryz.f177:=⟨_,cX⟩
theorem aXp:Fi 177 aMn:=cM Tryz.func177 aMn
def aDb:CW Tryz.f224:=⟨_,cX⟩
theorem aJy:Fi 224 aDb:=cM Tryz.func224 aDb
def aDc:CW Tryz.f256:=⟨_,cX⟩
theorem aJz:Fi 256 aDc:=cM Tryz.func256 aDc
def aCv:CW Tryz.f190:=⟨_,cX⟩
theorem aJs:Fi 190 aCv:=cM Tryz.func190 aCv
def aNm:CW Tryz.f215:=⟨_,cX⟩
theorem aYo:Fi 215 aNm:=cM Tryz.func215 aNm
def aLh:CW Tryz.f126:=⟨_,cX⟩
theorem aWj:Fi 126 aLh:=cM Tryz.func126 aLh
def aMj:CW Tryz.f173:=⟨_,uJ⟩
theorem aXl:Fi 173 aMj:=cM Tryz.func173 aMj
end Go.Proofs.YtgggiembljfnhaaGreatDoor
