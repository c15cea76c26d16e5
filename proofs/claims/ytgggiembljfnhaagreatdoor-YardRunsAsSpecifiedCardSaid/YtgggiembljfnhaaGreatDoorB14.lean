/-
  Part of the proof of statement 12
-/
import Derived.Test.YtgggiembljfnhaaGreatDoorB07
set_option maxRecDepth 100000
set_option maxHeartbeats 16000000
set_option linter.unusedVariables false
set_option linter.unusedSimpArgs false
namespace Go.Proofs.YtgggiembljfnhaaGreatDoor
open Go Go.Av
def aPv:CW Tryz.f282:=⟨_,cX⟩
theorem bAz:Fi 282 aPv:=cM Tryz.func282 aPv
def aOe:CW Tryz.f220:=⟨_,cX⟩
theorem aZi:Fi 220 aOe:=cM Tryz.func220 aOe
def aPu:CW Tryz.f281:=⟨_,cX⟩
theorem bAy:Fi 281 aPu:=cM Tryz.func281 aPu
def aOi:CW Tryz.f226:=⟨_,cX⟩
theorem aZm:Fi 226 aOi:=cM Tryz.func226 aOi
def aNc:CW Tryz.f177:=⟨_,cX⟩
theorem aYg:Fi 177 aNc:=cM Tryz.func177 aNc
def aDp:CW Tryz.f224:=⟨_,cX⟩
theorem aKn:Fi 224 aDp:=cM Tryz.func224 aDp
def aDq:CW Tryz.f256:=⟨_,cX⟩
theorem aKo:Fi 256 aDq:=cM Tryz.func256 aDq
def aDj:CW Tryz.f190:=⟨_,cX⟩
theorem aKh:Fi 190 aDj:=cM Tryz.func190 aDj
def aOb:CW Tryz.f215:=⟨_,cX⟩
theorem aZf:Fi 215 aOb:=cM Tryz.func215 aOb
def aLw:CW Tryz.f126:=⟨_,cX⟩
theorem aWz:Fi 126 aLw:=cM Tryz.func126 aLw
def aMy:CW Tryz.f173:=⟨_,vF⟩
theorem aYc:Fi 173 aMy:=cM Tryz.func173 aMy
end Go.Proofs.YtgggiembljfnhaaGreatDoor
