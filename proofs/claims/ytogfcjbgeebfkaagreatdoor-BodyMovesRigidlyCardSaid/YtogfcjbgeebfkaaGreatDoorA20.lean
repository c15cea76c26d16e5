/-
  Part of the proof of statement 9
-/
import Derived.Test.YtogfcjbgeebfkaaGreatDoorA07
set_option linter.unusedSimpArgs false
set_option maxRecDepth 100000
set_option maxHeartbeats 16000000
set_option linter.unusedVariables false
namespace Go.Proofs.YtogfcjbgeebfkaaGreatDoor
open Go Go.Av
def aVy:CW Tryz.f195:=⟨_,dI⟩
theorem bIc:Fi 195 aVy:=dK Tryz.func195 aVy
def aCt:CW Tryz.f113:=⟨_,Mh⟩
theorem aGg:Fi 113 aCt:=dK Tryz.func113 aCt
def aUh:CW Tryz.f106:=⟨_,dI⟩
theorem bGi:Fi 106 aUh:=dK Tryz.func106 aUh
def aWg:CW Tryz.f211:=⟨_,dI⟩
theorem bIl:Fi 211 aWg:=dK Tryz.func211 aWg
def aLz:CW Tryz.f261:=⟨_,dI⟩
theorem aTj:Fi 261 aLz:=dK Tryz.func261 aLz
def aLd:CW Tryz.f138:=⟨_,Mh⟩
theorem aSn:Fi 138 aLd:=dK Tryz.func138 aLd
def aLj:CW Tryz.f167:=⟨_,dI⟩
theorem aSt:Fi 167 aLj:=dK Tryz.func167 aLj
def W44:CW Tryz.f44:=⟨_,Mh⟩
theorem bKp:Fi 44 W44:=dK Tryz.func44 W44
def W49:CW Tryz.f49:=⟨_,dI⟩
theorem bQl:Fi 49 W49:=dK Tryz.func49 W49
def W63:CW Tryz.f63:=⟨_,dI⟩
theorem bKw:Fi 63 W63:=dK Tryz.func63 W63
def W41:CW Tryz.f41:=⟨_,dI⟩
theorem bKo:Fi 41 W41:=dK Tryz.func41 W41
def aUt:CW Tryz.f130:=⟨_,dI⟩
theorem bGv:Fi 130 aUt:=dK Tryz.func130 aUt
def W15:CW Tryz.f15:=⟨_,dI⟩
theorem bHi:Fi 15 W15:=dK Tryz.func15 W15
def aLb:CW Tryz.f117:=⟨_,dI⟩
theorem aSl:Fi 117 aLb:=dK Tryz.func117 aLb
def W78:CW Tryz.f78:=⟨_,dI⟩
theorem bLc:Fi 78 W78:=dK Tryz.func78 W78
def W17:CW Tryz.f17:=⟨_,dI⟩
theorem bHr:Fi 17 W17:=dK Tryz.func17 W17
end Go.Proofs.YtogfcjbgeebfkaaGreatDoor
