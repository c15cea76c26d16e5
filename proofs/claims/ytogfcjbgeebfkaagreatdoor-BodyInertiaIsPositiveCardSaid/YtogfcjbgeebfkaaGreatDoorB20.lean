/-
  Part of the proof of statement 13
-/
import Derived.Test.YtogfcjbgeebfkaaGreatDoorB07
set_option linter.unusedSimpArgs false
set_option maxRecDepth 100000
set_option maxHeartbeats 16000000
set_option linter.unusedVariables false
namespace Go.Proofs.YtogfcjbgeebfkaaGreatDoor
open Go Go.Av
def aVn:CW Tryz.f195:=⟨_,dD⟩
theorem bHv:Fi 195 aVn:=dH Tryz.func195 aVn
def aCc:CW Tryz.f113:=⟨_,Mx⟩
theorem aFo:Fi 113 aCc:=dH Tryz.func113 aCc
def aTs:CW Tryz.f106:=⟨_,dD⟩
theorem bFz:Fi 106 aTs:=dH Tryz.func106 aTs
def aVw:CW Tryz.f211:=⟨_,dD⟩
theorem bIf:Fi 211 aVw:=dH Tryz.func211 aVw
def aLi:CW Tryz.f261:=⟨_,dD⟩
theorem aSu:Fi 261 aLi:=dH Tryz.func261 aLi
def aKo:CW Tryz.f138:=⟨_,Mx⟩
theorem aSa:Fi 138 aKo:=dH Tryz.func138 aKo
def aKs:CW Tryz.f167:=⟨_,dD⟩
theorem aSe:Fi 167 aKs:=dH Tryz.func167 aKs
def W44:CW Tryz.f44:=⟨_,Mx⟩
theorem bKt:Fi 44 W44:=dH Tryz.func44 W44
def W49:CW Tryz.f49:=⟨_,dD⟩
theorem bQw:Fi 49 W49:=dH Tryz.func49 W49
def W63:CW Tryz.f63:=⟨_,dD⟩
theorem bRg:Fi 63 W63:=dH Tryz.func63 W63
def W41:CW Tryz.f41:=⟨_,dD⟩
theorem bQt:Fi 41 W41:=dH Tryz.func41 W41
def aUg:CW Tryz.f130:=⟨_,dD⟩
theorem bGo:Fi 130 aUg:=dH Tryz.func130 aUg
def W15:CW Tryz.f15:=⟨_,dD⟩
theorem bQl:Fi 15 W15:=dH Tryz.func15 W15
def aKm:CW Tryz.f117:=⟨_,dD⟩
theorem aRy:Fi 117 aKm:=dH Tryz.func117 aKm
def W78:CW Tryz.f78:=⟨_,dD⟩
theorem bLc:Fi 78 W78:=dH Tryz.func78 W78
def W17:CW Tryz.f17:=⟨_,dD⟩
theorem bQm:Fi 17 W17:=dH Tryz.func17 W17
end Go.Proofs.YtogfcjbgeebfkaaGreatDoor
