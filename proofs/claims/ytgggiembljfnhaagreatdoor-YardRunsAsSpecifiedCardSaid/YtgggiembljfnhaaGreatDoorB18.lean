/-
  Part of the proof of statement 12
-/
import Derived.Test.YtgggiembljfnhaaGreatDoorB07
set_option maxRecDepth 100000
set_option maxHeartbeats 16000000
set_option linter.unusedVariables false
set_option linter.unusedSimpArgs false
namespace Go.Proofs.YtgggiembljfnhaaGreatDoor
open Go Go.Av
def aCy:CW Tryz.f122:=⟨_,cX⟩
theorem aJw:Fi 122 aCy:=cM Tryz.func122 aCy
def aCt:CW Tryz.f102:=⟨_,cX⟩
theorem aJr:Fi 102 aCt:=cM Tryz.func102 aCt
def aLk:CW Tryz.f103:=⟨_,cX⟩
theorem aWm:Fi 103 aLk:=cM Tryz.func103 aLk
def aLj:CW Tryz.f101:=⟨_,cX⟩
theorem aWl:Fi 101 aLj:=cM Tryz.func101 aLj
def W64:CW Tryz.f64:=⟨_,cX⟩
theorem bIb:Fi 64 W64:=cM Tryz.func64 W64
end Go.Proofs.YtgggiembljfnhaaGreatDoor
