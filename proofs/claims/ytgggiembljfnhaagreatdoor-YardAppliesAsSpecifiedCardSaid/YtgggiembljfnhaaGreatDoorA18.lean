/-
  Part of the proof of statement 11
-/
import Derived.Test.YtgggiembljfnhaaGreatDoorA07
set_option maxRecDepth 100000
set_option maxHeartbeats 16000000
set_option linter.unusedVariables false
namespace Go.Proofs.YtgggiembljfnhaaGreatDoor
open Go Go.Av
def aCk:CW Tryz.f122:=⟨_,cX⟩
theorem aJh:Fi 122 aCk:=cM Tryz.func122 aCk
def aCf:CW Tryz.f102:=⟨_,cX⟩
theorem aJc:Fi 102 aCf:=cM Tryz.func102 aCf
def aKv:CW Tryz.f103:=⟨_,cX⟩
theorem aVw:Fi 103 aKv:=cM Tryz.func103 aKv
def aKu:CW Tryz.f101:=⟨_,cX⟩
theorem aVv:Fi 101 aKu:=cM Tryz.func101 aKu
def W64:CW Tryz.f64:=⟨_,cX⟩
theorem bHj:Fi 64 W64:=cM Tryz.func64 W64
end Go.Proofs.YtgggiembljfnhaaGreatDoor
