/-
  Part of the proof of statement 10
-/
import Derived.Test.YtndkpgceodimiaaGreatDoorA07
set_option maxRecDepth 100000
set_option maxHeartbeats 16000000
set_option linter.unusedVariables false
namespace Go.Proofs.YtndkpgceodimiaaGreatDoor
open Go Go.Av
def W81:CW Tryz.f81:=⟨_,cL⟩
theorem bAx:Fi 81 W81:=cH Tryz.func81 W81
def W50:CW Tryz.f50:=⟨_,cL⟩
theorem bAr:Fi 50 W50:=cH Tryz.func50 W50
def W51:CW Tryz.f51:=⟨_,cL⟩
theorem bFq:Fi 51 W51:=cH Tryz.func51 W51
def W49:CW Tryz.f49:=⟨_,cL⟩
theorem bFp:Fi 49 W49:=cH Tryz.func49 W49
def W26:CW Tryz.f26:=⟨_,cL⟩
theorem aZg:Fi 26 W26:=cH Tryz.func26 W26
end Go.Proofs.YtndkpgceodimiaaGreatDoor
