/-
  Part of the proof of statement 10
-/
import Derived.Test.YtndkpgceodimiaaGreatDoorA07
set_option maxRecDepth 100000
set_option maxHeartbeats 16000000
set_option linter.unusedVariables false
namespace Go.Proofs.YtndkpgceodimiaaGreatDoor
open Go Go.Av
def aMg:{x // LA Tryz.prog gv true Tryz.f172=some x}:=⟨_,cL⟩
theorem aWv:kP Tryz.prog gv true 172 aMg.1:=iZ Tryz.func172 (by kernel_rfl) aMg.2
def aNt:CW Tryz.f234:=⟨_,cL⟩
theorem aYj:Fi 234 aNt:=cH Tryz.func234 aNt
def aKu:CW Tryz.f115:=⟨_,cL⟩
theorem aVf:Fi 115 aKu:=cH Tryz.func115 aKu
def W84:CW Tryz.f84:=⟨_,cL⟩
theorem bGn:Fi 84 W84:=cH Tryz.func84 W84
def W83:CW Tryz.f83:=⟨_,cL⟩
theorem bGm:Fi 83 W83:=cH Tryz.func83 W83
def aKs:CW Tryz.f113:=⟨_,cL⟩
theorem aVd:Fi 113 aKs:=cH Tryz.func113 aKs
def W52:CW Tryz.f52:=⟨_,cL⟩
theorem bFr:Fi 52 W52:=cH Tryz.func52 W52
end Go.Proofs.YtndkpgceodimiaaGreatDoor
