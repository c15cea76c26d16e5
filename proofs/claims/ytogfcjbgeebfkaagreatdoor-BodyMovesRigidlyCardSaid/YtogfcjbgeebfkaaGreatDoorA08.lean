/-
  Part of the proof of statement 9
-/
import Derived.Test.YtogfcjbgeebfkaaGreatDoorA07
set_option linter.unusedSimpArgs false
set_option maxRecDepth 100000
set_option maxHeartbeats 16000000
set_option linter.unusedVariables false
namespace Go.Proofs.YtogfcjbgeebfkaaGreatDoor
open Go Go.Av
def W51:CW Tryz.f51:=⟨_,dI⟩
theorem bQm:Fi 51 W51:=dK Tryz.func51 W51
def aLc:CW Tryz.f129:=⟨_,dI⟩
theorem aSm:Fi 129 aLc:=dK Tryz.func129 aLc
def aWh:CW Tryz.f212:=⟨_,dI⟩
theorem bIm:Fi 212 aWh:=dK Tryz.func212 aWh
def aUw:CW Tryz.f133:=⟨_,dI⟩
theorem bGy:Fi 133 aUw:=dK Tryz.func133 aUw
def aUx:CW Tryz.f134:=⟨_,dI⟩
theorem bGz:Fi 134 aUx:=dK Tryz.func134 aUx
def aUy:CW Tryz.f135:=⟨_,dI⟩
theorem bHa:Fi 135 aUy:=dK Tryz.func135 aUy
def W57:CW Tryz.f57:=⟨_,dI⟩
theorem bKt:Fi 57 W57:=dK Tryz.func57 W57
def aUz:CW Tryz.f136:=⟨_,dI⟩
theorem bHb:Fi 136 aUz:=dK Tryz.func136 aUz
def aVa:CW Tryz.f137:=⟨_,dI⟩
theorem bHc:Fi 137 aVa:=dK Tryz.func137 aVa
def aVm:CW Tryz.f165:=⟨_,dI⟩
theorem bHp:Fi 165 aVm:=dK Tryz.func165 aVm
end Go.Proofs.YtogfcjbgeebfkaaGreatDoor
