/-
  Part of the proof of statement 7
-/
import Derived.Test.YtogfcjbgeebfkaaGreatDoorA07
set_option maxRecDepth 100000
set_option maxHeartbeats 16000000
set_option linter.unusedVariables false
set_option linter.unusedSimpArgs false
namespace Go.Proofs.YtogfcjbgeebfkaaGreatDoor
open Go Go.Av
def W51:CW Tryz.f51:=⟨_,dB⟩
theorem bKc:Fi 51 W51:=dC Tryz.func51 W51
def aGf:CW Tryz.f129:=⟨_,dB⟩
theorem aNe:Fi 129 aGf:=dC Tryz.func129 aGf
def aQo:CW Tryz.f212:=⟨_,dB⟩
theorem bBu:Fi 212 aQo:=dC Tryz.func212 aQo
def aOz:CW Tryz.f133:=⟨_,dB⟩
theorem bAf:Fi 133 aOz:=dC Tryz.func133 aOz
def aPa:CW Tryz.f134:=⟨_,dB⟩
theorem bAg:Fi 134 aPa:=dC Tryz.func134 aPa
def aPb:CW Tryz.f135:=⟨_,dB⟩
theorem bAh:Fi 135 aPb:=dC Tryz.func135 aPb
def W57:CW Tryz.f57:=⟨_,dB⟩
theorem bEd:Fi 57 W57:=dC Tryz.func57 W57
def aPc:CW Tryz.f136:=⟨_,dB⟩
theorem bAi:Fi 136 aPc:=dC Tryz.func136 aPc
def aPd:CW Tryz.f137:=⟨_,dB⟩
theorem bAj:Fi 137 aPd:=dC Tryz.func137 aPd
def aPr:CW Tryz.f165:=⟨_,dB⟩
theorem bAx:Fi 165 aPr:=dC Tryz.func165 aPr
end Go.Proofs.YtogfcjbgeebfkaaGreatDoor
