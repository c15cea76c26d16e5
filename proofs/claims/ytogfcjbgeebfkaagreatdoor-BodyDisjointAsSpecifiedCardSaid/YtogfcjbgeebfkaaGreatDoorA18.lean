/-
  Part of the proof of statement 7
-/
import Derived.Test.YtogfcjbgeebfkaaGreatDoorA07
set_option maxRecDepth 100000
set_option maxHeartbeats 16000000
set_option linter.unusedVariables false
set_option linter.unusedSimpArgs false
namespace Go.Proofs.YtogfcjbgeebfkaaGreatDoor
open Go Go.Av
def aGo:CW Tryz.f193:=⟨_,dB⟩
theorem aNn:Fi 193 aGo:=dC Tryz.func193 aGo
def aGa:CW Tryz.f101:=⟨_,dB⟩
theorem aMz:Fi 101 aGa:=dC Tryz.func101 aGa
def W53:CW Tryz.f53:=⟨_,dB⟩
theorem bKe:Fi 53 W53:=dC Tryz.func53 W53
def aOm:CW Tryz.f102:=⟨_,dB⟩
theorem aZs:Fi 102 aOm:=dC Tryz.func102 aOm
def W36:CW Tryz.f36:=⟨_,dB⟩
theorem bJx:Fi 36 W36:=dC Tryz.func36 W36
def aRi:{x // wE Tryz.prog gv true Tryz.f241=some x}:=⟨_,dB⟩
theorem bCo:gH Tryz.prog gv true 241 aRi.1:=dQ Tryz.func241 (by kernel_rfl) aRi.2
def aSk:CW Tryz.f285:=⟨_,dB⟩
theorem bDq:Fi 285 aSk:=dC Tryz.func285 aSk
def aPv:CW Tryz.f183:=⟨_,dB⟩
theorem bBb:Fi 183 aPv:=dC Tryz.func183 aPv
def W94:CW Tryz.f94:=⟨_,dB⟩
theorem bKt:Fi 94 W94:=dC Tryz.func94 W94
def W93:CW Tryz.f93:=⟨_,dB⟩
theorem bKs:Fi 93 W93:=dC Tryz.func93 W93
def aPt:CW Tryz.f181:=⟨_,dB⟩
theorem bAz:Fi 181 aPt:=dC Tryz.func181 aPt
def W31:CW Tryz.f31:=⟨_,dB⟩
theorem bJt:Fi 31 W31:=dC Tryz.func31 W31
end Go.Proofs.YtogfcjbgeebfkaaGreatDoor
