/-
  Part of the proof of statement 9
-/
import Derived.Test.YtogfcjbgeebfkaaGreatDoorA07
set_option linter.unusedSimpArgs false
set_option maxRecDepth 100000
set_option maxHeartbeats 16000000
set_option linter.unusedVariables false
namespace Go.Proofs.YtogfcjbgeebfkaaGreatDoor
open Go Go.Av
def aLo:CW Tryz.f193:=⟨_,dI⟩
theorem aSy:Fi 193 aLo:=dK Tryz.func193 aLo
def aKy:CW Tryz.f101:=⟨_,dI⟩
theorem aSi:Fi 101 aKy:=dK Tryz.func101 aKy
def W53:CW Tryz.f53:=⟨_,dI⟩
theorem bQo:Fi 53 W53:=dK Tryz.func53 W53
def aUd:CW Tryz.f102:=⟨_,dI⟩
theorem bGe:Fi 102 aUd:=dK Tryz.func102 aUd
def W36:CW Tryz.f36:=⟨_,dI⟩
theorem bQg:Fi 36 W36:=dK Tryz.func36 W36
def aXa:{x // AG Tryz.prog gv true Tryz.f241=some x}:=⟨_,dI⟩
theorem bJf:iM Tryz.prog gv true 241 aXa.1:=dW Tryz.func241 (by kernel_rfl) aXa.2
def aXz:CW Tryz.f285:=⟨_,dI⟩
theorem bKe:Fi 285 aXz:=dK Tryz.func285 aXz
def aVr:CW Tryz.f183:=⟨_,dI⟩
theorem bHv:Fi 183 aVr:=dK Tryz.func183 aVr
def W94:CW Tryz.f94:=⟨_,dI⟩
theorem bQz:Fi 94 W94:=dK Tryz.func94 W94
def W93:CW Tryz.f93:=⟨_,dI⟩
theorem bQy:Fi 93 W93:=dK Tryz.func93 W93
def aVp:CW Tryz.f181:=⟨_,dI⟩
theorem bHt:Fi 181 aVp:=dK Tryz.func181 aVp
def W31:CW Tryz.f31:=⟨_,dI⟩
theorem bQd:Fi 31 W31:=dK Tryz.func31 W31
end Go.Proofs.YtogfcjbgeebfkaaGreatDoor
