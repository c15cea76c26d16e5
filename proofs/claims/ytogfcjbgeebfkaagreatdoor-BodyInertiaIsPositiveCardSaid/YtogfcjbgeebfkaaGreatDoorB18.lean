/-
  Part of the proof of statement 13
-/
import Derived.Test.YtogfcjbgeebfkaaGreatDoorB07
set_option linter.unusedSimpArgs false
set_option maxRecDepth 100000
set_option maxHeartbeats 16000000
set_option linter.unusedVariables false
namespace Go.Proofs.YtogfcjbgeebfkaaGreatDoor
open Go Go.Av
def aKx:CW Tryz.f193:=⟨_,dD⟩
theorem aSj:Fi 193 aKx:=dH Tryz.func193 aKx
def aKj:CW Tryz.f101:=⟨_,dD⟩
theorem aRv:Fi 101 aKj:=dH Tryz.func101 aKj
def W53:CW Tryz.f53:=⟨_,dD⟩
theorem bQz:Fi 53 W53:=dH Tryz.func53 W53
def aTp:CW Tryz.f102:=⟨_,dD⟩
theorem bFw:Fi 102 aTp:=dH Tryz.func102 aTp
def W36:CW Tryz.f36:=⟨_,dD⟩
theorem bQr:Fi 36 W36:=dH Tryz.func36 W36
def aWq:{x // xT Tryz.prog gv true Tryz.f241=some x}:=⟨_,dD⟩
theorem bIz:gX Tryz.prog gv true 241 aWq.1:=dT Tryz.func241 (by kernel_rfl) aWq.2
def aXr:CW Tryz.f285:=⟨_,dD⟩
theorem bKa:Fi 285 aXr:=dH Tryz.func285 aXr
def aVg:CW Tryz.f183:=⟨_,dD⟩
theorem bHo:Fi 183 aVg:=dH Tryz.func183 aVg
def W94:CW Tryz.f94:=⟨_,dD⟩
theorem bRo:Fi 94 W94:=dH Tryz.func94 W94
def W93:CW Tryz.f93:=⟨_,dD⟩
theorem bRn:Fi 93 W93:=dH Tryz.func93 W93
def aVe:CW Tryz.f181:=⟨_,dD⟩
theorem bHm:Fi 181 aVe:=dH Tryz.func181 aVe
def W31:CW Tryz.f31:=⟨_,dD⟩
theorem bQo:Fi 31 W31:=dH Tryz.func31 W31
end Go.Proofs.YtogfcjbgeebfkaaGreatDoor
