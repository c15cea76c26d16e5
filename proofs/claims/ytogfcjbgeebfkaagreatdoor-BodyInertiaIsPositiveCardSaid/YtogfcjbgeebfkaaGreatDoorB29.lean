/-
  Part of the proof of statement 13
-/
import Derived.Test.YtogfcjbgeebfkaaGreatDoorB07
set_option linter.unusedSimpArgs false
set_option maxRecDepth 100000
set_option maxHeartbeats 16000000
set_option linter.unusedVariables false
namespace Go.Proofs.YtogfcjbgeebfkaaGreatDoor
open Go Go.Av
def W55:CW Tryz.f55:=⟨_,dD⟩
theorem bRb:Fi 55 W55:=dH Tryz.func55 W55
def W56:CW Tryz.f56:=⟨_,dD⟩
theorem bRc:Fi 56 W56:=dH Tryz.func56 W56
def aWi:CW Tryz.f233:=⟨_,dD⟩
theorem bIr:Fi 233 aWi:=dH Tryz.func233 aWi
def aVl:CW Tryz.f189:=⟨_,dD⟩
theorem bHt:Fi 189 aVl:=dH Tryz.func189 aVl
def aWs:CW Tryz.f245:=⟨_,dD⟩
theorem bJb:Fi 245 aWs:=dH Tryz.func245 aWs
def aXi:CW Tryz.f269:=⟨_,dD⟩
theorem bJr:Fi 269 aXi:=dH Tryz.func269 aXi
def aVk:CW Tryz.f188:=⟨_,Mx⟩
theorem bHs:Fi 188 aVk:=dH Tryz.func188 aVk
def aVz:CW Tryz.f215:=⟨_,dD⟩
theorem bIi:Fi 215 aVz:=dH Tryz.func215 aVz
def W99:CW Tryz.f99:=⟨_,dD⟩
theorem bRs:Fi 99 W99:=dH Tryz.func99 W99
def aXm:CW Tryz.f279:=⟨_,dD⟩
theorem bJv:Fi 279 aXm:=dH Tryz.func279 aXm
end Go.Proofs.YtogfcjbgeebfkaaGreatDoor
