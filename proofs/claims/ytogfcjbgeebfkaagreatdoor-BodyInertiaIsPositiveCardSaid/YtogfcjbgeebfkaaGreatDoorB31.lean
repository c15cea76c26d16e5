/-
  Part of the proof of statement 13
-/
import Derived.Test.YtogfcjbgeebfkaaGreatDoorB07
set_option linter.unusedSimpArgs false
set_option maxRecDepth 100000
set_option maxHeartbeats 16000000
set_option linter.unusedVariables false
namespace Go.Proofs.YtogfcjbgeebfkaaGreatDoor
open Go Go.Av
def aWk:CW Tryz.f235:=⟨_,dD⟩
theorem bIt:Fi 235 aWk:=dH Tryz.func235 aWk
def aWa:CW Tryz.f216:=⟨_,dD⟩
theorem bIj:Fi 216 aWa:=dH Tryz.func216 aWa
def aWj:CW Tryz.f234:=⟨_,dD⟩
theorem bIs:Fi 234 aWj:=dH Tryz.func234 aWj
def aWm:CW Tryz.f237:=⟨_,dD⟩
theorem bIv:Fi 237 aWm:=dH Tryz.func237 aWm
def aWl:CW Tryz.f236:=⟨_,dD⟩
theorem bIu:Fi 236 aWl:=dH Tryz.func236 aWl
def aWn:CW Tryz.f238:=⟨_,dD⟩
theorem bIw:Fi 238 aWn:=dH Tryz.func238 aWn
def aYh:CW Tryz.f336:=⟨_,dD⟩
theorem bKr:Fi 336 aYh:=dH Tryz.func336 aYh
def aYe:CW Tryz.f311:=⟨_,dD⟩
theorem bKo:Fi 311 aYe:=dH Tryz.func311 aYe
def aXn:CW Tryz.f280:=⟨_,Mx⟩
theorem bJw:Fi 280 aXn:=dH Tryz.func280 aXn
def aWo:CW Tryz.f239:=⟨_,Mx⟩
theorem bIx:Fi 239 aWo:=dH Tryz.func239 aWo
end Go.Proofs.YtogfcjbgeebfkaaGreatDoor
