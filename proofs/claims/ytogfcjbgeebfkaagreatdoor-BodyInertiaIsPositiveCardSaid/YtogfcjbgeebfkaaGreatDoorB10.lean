/-
  Part of the proof of statement 13
-/
import Derived.Test.YtogfcjbgeebfkaaGreatDoorB07
set_option linter.unusedSimpArgs false
set_option maxRecDepth 100000
set_option maxHeartbeats 16000000
set_option linter.unusedVariables false
namespace Go.Proofs.YtogfcjbgeebfkaaGreatDoor
open Go Go.Av
def aXh:CW Tryz.f268:=⟨_,dD⟩
theorem bJq:Fi 268 aXh:=dH Tryz.func268 aXh
def aVy:CW Tryz.f213:=⟨_,dD⟩
theorem bIh:Fi 213 aVy:=dH Tryz.func213 aVy
def aUw:CW Tryz.f158:=⟨_,dD⟩
theorem bHe:Fi 158 aUw:=dH Tryz.func158 aUw
def aVq:CW Tryz.f199:=⟨_,dD⟩
theorem bHy:Fi 199 aVq:=dH Tryz.func199 aVq
def aTw:CW Tryz.f110:=⟨_,dD⟩
theorem bGd:Fi 110 aTw:=dH Tryz.func110 aTw
def aVo:CW Tryz.f197:=⟨_,dD⟩
theorem bHw:Fi 197 aVo:=dH Tryz.func197 aVo
def aXl:CW Tryz.f271:=⟨_,dD⟩
theorem bJu:Fi 271 aXl:=dH Tryz.func271 aXl
def aWe:CW Tryz.f220:=⟨_,dD⟩
theorem bIn:Fi 220 aWe:=dH Tryz.func220 aWe
def aUu:CW Tryz.f156:=⟨_,dD⟩
theorem bHc:Fi 156 aUu:=dH Tryz.func156 aUu
def W95:CW Tryz.f95:=⟨_,dD⟩
theorem bRp:Fi 95 W95:=dH Tryz.func95 W95
def aTz:CW Tryz.f114:=⟨_,Mx⟩
theorem bGg:Fi 114 aTz:=dH Tryz.func114 aTz
end Go.Proofs.YtogfcjbgeebfkaaGreatDoor
