/-
  Part of the proof of statement 13
-/
import Derived.Test.YtogfcjbgeebfkaaGreatDoorB07
set_option linter.unusedSimpArgs false
set_option maxRecDepth 100000
set_option maxHeartbeats 16000000
set_option linter.unusedVariables false
namespace Go.Proofs.YtogfcjbgeebfkaaGreatDoor
open Go Go.Av
def W51:CW Tryz.f51:=⟨_,dD⟩
theorem bQx:Fi 51 W51:=dH Tryz.func51 W51
def aKn:CW Tryz.f129:=⟨_,dD⟩
theorem aRz:Fi 129 aKn:=dH Tryz.func129 aKn
def aVx:CW Tryz.f212:=⟨_,dD⟩
theorem bIg:Fi 212 aVx:=dH Tryz.func212 aVx
def aUj:CW Tryz.f133:=⟨_,dD⟩
theorem bGr:Fi 133 aUj:=dH Tryz.func133 aUj
def aUk:CW Tryz.f134:=⟨_,dD⟩
theorem bGs:Fi 134 aUk:=dH Tryz.func134 aUk
def aUl:CW Tryz.f135:=⟨_,dD⟩
theorem bGt:Fi 135 aUl:=dH Tryz.func135 aUl
def W57:CW Tryz.f57:=⟨_,dD⟩
theorem bKx:Fi 57 W57:=dH Tryz.func57 W57
def aUm:CW Tryz.f136:=⟨_,dD⟩
theorem bGu:Fi 136 aUm:=dH Tryz.func136 aUm
def aUn:CW Tryz.f137:=⟨_,dD⟩
theorem bGv:Fi 137 aUn:=dH Tryz.func137 aUn
def aVb:CW Tryz.f165:=⟨_,dD⟩
theorem bHj:Fi 165 aVb:=dH Tryz.func165 aVb
end Go.Proofs.YtogfcjbgeebfkaaGreatDoor
