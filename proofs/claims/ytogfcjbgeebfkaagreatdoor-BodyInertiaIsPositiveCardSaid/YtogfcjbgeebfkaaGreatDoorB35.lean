/-
  Part of the proof of statement 13
-/
import Derived.Test.YtogfcjbgeebfkaaGreatDoorB07
set_option linter.unusedSimpArgs false
set_option maxRecDepth 100000
set_option maxHeartbeats 16000000
set_option linter.unusedVariables false
namespace Go.Proofs.YtogfcjbgeebfkaaGreatDoor
open Go Go.Av
def aVs:CW Tryz.f205:=⟨_,dD⟩
theorem bIb:Fi 205 aVs:=dH Tryz.func205 aVs
def aUc:CW Tryz.f120:=⟨_,dD⟩
theorem bGj:Fi 120 aUc:=dH Tryz.func120 aUc
def W75:CW Tryz.f75:=⟨_,dD⟩
theorem bRk:Fi 75 W75:=dH Tryz.func75 W75
def aVi:CW Tryz.f186:=⟨_,dD⟩
theorem bHq:Fi 186 aVi:=dH Tryz.func186 aVi
def W97:CW Tryz.f97:=⟨_,dD⟩
theorem bRq:Fi 97 W97:=dH Tryz.func97 W97
def W98:CW Tryz.f98:=⟨_,Mx⟩
theorem bRr:Fi 98 W98:=dH Tryz.func98 W98
def W32:CW Tryz.f32:=⟨_,dD⟩
theorem bQp:Fi 32 W32:=dH Tryz.func32 W32
def aUd:CW Tryz.f121:=⟨_,dD⟩
theorem bGk:Fi 121 aUd:=dH Tryz.func121 aUd
def W47:CW Tryz.f47:=⟨_,dD⟩
theorem bKv:Fi 47 W47:=dH Tryz.func47 W47
def W46:CW Tryz.f46:=⟨_,dD⟩
theorem bKu:Fi 46 W46:=dH Tryz.func46 W46
end Go.Proofs.YtogfcjbgeebfkaaGreatDoor
