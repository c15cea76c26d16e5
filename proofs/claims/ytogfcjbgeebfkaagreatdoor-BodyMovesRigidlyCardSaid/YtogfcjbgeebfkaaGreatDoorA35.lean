/-
  Part of the proof of statement 9
-/
import Derived.Test.YtogfcjbgeebfkaaGreatDoorA07
set_option linter.unusedSimpArgs false
set_option maxRecDepth 100000
set_option maxHeartbeats 16000000
set_option linter.unusedVariables false
namespace Go.Proofs.YtogfcjbgeebfkaaGreatDoor
open Go Go.Av
def aWc:CW Tryz.f205:=⟨_,dI⟩
theorem bIh:Fi 205 aWc:=dK Tryz.func205 aWc
def aUp:CW Tryz.f120:=⟨_,dI⟩
theorem bGq:Fi 120 aUp:=dK Tryz.func120 aUp
def W75:CW Tryz.f75:=⟨_,dI⟩
theorem bQv:Fi 75 W75:=dK Tryz.func75 W75
def aVt:CW Tryz.f186:=⟨_,dI⟩
theorem bHx:Fi 186 aVt:=dK Tryz.func186 aVt
def W97:CW Tryz.f97:=⟨_,dI⟩
theorem bRb:Fi 97 W97:=dK Tryz.func97 W97
def W98:CW Tryz.f98:=⟨_,Mh⟩
theorem bRc:Fi 98 W98:=dK Tryz.func98 W98
def W32:CW Tryz.f32:=⟨_,dI⟩
theorem bQe:Fi 32 W32:=dK Tryz.func32 W32
def aUq:CW Tryz.f121:=⟨_,dI⟩
theorem bGr:Fi 121 aUq:=dK Tryz.func121 aUq
def W47:CW Tryz.f47:=⟨_,dI⟩
theorem bKr:Fi 47 W47:=dK Tryz.func47 W47
def W46:CW Tryz.f46:=⟨_,dI⟩
theorem bKq:Fi 46 W46:=dK Tryz.func46 W46
end Go.Proofs.YtogfcjbgeebfkaaGreatDoor
