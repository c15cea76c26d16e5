/-
  Part of the proof of statement 7
-/
import Derived.Test.YtogfcjbgeebfkaaGreatDoorA07
set_option maxRecDepth 100000
set_option maxHeartbeats 16000000
set_option linter.unusedVariables false
set_option linter.unusedSimpArgs false
namespace Go.Proofs.YtogfcjbgeebfkaaGreatDoor
open Go Go.Av
def W75:CW Tryz.f75:=⟨_,dB⟩
theorem bKo:Fi 75 W75:=dC Tryz.func75 W75
def aPx:CW Tryz.f186:=⟨_,dB⟩
theorem bBd:Fi 186 aPx:=dC Tryz.func186 aPx
def W97:CW Tryz.f97:=⟨_,dB⟩
theorem bKv:Fi 97 W97:=dC Tryz.func97 W97
def W98:CW Tryz.f98:=⟨_,KO⟩
theorem bKw:Fi 98 W98:=dC Tryz.func98 W98
def W32:CW Tryz.f32:=⟨_,dB⟩
theorem bJu:Fi 32 W32:=dC Tryz.func32 W32
end Go.Proofs.YtogfcjbgeebfkaaGreatDoor
