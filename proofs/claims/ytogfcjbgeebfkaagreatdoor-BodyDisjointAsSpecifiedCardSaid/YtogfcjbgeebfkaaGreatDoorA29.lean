/-
  Part of the proof of statement 7
-/
import Derived.Test.YtogfcjbgeebfkaaGreatDoorA07
set_option maxRecDepth 100000
set_option maxHeartbeats 16000000
set_option linter.unusedVariables false
set_option linter.unusedSimpArgs false
namespace Go.Proofs.YtogfcjbgeebfkaaGreatDoor
open Go Go.Av
def W55:CW Tryz.f55:=⟨_,dB⟩
theorem bKg:Fi 55 W55:=dC Tryz.func55 W55
def W56:CW Tryz.f56:=⟨_,dB⟩
theorem bKh:Fi 56 W56:=dC Tryz.func56 W56
def aRa:CW Tryz.f233:=⟨_,dB⟩
theorem bCg:Fi 233 aRa:=dC Tryz.func233 aRa
def aQa:CW Tryz.f189:=⟨_,dB⟩
theorem bBg:Fi 189 aQa:=dC Tryz.func189 aQa
def aRk:CW Tryz.f245:=⟨_,dB⟩
theorem bCq:Fi 245 aRk:=dC Tryz.func245 aRk
def aSb:CW Tryz.f269:=⟨_,dB⟩
theorem bDh:Fi 269 aSb:=dC Tryz.func269 aSb
def aPz:CW Tryz.f188:=⟨_,KO⟩
theorem bBf:Fi 188 aPz:=dC Tryz.func188 aPz
def aQq:CW Tryz.f215:=⟨_,dB⟩
theorem bBw:Fi 215 aQq:=dC Tryz.func215 aQq
def W99:CW Tryz.f99:=⟨_,dB⟩
theorem bKx:Fi 99 W99:=dC Tryz.func99 W99
def aSf:CW Tryz.f279:=⟨_,dB⟩
theorem bDl:Fi 279 aSf:=dC Tryz.func279 aSf
end Go.Proofs.YtogfcjbgeebfkaaGreatDoor
