/-
  Part of the proof of statement 9
-/
import Derived.Test.YtogfcjbgeebfkaaGreatDoorA07
set_option linter.unusedSimpArgs false
set_option maxRecDepth 100000
set_option maxHeartbeats 16000000
set_option linter.unusedVariables false
namespace Go.Proofs.YtogfcjbgeebfkaaGreatDoor
open Go Go.Av
def W55:CW Tryz.f55:=⟨_,dI⟩
theorem bQq:Fi 55 W55:=dK Tryz.func55 W55
def W56:CW Tryz.f56:=⟨_,dI⟩
theorem bQr:Fi 56 W56:=dK Tryz.func56 W56
def aWs:CW Tryz.f233:=⟨_,dI⟩
theorem bIx:Fi 233 aWs:=dK Tryz.func233 aWs
def aVw:CW Tryz.f189:=⟨_,dI⟩
theorem bIa:Fi 189 aVw:=dK Tryz.func189 aVw
def aXc:CW Tryz.f245:=⟨_,dI⟩
theorem bJh:Fi 245 aXc:=dK Tryz.func245 aXc
def aXq:CW Tryz.f269:=⟨_,dI⟩
theorem bJv:Fi 269 aXq:=dK Tryz.func269 aXq
def aVv:CW Tryz.f188:=⟨_,Mh⟩
theorem bHz:Fi 188 aVv:=dK Tryz.func188 aVv
def aWj:CW Tryz.f215:=⟨_,dI⟩
theorem bIo:Fi 215 aWj:=dK Tryz.func215 aWj
def W99:CW Tryz.f99:=⟨_,dI⟩
theorem bRd:Fi 99 W99:=dK Tryz.func99 W99
def aXu:CW Tryz.f279:=⟨_,dI⟩
theorem bJz:Fi 279 aXu:=dK Tryz.func279 aXu
end Go.Proofs.YtogfcjbgeebfkaaGreatDoor
