/-
  Part of the proof of statement 9
-/
import Derived.Test.YtogfcjbgeebfkaaGreatDoorA07
set_option linter.unusedSimpArgs false
set_option maxRecDepth 100000
set_option maxHeartbeats 16000000
set_option linter.unusedVariables false
namespace Go.Proofs.YtogfcjbgeebfkaaGreatDoor
open Go Go.Av
def aWu:CW Tryz.f235:=⟨_,dI⟩
theorem bIz:Fi 235 aWu:=dK Tryz.func235 aWu
def aWk:CW Tryz.f216:=⟨_,dI⟩
theorem bIp:Fi 216 aWk:=dK Tryz.func216 aWk
def aWt:CW Tryz.f234:=⟨_,dI⟩
theorem bIy:Fi 234 aWt:=dK Tryz.func234 aWt
def aWw:CW Tryz.f237:=⟨_,dI⟩
theorem bJb:Fi 237 aWw:=dK Tryz.func237 aWw
def aWv:CW Tryz.f236:=⟨_,dI⟩
theorem bJa:Fi 236 aWv:=dK Tryz.func236 aWv
def aWx:CW Tryz.f238:=⟨_,dI⟩
theorem bJc:Fi 238 aWx:=dK Tryz.func238 aWx
def aYf:CW Tryz.f336:=⟨_,dI⟩
theorem bKl:Fi 336 aYf:=dK Tryz.func336 aYf
def aYe:CW Tryz.f311:=⟨_,dI⟩
theorem bKk:Fi 311 aYe:=dK Tryz.func311 aYe
def aXv:CW Tryz.f280:=⟨_,Mh⟩
theorem bKa:Fi 280 aXv:=dK Tryz.func280 aXv
def aWy:CW Tryz.f239:=⟨_,Mh⟩
theorem bJd:Fi 239 aWy:=dK Tryz.func239 aWy
end Go.Proofs.YtogfcjbgeebfkaaGreatDoor
