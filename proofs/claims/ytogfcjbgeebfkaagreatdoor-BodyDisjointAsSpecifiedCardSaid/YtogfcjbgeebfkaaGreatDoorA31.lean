/-
  Part of the proof of statement 7
-/
import Derived.Test.YtogfcjbgeebfkaaGreatDoorA07
set_option maxRecDepth 100000
set_option maxHeartbeats 16000000
set_option linter.unusedVariables false
set_option linter.unusedSimpArgs false
namespace Go.Proofs.YtogfcjbgeebfkaaGreatDoor
open Go Go.Av
def aRc:CW Tryz.f235:=⟨_,dB⟩
theorem bCi:Fi 235 aRc:=dC Tryz.func235 aRc
def aQr:CW Tryz.f216:=⟨_,dB⟩
theorem bBx:Fi 216 aQr:=dC Tryz.func216 aQr
def aRb:CW Tryz.f234:=⟨_,dB⟩
theorem bCh:Fi 234 aRb:=dC Tryz.func234 aRb
def aRe:CW Tryz.f237:=⟨_,dB⟩
theorem bCk:Fi 237 aRe:=dC Tryz.func237 aRe
def aRd:CW Tryz.f236:=⟨_,dB⟩
theorem bCj:Fi 236 aRd:=dC Tryz.func236 aRd
def aRf:CW Tryz.f238:=⟨_,dB⟩
theorem bCl:Fi 238 aRf:=dC Tryz.func238 aRf
def aSr:CW Tryz.f336:=⟨_,dB⟩
theorem bDy:Fi 336 aSr:=dC Tryz.func336 aSr
def aSq:CW Tryz.f311:=⟨_,dB⟩
theorem bDx:Fi 311 aSq:=dC Tryz.func311 aSq
def aSg:CW Tryz.f280:=⟨_,KO⟩
theorem bDm:Fi 280 aSg:=dC Tryz.func280 aSg
def aRg:CW Tryz.f239:=⟨_,KO⟩
theorem bCm:Fi 239 aRg:=dC Tryz.func239 aRg
end Go.Proofs.YtogfcjbgeebfkaaGreatDoor
