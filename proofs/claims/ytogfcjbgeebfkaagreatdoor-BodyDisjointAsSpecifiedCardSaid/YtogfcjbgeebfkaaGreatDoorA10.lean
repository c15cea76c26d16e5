/-
  Part of the proof of statement 7
-/
import Derived.Test.YtogfcjbgeebfkaaGreatDoorA07
set_option maxRecDepth 100000
set_option maxHeartbeats 16000000
set_option linter.unusedVariables false
set_option linter.unusedSimpArgs false
namespace Go.Proofs.YtogfcjbgeebfkaaGreatDoor
open Go Go.Av
def aSa:CW Tryz.f268:=⟨_,dB⟩
theorem bDg:Fi 268 aSa:=dC Tryz.func268 aSa
def aQp:CW Tryz.f213:=⟨_,dB⟩
theorem bBv:Fi 213 aQp:=dC Tryz.func213 aQp
def aPl:CW Tryz.f158:=⟨_,dB⟩
theorem bAr:Fi 158 aPl:=dC Tryz.func158 aPl
def aQg:CW Tryz.f199:=⟨_,dB⟩
theorem bBm:Fi 199 aQg:=dC Tryz.func199 aQg
def aOo:CW Tryz.f110:=⟨_,dB⟩
theorem aZu:Fi 110 aOo:=dC Tryz.func110 aOo
def aQe:CW Tryz.f197:=⟨_,dB⟩
theorem bBk:Fi 197 aQe:=dC Tryz.func197 aQe
def aSe:CW Tryz.f271:=⟨_,dB⟩
theorem bDk:Fi 271 aSe:=dC Tryz.func271 aSe
def aQv:CW Tryz.f220:=⟨_,dB⟩
theorem bCb:Fi 220 aQv:=dC Tryz.func220 aQv
def aPj:CW Tryz.f156:=⟨_,dB⟩
theorem bAp:Fi 156 aPj:=dC Tryz.func156 aPj
def W95:CW Tryz.f95:=⟨_,dB⟩
theorem bKu:Fi 95 W95:=dC Tryz.func95 W95
def aOq:CW Tryz.f114:=⟨_,KO⟩
theorem aZw:Fi 114 aOq:=dC Tryz.func114 aOq
end Go.Proofs.YtogfcjbgeebfkaaGreatDoor
