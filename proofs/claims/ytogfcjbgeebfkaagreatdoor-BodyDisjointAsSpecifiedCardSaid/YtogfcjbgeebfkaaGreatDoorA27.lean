/-
  Part of the proof of statement 7
-/
import Derived.Test.YtogfcjbgeebfkaaGreatDoorA07
set_option maxRecDepth 100000
set_option maxHeartbeats 16000000
set_option linter.unusedVariables false
set_option linter.unusedSimpArgs false
namespace Go.Proofs.YtogfcjbgeebfkaaGreatDoor
open Go Go.Av
def W60:CW Tryz.f60:=⟨_,dB⟩
theorem bKj:Fi 60 W60:=dC Tryz.func60 W60
def aQu:CW Tryz.f219:=⟨_,dB⟩
theorem bCa:Fi 219 aQu:=dC Tryz.func219 aQu
def aPp:CW Tryz.f163:=⟨_,dB⟩
theorem bAv:Fi 163 aPp:=dC Tryz.func163 aPp
def aSd:CW Tryz.f270:=⟨_,dB⟩
theorem bDj:Fi 270 aSd:=dC Tryz.func270 aSd
def aQs:CW Tryz.f217:=⟨_,dB⟩
theorem bBy:Fi 217 aQs:=dC Tryz.func217 aQs
def aPo:CW Tryz.f162:=⟨_,dB⟩
theorem bAu:Fi 162 aPo:=dC Tryz.func162 aPo
def aPm:CW Tryz.f159:=⟨_,dB⟩
theorem bAs:Fi 159 aPm:=dC Tryz.func159 aPm
def aQt:CW Tryz.f218:=⟨_,dB⟩
theorem bBz:Fi 218 aQt:=dC Tryz.func218 aQt
def aQw:CW Tryz.f221:=⟨_,dB⟩
theorem bCc:Fi 221 aQw:=dC Tryz.func221 aQw
def aPn:CW Tryz.f160:=⟨_,dB⟩
theorem bAt:Fi 160 aPn:=dC Tryz.func160 aPn
end Go.Proofs.YtogfcjbgeebfkaaGreatDoor
