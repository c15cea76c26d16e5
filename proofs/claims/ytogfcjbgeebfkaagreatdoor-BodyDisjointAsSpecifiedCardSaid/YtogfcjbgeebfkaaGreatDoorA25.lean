/-
  Part of the proof of statement 7
-/
import Derived.Test.YtogfcjbgeebfkaaGreatDoorA07
set_option maxRecDepth 100000
set_option maxHeartbeats 16000000
set_option linter.unusedVariables false
set_option linter.unusedSimpArgs false
namespace Go.Proofs.YtogfcjbgeebfkaaGreatDoor
open Go Go.Av
def aQl:CW Tryz.f206:=⟨_,dB⟩
theorem bBr:Fi 206 aQl:=dC Tryz.func206 aQl
def aOu:CW Tryz.f122:=⟨_,dB⟩
theorem bAa:Fi 122 aOu:=dC Tryz.func122 aOu
def aPh:CW Tryz.f143:=⟨_,dB⟩
theorem bAn:Fi 143 aPh:=dC Tryz.func143 aPh
def aQm:CW Tryz.f208:=⟨_,dB⟩
theorem bBs:Fi 208 aQm:=dC Tryz.func208 aQm
def aGq:CW Tryz.f207:=⟨_,dB⟩
theorem aNp:Fi 207 aGq:=dC Tryz.func207 aGq
def aOv:CW Tryz.f123:=⟨_,dB⟩
theorem bAb:Fi 123 aOv:=dC Tryz.func123 aOv
def aPe:CW Tryz.f140:=⟨_,KO⟩
theorem bAk:Fi 140 aPe:=dC Tryz.func140 aPe
def aPf:CW Tryz.f141:=⟨_,dB⟩
theorem bAl:Fi 141 aPf:=dC Tryz.func141 aPf
def aPi:CW Tryz.f144:=⟨_,dB⟩
theorem bAo:Fi 144 aPi:=dC Tryz.func144 aPi
def W59:CW Tryz.f59:=⟨_,dB⟩
theorem bKi:Fi 59 W59:=dC Tryz.func59 W59
def aPg:CW Tryz.f142:=⟨_,dB⟩
theorem bAm:Fi 142 aPg:=dC Tryz.func142 aPg
def aQx:CW Tryz.f225:=⟨_,dB⟩
theorem bCd:Fi 225 aQx:=dC Tryz.func225 aQx
def aGj:CW Tryz.f173:=⟨_,dB⟩
theorem aNi:Fi 173 aGj:=dC Tryz.func173 aGj
end Go.Proofs.YtogfcjbgeebfkaaGreatDoor
