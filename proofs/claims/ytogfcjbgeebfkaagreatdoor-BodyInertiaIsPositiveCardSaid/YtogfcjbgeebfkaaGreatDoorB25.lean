/-
  Part of the proof of statement 13
-/
import Derived.Test.YtogfcjbgeebfkaaGreatDoorB07
set_option linter.unusedSimpArgs false
set_option maxRecDepth 100000
set_option maxHeartbeats 16000000
set_option linter.unusedVariables false
namespace Go.Proofs.YtogfcjbgeebfkaaGreatDoor
open Go Go.Av
def aVt:CW Tryz.f206:=⟨_,dD⟩
theorem bIc:Fi 206 aVt:=dH Tryz.func206 aVt
def aUe:CW Tryz.f122:=⟨_,dD⟩
theorem bGl:Fi 122 aUe:=dH Tryz.func122 aUe
def aUr:CW Tryz.f143:=⟨_,dD⟩
theorem bGz:Fi 143 aUr:=dH Tryz.func143 aUr
def aVv:CW Tryz.f208:=⟨_,dD⟩
theorem bIe:Fi 208 aVv:=dH Tryz.func208 aVv
def aVu:CW Tryz.f207:=⟨_,dD⟩
theorem bId:Fi 207 aVu:=dH Tryz.func207 aVu
def aUf:CW Tryz.f123:=⟨_,dD⟩
theorem bGm:Fi 123 aUf:=dH Tryz.func123 aUf
def aUo:CW Tryz.f140:=⟨_,Mx⟩
theorem bGw:Fi 140 aUo:=dH Tryz.func140 aUo
def aUp:CW Tryz.f141:=⟨_,dD⟩
theorem bGx:Fi 141 aUp:=dH Tryz.func141 aUp
def aUs:CW Tryz.f144:=⟨_,dD⟩
theorem bHa:Fi 144 aUs:=dH Tryz.func144 aUs
def W59:CW Tryz.f59:=⟨_,dD⟩
theorem bRd:Fi 59 W59:=dH Tryz.func59 W59
def aUq:CW Tryz.f142:=⟨_,dD⟩
theorem bGy:Fi 142 aUq:=dH Tryz.func142 aUq
def aWg:CW Tryz.f225:=⟨_,dD⟩
theorem bIp:Fi 225 aWg:=dH Tryz.func225 aWg
def aVd:CW Tryz.f173:=⟨_,dD⟩
theorem bHl:Fi 173 aVd:=dH Tryz.func173 aVd
end Go.Proofs.YtogfcjbgeebfkaaGreatDoor
