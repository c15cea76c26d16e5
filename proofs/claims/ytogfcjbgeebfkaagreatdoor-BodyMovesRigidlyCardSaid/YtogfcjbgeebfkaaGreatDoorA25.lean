/-
  Part of the proof of statement 9
-/
import Derived.Test.YtogfcjbgeebfkaaGreatDoorA07
set_option linter.unusedSimpArgs false
set_option maxRecDepth 100000
set_option maxHeartbeats 16000000
set_option linter.unusedVariables false
namespace Go.Proofs.YtogfcjbgeebfkaaGreatDoor
open Go Go.Av
def aWd:CW Tryz.f206:=⟨_,dI⟩
theorem bIi:Fi 206 aWd:=dK Tryz.func206 aWd
def aUr:CW Tryz.f122:=⟨_,dI⟩
theorem bGs:Fi 122 aUr:=dK Tryz.func122 aUr
def aVe:CW Tryz.f143:=⟨_,dI⟩
theorem bHg:Fi 143 aVe:=dK Tryz.func143 aVe
def aWf:CW Tryz.f208:=⟨_,dI⟩
theorem bIk:Fi 208 aWf:=dK Tryz.func208 aWf
def aWe:CW Tryz.f207:=⟨_,dI⟩
theorem bIj:Fi 207 aWe:=dK Tryz.func207 aWe
def aUs:CW Tryz.f123:=⟨_,dI⟩
theorem bGt:Fi 123 aUs:=dK Tryz.func123 aUs
def aVb:CW Tryz.f140:=⟨_,Mh⟩
theorem bHd:Fi 140 aVb:=dK Tryz.func140 aVb
def aVc:CW Tryz.f141:=⟨_,dI⟩
theorem bHe:Fi 141 aVc:=dK Tryz.func141 aVc
def aVf:CW Tryz.f144:=⟨_,dI⟩
theorem bHh:Fi 144 aVf:=dK Tryz.func144 aVf
def W59:CW Tryz.f59:=⟨_,dI⟩
theorem bQs:Fi 59 W59:=dK Tryz.func59 W59
def aVd:CW Tryz.f142:=⟨_,dI⟩
theorem bHf:Fi 142 aVd:=dK Tryz.func142 aVd
def aWq:CW Tryz.f225:=⟨_,dI⟩
theorem bIv:Fi 225 aWq:=dK Tryz.func225 aWq
def aVo:CW Tryz.f173:=⟨_,dI⟩
theorem bHs:Fi 173 aVo:=dK Tryz.func173 aVo
end Go.Proofs.YtogfcjbgeebfkaaGreatDoor
