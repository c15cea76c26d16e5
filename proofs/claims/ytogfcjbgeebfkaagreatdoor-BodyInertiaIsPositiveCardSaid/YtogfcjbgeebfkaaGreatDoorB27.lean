/-
  Part of the proof of statement 13
-/
import Derived.Test.YtogfcjbgeebfkaaGreatDoorB07
set_option linter.unusedSimpArgs false
set_option maxRecDepth 100000
set_option maxHeartbeats 16000000
set_option linter.unusedVariables false
namespace Go.Proofs.YtogfcjbgeebfkaaGreatDoor
open Go Go.Av
def W60:CW Tryz.f60:=⟨_,dD⟩
theorem bRe:Fi 60 W60:=dH Tryz.func60 W60
def aWd:CW Tryz.f219:=⟨_,dD⟩
theorem bIm:Fi 219 aWd:=dH Tryz.func219 aWd
def aVa:CW Tryz.f163:=⟨_,dD⟩
theorem bHi:Fi 163 aVa:=dH Tryz.func163 aVa
def aXk:CW Tryz.f270:=⟨_,dD⟩
theorem bJt:Fi 270 aXk:=dH Tryz.func270 aXk
def aWb:CW Tryz.f217:=⟨_,dD⟩
theorem bIk:Fi 217 aWb:=dH Tryz.func217 aWb
def aUz:CW Tryz.f162:=⟨_,dD⟩
theorem bHh:Fi 162 aUz:=dH Tryz.func162 aUz
def aUx:CW Tryz.f159:=⟨_,dD⟩
theorem bHf:Fi 159 aUx:=dH Tryz.func159 aUx
def aWc:CW Tryz.f218:=⟨_,dD⟩
theorem bIl:Fi 218 aWc:=dH Tryz.func218 aWc
def aWf:CW Tryz.f221:=⟨_,dD⟩
theorem bIo:Fi 221 aWf:=dH Tryz.func221 aWf
def aUy:CW Tryz.f160:=⟨_,dD⟩
theorem bHg:Fi 160 aUy:=dH Tryz.func160 aUy
end Go.Proofs.YtogfcjbgeebfkaaGreatDoor
