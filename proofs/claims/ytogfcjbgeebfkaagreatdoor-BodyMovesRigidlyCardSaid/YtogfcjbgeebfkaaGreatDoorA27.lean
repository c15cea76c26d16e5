/-
  Part of the proof of statement 9
-/
import Derived.Test.YtogfcjbgeebfkaaGreatDoorA07
set_option linter.unusedSimpArgs false
set_option maxRecDepth 100000
set_option maxHeartbeats 16000000
set_option linter.unusedVariables false
namespace Go.Proofs.YtogfcjbgeebfkaaGreatDoor
open Go Go.Av
def W60:CW Tryz.f60:=⟨_,dI⟩
theorem bQu:Fi 60 W60:=dK Tryz.func60 W60
def aWn:CW Tryz.f219:=⟨_,dI⟩
theorem bIs:Fi 219 aWn:=dK Tryz.func219 aWn
def aVl:CW Tryz.f163:=⟨_,dI⟩
theorem bHo:Fi 163 aVl:=dK Tryz.func163 aVl
def aXs:CW Tryz.f270:=⟨_,dI⟩
theorem bJx:Fi 270 aXs:=dK Tryz.func270 aXs
def aWl:CW Tryz.f217:=⟨_,dI⟩
theorem bIq:Fi 217 aWl:=dK Tryz.func217 aWl
def aVk:CW Tryz.f162:=⟨_,dI⟩
theorem bHn:Fi 162 aVk:=dK Tryz.func162 aVk
def aVi:CW Tryz.f159:=⟨_,dI⟩
theorem bHl:Fi 159 aVi:=dK Tryz.func159 aVi
def aWm:CW Tryz.f218:=⟨_,dI⟩
theorem bIr:Fi 218 aWm:=dK Tryz.func218 aWm
def aWp:CW Tryz.f221:=⟨_,dI⟩
theorem bIu:Fi 221 aWp:=dK Tryz.func221 aWp
def aVj:CW Tryz.f160:=⟨_,dI⟩
theorem bHm:Fi 160 aVj:=dK Tryz.func160 aVj
end Go.Proofs.YtogfcjbgeebfkaaGreatDoor
