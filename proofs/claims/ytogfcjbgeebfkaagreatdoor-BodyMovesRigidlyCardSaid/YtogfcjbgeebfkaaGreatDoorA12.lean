/-
  Part of the proof of statement 9
-/
import Derived.Test.YtogfcjbgeebfkaaGreatDoorA07
set_option linter.unusedSimpArgs false
set_option maxRecDepth 100000
set_option maxHeartbeats 16000000
set_option linter.unusedVariables false
namespace Go.Proofs.YtogfcjbgeebfkaaGreatDoor
open Go Go.Av
def aLu:CW Tryz.f243:=⟨_,dI⟩
theorem aTe:Fi 243 aLu:=dK Tryz.func243 aLu
def aLv:CW Tryz.f244:=⟨_,dI⟩
theorem aTf:Fi 244 aLv:=dK Tryz.func244 aLv
def aXb:CW Tryz.f242:=⟨_,Mh⟩
theorem bJg:Fi 242 aXb:=dK Tryz.func242 aXb
def aLm:CW Tryz.f185:=⟨_,dI⟩
theorem aSw:Fi 185 aLm:=dK Tryz.func185 aLm
def aVs:CW Tryz.f184:=⟨_,dI⟩
theorem bHw:Fi 184 aVs:=dK Tryz.func184 aVs
def aUu:CW Tryz.f131:=⟨_,dI⟩
theorem bGw:Fi 131 aUu:=dK Tryz.func131 aUu
def W54:CW Tryz.f54:=⟨_,dI⟩
theorem bQp:Fi 54 W54:=dK Tryz.func54 W54
def aUv:CW Tryz.f132:=⟨_,dI⟩
theorem bGx:Fi 132 aUv:=dK Tryz.func132 aUv
def W73:CW Tryz.f73:=⟨_,dI⟩
theorem bLa:Fi 73 W73:=dK Tryz.func73 W73
def aXw:CW Tryz.f281:=⟨_,dI⟩
theorem bKb:Fi 281 aXw:=dK Tryz.func281 aXw
def aLt:CW Tryz.f214:=⟨_,dI⟩
theorem aTd:Fi 214 aLt:=dK Tryz.func214 aLt
def aYa:CW Tryz.f286:=⟨_,dI⟩
theorem bKf:Fi 286 aYa:=dK Tryz.func286 aYa
def aXd:CW Tryz.f246:=⟨_,Mh⟩
theorem bJi:Fi 246 aXd:=dK Tryz.func246 aXd
def aXe:CW Tryz.f247:=⟨_,dI⟩
theorem bJj:Fi 247 aXe:=dK Tryz.func247 aXe
def aYb:CW Tryz.f289:=⟨_,dI⟩
theorem bKg:Fi 289 aYb:=dK Tryz.func289 aYb
def aXh:CW Tryz.f251:=⟨_,dI⟩
theorem bJm:Fi 251 aXh:=dK Tryz.func251 aXh
def aXg:CW Tryz.f250:=⟨_,dI⟩
theorem bJl:Fi 250 aXg:=dK Tryz.func250 aXg
def aXf:CW Tryz.f249:=⟨_,Mh⟩
theorem bJk:Fi 249 aXf:=dK Tryz.func249 aXf
def aXy:CW Tryz.f283:=⟨_,dI⟩
theorem bKd:Fi 283 aXy:=dK Tryz.func283 aXy
def aWz:CW Tryz.f240:=⟨_,dI⟩
theorem bJe:Fi 240 aWz:=dK Tryz.func240 aWz
def aXx:CW Tryz.f282:=⟨_,Mh⟩
theorem bKc:Fi 282 aXx:=dK Tryz.func282 aXx
end Go.Proofs.YtogfcjbgeebfkaaGreatDoor
