/-
  Part of the proof of statement 13
-/
import Derived.Test.YtogfcjbgeebfkaaGreatDoorB07
set_option linter.unusedSimpArgs false
set_option maxRecDepth 100000
set_option maxHeartbeats 16000000
set_option linter.unusedVariables false
namespace Go.Proofs.YtogfcjbgeebfkaaGreatDoor
open Go Go.Av
def aLd:CW Tryz.f243:=⟨_,dD⟩
theorem aSp:Fi 243 aLd:=dH Tryz.func243 aLd
def aLe:CW Tryz.f244:=⟨_,dD⟩
theorem aSq:Fi 244 aLe:=dH Tryz.func244 aLe
def aWr:CW Tryz.f242:=⟨_,Mx⟩
theorem bJa:Fi 242 aWr:=dH Tryz.func242 aWr
def aKv:CW Tryz.f185:=⟨_,dD⟩
theorem aSh:Fi 185 aKv:=dH Tryz.func185 aKv
def aVh:CW Tryz.f184:=⟨_,dD⟩
theorem bHp:Fi 184 aVh:=dH Tryz.func184 aVh
def aUh:CW Tryz.f131:=⟨_,dD⟩
theorem bGp:Fi 131 aUh:=dH Tryz.func131 aUh
def W54:CW Tryz.f54:=⟨_,dD⟩
theorem bRa:Fi 54 W54:=dH Tryz.func54 W54
def aUi:CW Tryz.f132:=⟨_,dD⟩
theorem bGq:Fi 132 aUi:=dH Tryz.func132 aUi
def W73:CW Tryz.f73:=⟨_,dD⟩
theorem bLb:Fi 73 W73:=dH Tryz.func73 W73
def aXo:CW Tryz.f281:=⟨_,dD⟩
theorem bJx:Fi 281 aXo:=dH Tryz.func281 aXo
def aLc:CW Tryz.f214:=⟨_,dD⟩
theorem aSo:Fi 214 aLc:=dH Tryz.func214 aLc
def aXs:CW Tryz.f286:=⟨_,dD⟩
theorem bKb:Fi 286 aXs:=dH Tryz.func286 aXs
def aWt:CW Tryz.f246:=⟨_,Mx⟩
theorem bJc:Fi 246 aWt:=dH Tryz.func246 aWt
def aWu:CW Tryz.f247:=⟨_,dD⟩
theorem bJd:Fi 247 aWu:=dH Tryz.func247 aWu
def aXt:CW Tryz.f289:=⟨_,dD⟩
theorem bKc:Fi 289 aXt:=dH Tryz.func289 aXt
def aWx:CW Tryz.f251:=⟨_,dD⟩
theorem bJg:Fi 251 aWx:=dH Tryz.func251 aWx
def aWw:CW Tryz.f250:=⟨_,dD⟩
theorem bJf:Fi 250 aWw:=dH Tryz.func250 aWw
def aWv:CW Tryz.f249:=⟨_,Mx⟩
theorem bJe:Fi 249 aWv:=dH Tryz.func249 aWv
def aXq:CW Tryz.f283:=⟨_,dD⟩
theorem bJz:Fi 283 aXq:=dH Tryz.func283 aXq
def aWp:CW Tryz.f240:=⟨_,dD⟩
theorem bIy:Fi 240 aWp:=dH Tryz.func240 aWp
def aXp:CW Tryz.f282:=⟨_,Mx⟩
theorem bJy:Fi 282 aXp:=dH Tryz.func282 aXp
end Go.Proofs.YtogfcjbgeebfkaaGreatDoor
