/-
  Part of the proof of statement 9
-/
import Derived.Test.YtogfcjbgeebfkaaGreatDoorA07
set_option linter.unusedSimpArgs false
set_option maxRecDepth 100000
set_option maxHeartbeats 16000000
set_option linter.unusedVariables false
namespace Go.Proofs.YtogfcjbgeebfkaaGreatDoor
open Go Go.Av
def aCz:CW Tryz.f196:=⟨_,dI⟩
theorem aGh:Fi 196 aCz:=dK Tryz.func196 aCz
def aLf:CW Tryz.f147:=⟨_,dI⟩
theorem aSp:Fi 147 aLf:=dK Tryz.func147 aLf
def aUi:CW Tryz.f107:=⟨_,dI⟩
theorem bGj:Fi 107 aUi:=dK Tryz.func107 aUi
def aLg:CW Tryz.f148:=⟨_,Mh⟩
theorem aSq:Fi 148 aLg:=dK Tryz.func148 aLg
def W64:CW Tryz.f64:=⟨_,dI⟩
theorem bKx:Fi 64 W64:=dK Tryz.func64 W64
def W40:CW Tryz.f40:=⟨_,dI⟩
theorem bKn:Fi 40 W40:=dK Tryz.func40 W40
def W58:CW Tryz.f58:=⟨_,dI⟩
theorem bKu:Fi 58 W58:=dK Tryz.func58 W58
def W13:CW Tryz.f13:=⟨_,dI⟩
theorem bGu:Fi 13 W13:=dK Tryz.func13 W13
def W74:CW Tryz.f74:=⟨_,dI⟩
theorem bLb:Fi 74 W74:=dK Tryz.func74 W74
def aMc:CW Tryz.f294:=⟨_,dI⟩
theorem aTm:Fi 294 aMc:=dK Tryz.func294 aMc
def W62:CW Tryz.f62:=⟨_,dI⟩
theorem bKv:Fi 62 W62:=dK Tryz.func62 W62
def aLs:CW Tryz.f203:=⟨_,dI⟩
theorem aTc:Fi 203 aLs:=dK Tryz.func203 aLs
def W52:CW Tryz.f52:=⟨_,dI⟩
theorem bQn:Fi 52 W52:=dK Tryz.func52 W52
def aLx:CW Tryz.f259:=⟨_,dI⟩
theorem aTh:Fi 259 aLx:=dK Tryz.func259 aLx
def aLq:CW Tryz.f201:=⟨_,dI⟩
theorem aTa:Fi 201 aLq:=dK Tryz.func201 aLq
def W80:CW Tryz.f80:=⟨_,dI⟩
theorem bLd:Fi 80 W80:=dK Tryz.func80 W80
def W22:CW Tryz.f22:=⟨_,dI⟩
theorem bQc:Fi 22 W22:=dK Tryz.func22 W22
def W20:CW Tryz.f20:=⟨_,dI⟩
theorem bIg:Fi 20 W20:=dK Tryz.func20 W20
def aUj:CW Tryz.f108:=⟨_,dI⟩
theorem bGk:Fi 108 aUj:=dK Tryz.func108 aUj
def aLe:CW Tryz.f139:=⟨_,dI⟩
theorem aSo:Fi 139 aLe:=dK Tryz.func139 aLe
def W81:CW Tryz.f81:=⟨_,Mh⟩
theorem bLe:Fi 81 W81:=dK Tryz.func81 W81
def aLi:CW Tryz.f164:=⟨_,Mh⟩
theorem aSs:Fi 164 aLi:=dK Tryz.func164 aLi
def aLa:CW Tryz.f116:=⟨_,dI⟩
theorem aSk:Fi 116 aLa:=dK Tryz.func116 aLa
def W66:CW Tryz.f66:=⟨_,dI⟩
theorem bKz:Fi 66 W66:=dK Tryz.func66 W66
def aUk:CW Tryz.f109:=⟨_,dI⟩
theorem bGl:Fi 109 aUk:=dK Tryz.func109 aUk
def aLh:CW Tryz.f157:=⟨_,dI⟩
theorem aSr:Fi 157 aLh:=dK Tryz.func157 aLh
def aLy:CW Tryz.f260:=⟨_,dI⟩
theorem aTi:Fi 260 aLy:=dK Tryz.func260 aLy
def W37:CW Tryz.f37:=⟨_,dI⟩
theorem bKm:Fi 37 W37:=dK Tryz.func37 W37
def W65:CW Tryz.f65:=⟨_,dI⟩
theorem bKy:Fi 65 W65:=dK Tryz.func65 W65
def aLp:CW Tryz.f200:=⟨_,dI⟩
theorem aSz:Fi 200 aLp:=dK Tryz.func200 aLp
def aKz:CW Tryz.f115:=⟨_,dI⟩
theorem aSj:Fi 115 aKz:=dK Tryz.func115 aKz
def aLr:CW Tryz.f202:=⟨_,dI⟩
theorem aTb:Fi 202 aLr:=dK Tryz.func202 aLr
def W10:CW Tryz.f10:=⟨_,Mh⟩
theorem bQa:Fi 10 W10:=dK Tryz.func10 W10
end Go.Proofs.YtogfcjbgeebfkaaGreatDoor
