/-
  Part of the proof of statement 13
-/
import Derived.Test.YtogfcjbgeebfkaaGreatDoorB07
set_option linter.unusedSimpArgs false
set_option maxRecDepth 100000
set_option maxHeartbeats 16000000
set_option linter.unusedVariables false
namespace Go.Proofs.YtogfcjbgeebfkaaGreatDoor
open Go Go.Av
def aCi:CW Tryz.f196:=⟨_,dD⟩
theorem aFp:Fi 196 aCi:=dH Tryz.func196 aCi
def aKq:CW Tryz.f147:=⟨_,dD⟩
theorem aSc:Fi 147 aKq:=dH Tryz.func147 aKq
def aTt:CW Tryz.f107:=⟨_,dD⟩
theorem bGa:Fi 107 aTt:=dH Tryz.func107 aTt
def aUt:CW Tryz.f148:=⟨_,Mx⟩
theorem bHb:Fi 148 aUt:=dH Tryz.func148 aUt
def W64:CW Tryz.f64:=⟨_,dD⟩
theorem bKz:Fi 64 W64:=dH Tryz.func64 W64
def W40:CW Tryz.f40:=⟨_,dD⟩
theorem bKs:Fi 40 W40:=dH Tryz.func40 W40
def W58:CW Tryz.f58:=⟨_,dD⟩
theorem bKy:Fi 58 W58:=dH Tryz.func58 W58
def W13:CW Tryz.f13:=⟨_,dD⟩
theorem bGn:Fi 13 W13:=dH Tryz.func13 W13
def W74:CW Tryz.f74:=⟨_,dD⟩
theorem bRj:Fi 74 W74:=dH Tryz.func74 W74
def aLl:CW Tryz.f294:=⟨_,dD⟩
theorem aSx:Fi 294 aLl:=dH Tryz.func294 aLl
def W62:CW Tryz.f62:=⟨_,dD⟩
theorem bRf:Fi 62 W62:=dH Tryz.func62 W62
def aLb:CW Tryz.f203:=⟨_,dD⟩
theorem aSn:Fi 203 aLb:=dH Tryz.func203 aLb
def W52:CW Tryz.f52:=⟨_,dD⟩
theorem bQy:Fi 52 W52:=dH Tryz.func52 W52
def aLg:CW Tryz.f259:=⟨_,dD⟩
theorem aSs:Fi 259 aLg:=dH Tryz.func259 aLg
def aKz:CW Tryz.f201:=⟨_,dD⟩
theorem aSl:Fi 201 aKz:=dH Tryz.func201 aKz
def W80:CW Tryz.f80:=⟨_,dD⟩
theorem bLd:Fi 80 W80:=dH Tryz.func80 W80
def W22:CW Tryz.f22:=⟨_,dD⟩
theorem bQn:Fi 22 W22:=dH Tryz.func22 W22
def W20:CW Tryz.f20:=⟨_,dD⟩
theorem bHz:Fi 20 W20:=dH Tryz.func20 W20
def aTu:CW Tryz.f108:=⟨_,dD⟩
theorem bGb:Fi 108 aTu:=dH Tryz.func108 aTu
def aKp:CW Tryz.f139:=⟨_,dD⟩
theorem aSb:Fi 139 aKp:=dH Tryz.func139 aKp
def W81:CW Tryz.f81:=⟨_,Mx⟩
theorem bLe:Fi 81 W81:=dH Tryz.func81 W81
def aKr:CW Tryz.f164:=⟨_,Mx⟩
theorem aSd:Fi 164 aKr:=dH Tryz.func164 aKr
def aKl:CW Tryz.f116:=⟨_,dD⟩
theorem aRx:Fi 116 aKl:=dH Tryz.func116 aKl
def W66:CW Tryz.f66:=⟨_,dD⟩
theorem bLa:Fi 66 W66:=dH Tryz.func66 W66
def aTv:CW Tryz.f109:=⟨_,dD⟩
theorem bGc:Fi 109 aTv:=dH Tryz.func109 aTv
def aUv:CW Tryz.f157:=⟨_,dD⟩
theorem bHd:Fi 157 aUv:=dH Tryz.func157 aUv
def aLh:CW Tryz.f260:=⟨_,dD⟩
theorem aSt:Fi 260 aLh:=dH Tryz.func260 aLh
def W37:CW Tryz.f37:=⟨_,dD⟩
theorem bQs:Fi 37 W37:=dH Tryz.func37 W37
def W65:CW Tryz.f65:=⟨_,dD⟩
theorem bRh:Fi 65 W65:=dH Tryz.func65 W65
def aKy:CW Tryz.f200:=⟨_,dD⟩
theorem aSk:Fi 200 aKy:=dH Tryz.func200 aKy
def aKk:CW Tryz.f115:=⟨_,dD⟩
theorem aRw:Fi 115 aKk:=dH Tryz.func115 aKk
def aLa:CW Tryz.f202:=⟨_,dD⟩
theorem aSm:Fi 202 aLa:=dH Tryz.func202 aLa
def W10:CW Tryz.f10:=⟨_,Mx⟩
theorem bQk:Fi 10 W10:=dH Tryz.func10 W10
end Go.Proofs.YtogfcjbgeebfkaaGreatDoor
