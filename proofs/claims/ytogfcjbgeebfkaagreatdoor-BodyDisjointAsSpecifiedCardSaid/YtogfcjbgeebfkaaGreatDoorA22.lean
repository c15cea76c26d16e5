/-
  Part of the proof of statement 7
-/
import Derived.Test.YtogfcjbgeebfkaaGreatDoorA07
set_option maxRecDepth 100000
set_option maxHeartbeats 16000000
set_option linter.unusedVariables false
set_option linter.unusedSimpArgs false
namespace Go.Proofs.YtogfcjbgeebfkaaGreatDoor
open Go Go.Av
def yy:CW Tryz.f196:=⟨_,dB⟩
theorem aBy:Fi 196 yy:=dC Tryz.func196 yy
def yt:CW Tryz.f147:=⟨_,dB⟩
theorem aBx:Fi 147 yt:=dC Tryz.func147 yt
def aGc:CW Tryz.f107:=⟨_,dB⟩
theorem aNb:Fi 107 aGc:=dC Tryz.func107 aGc
def aGi:CW Tryz.f148:=⟨_,KO⟩
theorem aNh:Fi 148 aGi:=dC Tryz.func148 aGi
def W64:CW Tryz.f64:=⟨_,dB⟩
theorem bEf:Fi 64 W64:=dC Tryz.func64 W64
def W40:CW Tryz.f40:=⟨_,dB⟩
theorem bEa:Fi 40 W40:=dC Tryz.func40 W40
def W58:CW Tryz.f58:=⟨_,dB⟩
theorem bEe:Fi 58 W58:=dC Tryz.func58 W58
def W13:CW Tryz.f13:=⟨_,dB⟩
theorem bJo:Fi 13 W13:=dC Tryz.func13 W13
def W74:CW Tryz.f74:=⟨_,dB⟩
theorem bKn:Fi 74 W74:=dC Tryz.func74 W74
def aSo:CW Tryz.f294:=⟨_,dB⟩
theorem bDu:Fi 294 aSo:=dC Tryz.func294 aSo
def W62:CW Tryz.f62:=⟨_,dB⟩
theorem bKk:Fi 62 W62:=dC Tryz.func62 W62
def aQk:CW Tryz.f203:=⟨_,dB⟩
theorem bBq:Fi 203 aQk:=dC Tryz.func203 aQk
def W52:CW Tryz.f52:=⟨_,dB⟩
theorem bKd:Fi 52 W52:=dC Tryz.func52 W52
def aRw:CW Tryz.f259:=⟨_,dB⟩
theorem bDc:Fi 259 aRw:=dC Tryz.func259 aRw
def aQi:CW Tryz.f201:=⟨_,dB⟩
theorem bBo:Fi 201 aQi:=dC Tryz.func201 aQi
def W80:CW Tryz.f80:=⟨_,dB⟩
theorem bKq:Fi 80 W80:=dC Tryz.func80 W80
def W22:CW Tryz.f22:=⟨_,dB⟩
theorem bJs:Fi 22 W22:=dC Tryz.func22 W22
def W20:CW Tryz.f20:=⟨_,dB⟩
theorem bJr:Fi 20 W20:=dC Tryz.func20 W20
def aGd:CW Tryz.f108:=⟨_,dB⟩
theorem aNc:Fi 108 aGd:=dC Tryz.func108 aGd
def aGh:CW Tryz.f139:=⟨_,dB⟩
theorem aNg:Fi 139 aGh:=dC Tryz.func139 aGh
def W81:CW Tryz.f81:=⟨_,KO⟩
theorem bEi:Fi 81 W81:=dC Tryz.func81 W81
def aPq:CW Tryz.f164:=⟨_,KO⟩
theorem bAw:Fi 164 aPq:=dC Tryz.func164 aPq
def aOs:CW Tryz.f116:=⟨_,dB⟩
theorem aZy:Fi 116 aOs:=dC Tryz.func116 aOs
def W66:CW Tryz.f66:=⟨_,dB⟩
theorem bKm:Fi 66 W66:=dC Tryz.func66 W66
def aGe:CW Tryz.f109:=⟨_,dB⟩
theorem aNd:Fi 109 aGe:=dC Tryz.func109 aGe
def aPk:CW Tryz.f157:=⟨_,dB⟩
theorem bAq:Fi 157 aPk:=dC Tryz.func157 aPk
def aRy:CW Tryz.f260:=⟨_,dB⟩
theorem bDe:Fi 260 aRy:=dC Tryz.func260 aRy
def W37:CW Tryz.f37:=⟨_,dB⟩
theorem bDz:Fi 37 W37:=dC Tryz.func37 W37
def W65:CW Tryz.f65:=⟨_,dB⟩
theorem bEg:Fi 65 W65:=dC Tryz.func65 W65
def aQh:CW Tryz.f200:=⟨_,dB⟩
theorem bBn:Fi 200 aQh:=dC Tryz.func200 aQh
def aOr:CW Tryz.f115:=⟨_,dB⟩
theorem aZx:Fi 115 aOr:=dC Tryz.func115 aOr
def aQj:CW Tryz.f202:=⟨_,dB⟩
theorem bBp:Fi 202 aQj:=dC Tryz.func202 aQj
def W10:CW Tryz.f10:=⟨_,KO⟩
theorem bJn:Fi 10 W10:=dC Tryz.func10 W10
end Go.Proofs.YtogfcjbgeebfkaaGreatDoor
