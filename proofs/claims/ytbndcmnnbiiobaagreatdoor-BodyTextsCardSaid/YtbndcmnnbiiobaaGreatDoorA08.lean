/-
  Part of the proof of statement 5
-/
import Derived.Test.YtbndcmnnbiiobaaGreatDoorA07
set_option maxRecDepth 100000
set_option maxHeartbeats 16000000
set_option linter.unusedVariables false
namespace Go.Proofs.YtbndcmnnbiiobaaGreatDoor
open Go Go.Av
def W27:CW Tryz.f27:=⟨_,cT⟩
theorem bGz:Fi 27 W27:=dC Tryz.func27 W27
def W59:CW Tryz.f59:=⟨_,cT⟩
theorem bBl:Fi 59 W59:=dC Tryz.func59 W59
def aNu:CW Tryz.f142:=⟨_,cT⟩
theorem aYn:Fi 142 aNu:=dC Tryz.func142 aNu
def W80:CW Tryz.f80:=⟨_,cT⟩
theorem bIg:Fi 80 W80:=dC Tryz.func80 W80
def W78:CW Tryz.f78:=⟨_,cT⟩
theorem bIe:Fi 78 W78:=dC Tryz.func78 W78
def aNc:CW Tryz.f114:=⟨_,cT⟩
theorem aXu:Fi 114 aNc:=dC Tryz.func114 aNc
def W57:CW Tryz.f57:=⟨_,cT⟩
theorem bBk:Fi 57 W57:=dC Tryz.func57 W57
def aNd:CW Tryz.f115:=⟨_,cT⟩
theorem aXv:Fi 115 aNd:=dC Tryz.func115 aNd
def aNe:CW Tryz.f116:=⟨_,cT⟩
theorem aXw:Fi 116 aNe:=dC Tryz.func116 aNe
def aMu:CW Tryz.f104:=⟨_,cT⟩
theorem aXm:Fi 104 aMu:=dC Tryz.func104 aMu
def aPm:CW Tryz.f209:=⟨_,cT⟩
theorem bAg:Fi 209 aPm:=dC Tryz.func209 aPm
def aOk:CW Tryz.f163:=⟨_,cT⟩
theorem aZd:Fi 163 aOk:=dC Tryz.func163 aOk
def aNj:CW Tryz.f121:=⟨_,cT⟩
theorem aYb:Fi 121 aNj:=dC Tryz.func121 aNj
def aOm:CW Tryz.f166:=⟨_,cT⟩
theorem aZf:Fi 166 aOm:=dC Tryz.func166 aOm
def aNl:CW Tryz.f123:=⟨_,cT⟩
theorem aYd:Fi 123 aNl:=dC Tryz.func123 aNl
def aNt:CW Tryz.f141:=⟨_,cT⟩
theorem aYm:Fi 141 aNt:=dC Tryz.func141 aNt
def aNv:CW Tryz.f143:=⟨_,cT⟩
theorem aYo:Fi 143 aNv:=dC Tryz.func143 aNv
def W81:CW Tryz.f81:=⟨_,cT⟩
theorem bIh:Fi 81 W81:=dC Tryz.func81 W81
def W38:CW Tryz.f38:=⟨_,cT⟩
theorem bHf:Fi 38 W38:=dC Tryz.func38 W38
def W69:CW Tryz.f69:=⟨_,cT⟩
theorem bId:Fi 69 W69:=dC Tryz.func69 W69
def W79:CW Tryz.f79:=⟨_,cT⟩
theorem bIf:Fi 79 W79:=dC Tryz.func79 W79
def aFs:CW Tryz.f170:=⟨_,cT⟩
theorem aLw:Fi 170 aFs:=dC Tryz.func170 aFs
def aFt:CW Tryz.f171:=⟨_,cT⟩
theorem aLx:Fi 171 aFt:=dC Tryz.func171 aFt
def aOp:CW Tryz.f169:=⟨_,cT⟩
theorem aZi:Fi 169 aOp:=dC Tryz.func169 aOp
def aFm:CW Tryz.f130:=⟨_,cT⟩
theorem aLq:Fi 130 aFm:=dC Tryz.func130 aFm
def aNr:CW Tryz.f129:=⟨_,cT⟩
theorem aYj:Fi 129 aNr:=dC Tryz.func129 aNr
def aPo:CW Tryz.f218:=⟨_,cT⟩
theorem bAj:Fi 218 aPo:=dC Tryz.func218 aPo
def aOo:CW Tryz.f168:=⟨_,cT⟩
theorem aZh:Fi 168 aOo:=dC Tryz.func168 aOo
def aOu:CW Tryz.f190:=⟨_,cT⟩
theorem aZo:Fi 190 aOu:=dC Tryz.func190 aOu
def W64:CW Tryz.f64:=⟨_,cT⟩
theorem bBm:Fi 64 W64:=dC Tryz.func64 W64
def aOx:CW Tryz.f194:=⟨_,cT⟩
theorem aZr:Fi 194 aOx:=dC Tryz.func194 aOx
def aFr:CW Tryz.f158:=⟨_,cT⟩
theorem aLv:Fi 158 aFr:=dC Tryz.func158 aFr
def aPq:CW Tryz.f229:=⟨_,cT⟩
theorem bAl:Fi 229 aPq:=dC Tryz.func229 aPq
def aOt:CW Tryz.f189:=⟨_,cT⟩
theorem aZn:Fi 189 aOt:=dC Tryz.func189 aOt
def aOv:CW Tryz.f191:=⟨_,cT⟩
theorem aZp:Fi 191 aOv:=dC Tryz.func191 aOv
def aPp:CW Tryz.f228:=⟨_,cT⟩
theorem bAk:Fi 228 aPp:=dC Tryz.func228 aPp
def aOs:CW Tryz.f187:=⟨_,cT⟩
theorem aZm:Fi 187 aOs:=dC Tryz.func187 aOs
def aOr:CW Tryz.f186:=⟨_,cT⟩
theorem aZl:Fi 186 aOr:=dC Tryz.func186 aOr
def aOw:CW Tryz.f193:=⟨_,cT⟩
theorem aZq:Fi 193 aOw:=dC Tryz.func193 aOw
def aOz:CW Tryz.f196:=⟨_,cT⟩
theorem aZt:Fi 196 aOz:=dC Tryz.func196 aOz
def aNw:CW Tryz.f146:=⟨_,cT⟩
theorem aYp:Fi 146 aNw:=dC Tryz.func146 aNw
def aOy:CW Tryz.f195:=⟨_,cT⟩
theorem aZs:Fi 195 aOy:=dC Tryz.func195 aOy
def aFo:{x // wP Tryz.prog gv true Tryz.f145=some x}:=⟨_,cT⟩
theorem aLs:fN Tryz.prog gv true 145 aFo.1:=dG Tryz.func145 (by kernel_rfl) aFo.2
def aNp:CW Tryz.f127:=⟨_,cT⟩
theorem aYh:Fi 127 aNp:=dC Tryz.func127 aNp
def aFn:CW Tryz.f144:=⟨_,cT⟩
theorem aLr:Fi 144 aFn:=dC Tryz.func144 aFn
def aOq:CW Tryz.f185:=⟨_,cT⟩
theorem aZk:Fi 185 aOq:=dC Tryz.func185 aOq
def aFu:CW Tryz.f184:=⟨_,cT⟩
theorem aLy:Fi 184 aFu:=dC Tryz.func184 aFu
def aFx:CW Tryz.f227:=⟨_,cT⟩
theorem aMb:Fi 227 aFx:=dC Tryz.func227 aFx
def yw:CW Tryz.f183:=⟨_,cT⟩
theorem aBv:Fi 183 yw:=dC Tryz.func183 yw
def aFw:CW Tryz.f225:=⟨_,cT⟩
theorem aMa:Fi 225 aFw:=dC Tryz.func225 aFw
def aFy:{x // wP Tryz.prog gv true Tryz.f244=some x}:=⟨_,cT⟩
theorem aMc:fN Tryz.prog gv true 244 aFy.1:=dG Tryz.func244 (by kernel_rfl) aFy.2
def aFv:CW Tryz.f188:=⟨_,cT⟩
theorem aLz:Fi 188 aFv:=dC Tryz.func188 aFv
def W83:CW Tryz.f83:=⟨_,cT⟩
theorem bIi:Fi 83 W83:=dC Tryz.func83 W83
end Go.Proofs.YtbndcmnnbiiobaaGreatDoor
