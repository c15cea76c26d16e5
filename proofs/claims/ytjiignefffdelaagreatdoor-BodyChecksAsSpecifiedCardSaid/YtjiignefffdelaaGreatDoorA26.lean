/-
  Parts of the proof of statement 4: KWh, KWi, KWj, KWk, KWl, KWm
-/
import Derived.Test.YtjiignefffdelaaGreatDoorA24
set_option maxRecDepth 100000
set_option maxHeartbeats 16000000
set_option linter.unusedVariables false
namespace Go.Proofs.YtjiignefffdelaaGreatDoor
open Go Go.Av
def W56:CW Tryz.f56:=by
 apply Subtype.mk;apply aF
 kernel_rfl
 conv=>lhs;cbv
theorem bBn:Fi 56 W56:=bN Tryz.func56 W56
def W23:CW Tryz.f23:=by
 apply Subtype.mk;apply aF
 kernel_rfl
 conv=>lhs;cbv
theorem bAq:Fi 23 W23:=bN Tryz.func23 W23
def W24:CW Tryz.f24:=by
 apply Subtype.mk;apply aF
 kernel_rfl
 conv=>lhs;cbv
theorem bDl:Fi 24 W24:=bN Tryz.func24 W24
def W22:CW Tryz.f22:=by
 apply Subtype.mk;apply aF
 kernel_rfl
 conv=>lhs;cbv
theorem bDk:Fi 22 W22:=bN Tryz.func22 W22
def W6:CW Tryz.f6:=by
 apply Subtype.mk;apply aF
 kernel_rfl
 conv=>lhs;cbv
theorem is6:Fi 6 W6:=bN Tryz.func6 W6
def W209:CW Tryz.f209:=by
 apply Subtype.mk;apply aF
 kernel_rfl
 conv=>lhs;cbv
theorem bAh:Fi 209 W209:=bN Tryz.func209 W209
def W169:CW Tryz.f169:=by
 apply Subtype.mk;apply aF
 kernel_rfl
 conv=>lhs;cbv
theorem aZp:Fi 169 W169:=bN Tryz.func169 W169
def W244:CW Tryz.f244:=by
 apply Subtype.mk;apply aF
 kernel_rfl
 conv=>lhs;cbv
theorem bAx:Fi 244 W244:=bN Tryz.func244 W244
def W211:CW Tryz.f211:=by
 apply Subtype.mk;apply aF
 kernel_rfl
 conv=>lhs;cbv
theorem bAk:Fi 211 W211:=bN Tryz.func211 W211
def W210:CW Tryz.f210:=by
 apply Subtype.mk;apply aF
 kernel_rfl
 conv=>lhs;cbv
theorem bAj:Fi 210 W210:=bN Tryz.func210 W210
def W170:CW Tryz.f170:=by
 apply Subtype.mk;apply aF
 kernel_rfl
 conv=>lhs;cbv
theorem aZq:Fi 170 W170:=bN Tryz.func170 W170
def W212:CW Tryz.f212:=by
 apply Subtype.mk;apply aF
 kernel_rfl
 conv=>lhs;cbv
theorem bAl:Fi 212 W212:=bN Tryz.func212 W212
def W213:CW Tryz.f213:=by
 apply Subtype.mk;apply aF
 kernel_rfl
 conv=>lhs;cbv
theorem bAm:Fi 213 W213:=bN Tryz.func213 W213
def W171:CW Tryz.f171:=by
 apply Subtype.mk;apply aF
 kernel_rfl
 conv=>lhs;cbv
theorem aZr:Fi 171 W171:=bN Tryz.func171 W171
def W172:CW Tryz.f172:=by
 apply Subtype.mk;apply aF
 kernel_rfl
 conv=>lhs;cbv
theorem aZs:Fi 172 W172:=bN Tryz.func172 W172
def W246:CW Tryz.f246:=by
 apply Subtype.mk;apply aF
 kernel_rfl
 conv=>lhs;cbv
theorem bAz:Fi 246 W246:=bN Tryz.func246 W246
def W247:CW Tryz.f247:=by
 apply Subtype.mk;apply aF
 kernel_rfl
 conv=>lhs;cbv
theorem bBa:Fi 247 W247:=bN Tryz.func247 W247
def W215:CW Tryz.f215:=by
 apply Subtype.mk;apply aF
 kernel_rfl
 conv=>lhs;cbv
theorem bAo:Fi 215 W215:=bN Tryz.func215 W215
def W243:CW Tryz.f243:=by
 apply Subtype.mk;apply aF
 kernel_rfl
 conv=>lhs;cbv
theorem bAw:Fi 243 W243:=bN Tryz.func243 W243
def W245:CW Tryz.f245:=by
 apply Subtype.mk;apply aF
 kernel_rfl
 conv=>lhs;cbv
theorem bAy:Fi 245 W245:=bN Tryz.func245 W245
def W214:CW Tryz.f214:=by
 apply Subtype.mk;apply aF
 kernel_rfl
 conv=>lhs;cbv
theorem bAn:Fi 214 W214:=bN Tryz.func214 W214
def W276:CW Tryz.f276:=by
 apply Subtype.mk;apply aF
 kernel_rfl
 conv=>lhs;cbv
theorem bBc:Fi 276 W276:=bN Tryz.func276 W276
def W239:CW Tryz.f239:=by
 apply Subtype.mk;apply aF
 kernel_rfl
 conv=>lhs;cbv
theorem bAs:Fi 239 W239:=bN Tryz.func239 W239
def W114:CW Tryz.f114:=by
 apply Subtype.mk;apply aF
 kernel_rfl
 conv=>lhs;cbv
theorem aYc:Fi 114 W114:=bN Tryz.func114 W114
def W117:CW Tryz.f117:=by
 apply Subtype.mk;apply aF
 kernel_rfl
 conv=>lhs;cbv
theorem aYf:Fi 117 W117:=bN Tryz.func117 W117
def W238:CW Tryz.f238:=by
 apply Subtype.mk;apply aF
 kernel_rfl
 conv=>lhs;cbv
theorem bAr:Fi 238 W238:=bN Tryz.func238 W238
def W278:CW Tryz.f278:=by
 apply Subtype.mk;apply aF
 kernel_rfl
 conv=>lhs;cbv
theorem bBd:Fi 278 W278:=bN Tryz.func278 W278
def W240:CW Tryz.f240:=by
 apply Subtype.mk;apply aF
 kernel_rfl
 conv=>lhs;cbv
theorem bAt:Fi 240 W240:=bN Tryz.func240 W240
def W241:CW Tryz.f241:=by
 apply Subtype.mk;apply aF
 kernel_rfl
 conv=>lhs;cbv
theorem bAu:Fi 241 W241:=bN Tryz.func241 W241
def W116:CW Tryz.f116:=by
 apply Subtype.mk;apply aF
 kernel_rfl
 conv=>lhs;cbv
theorem aYe:Fi 116 W116:=bN Tryz.func116 W116
def W161:CW Tryz.f161:=by
 apply Subtype.mk;apply aF
 kernel_rfl
 conv=>lhs;cbv
theorem aZh:Fi 161 W161:=bN Tryz.func161 W161
def W119:CW Tryz.f119:=by
 apply Subtype.mk;apply aF
 kernel_rfl
 conv=>lhs;cbv
theorem aYh:Fi 119 W119:=bN Tryz.func119 W119
def W173:CW Tryz.f173:=by
 apply Subtype.mk;apply aF
 kernel_rfl
 conv=>lhs;cbv
theorem aZt:Fi 173 W173:=bN Tryz.func173 W173
def W208:CW Tryz.f208:=by
 apply Subtype.mk;apply aF
 kernel_rfl
 conv=>lhs;cbv
theorem bAg:Fi 208 W208:=bN Tryz.func208 W208
def W118:CW Tryz.f118:=by
 apply Subtype.mk;apply aF
 kernel_rfl
 conv=>lhs;unfold mkX Tryz.f118;dsimp only;simp only[ax]
 conv in (occs:= *) copers _ _ _ _ _=>all_goals cbv
 (try simp only[Option.map_some])
 (try conv in (occs:= *) pairsOf _ _=>all_goals cbv)
 conv=>lhs;cbv
theorem aYg:Fi 118 W118:=bN Tryz.func118 W118
def W168:CW Tryz.f168:=by
 apply Subtype.mk;apply aF
 kernel_rfl
 conv=>lhs;cbv
theorem aZo:Fi 168 W168:=bN Tryz.func168 W168
def W65:CW Tryz.f65:=by
 apply Subtype.mk;apply aF
 kernel_rfl
 conv=>lhs;cbv
theorem bEn:Fi 65 W65:=bN Tryz.func65 W65
def W206:CW Tryz.f206:=by
 apply Subtype.mk;apply aF
 kernel_rfl
 conv=>lhs;cbv
theorem bAe:Fi 206 W206:=bN Tryz.func206 W206
def W163:CW Tryz.f163:=by
 apply Subtype.mk;apply aF
 kernel_rfl
 conv=>lhs;cbv
theorem aZj:Fi 163 W163:=bN Tryz.func163 W163
def W205:CW Tryz.f205:=by
 apply Subtype.mk;apply aF
 kernel_rfl
 conv=>lhs;cbv
theorem bAd:Fi 205 W205:=bN Tryz.func205 W205
def W162:CW Tryz.f162:=by
 apply Subtype.mk;apply aF
 kernel_rfl
 conv=>lhs;cbv
theorem aZi:Fi 162 W162:=bN Tryz.func162 W162
def W165:CW Tryz.f165:=by
 apply Subtype.mk;apply aF
 kernel_rfl
 conv=>lhs;cbv
theorem aZl:Fi 165 W165:=bN Tryz.func165 W165
def W164:CW Tryz.f164:=by
 apply Subtype.mk;apply aF
 kernel_rfl
 conv=>lhs;cbv
theorem aZk:Fi 164 W164:=bN Tryz.func164 W164
def W166:CW Tryz.f166:=by
 apply Subtype.mk;apply aF
 kernel_rfl
 conv=>lhs;cbv
theorem aZm:Fi 166 W166:=bN Tryz.func166 W166
def W279:CW Tryz.f279:=by
 apply Subtype.mk;apply aF
 kernel_rfl
 conv=>lhs;cbv
theorem bBe:Fi 279 W279:=bN Tryz.func279 W279
def W242:CW Tryz.f242:=by
 apply Subtype.mk;apply aF
 kernel_rfl
 conv=>lhs;cbv
theorem bAv:Fi 242 W242:=bN Tryz.func242 W242
def W207:CW Tryz.f207:=by
 apply Subtype.mk;apply aF
 kernel_rfl
 conv=>lhs;cbv
theorem bAf:Fi 207 W207:=bN Tryz.func207 W207
def W167:CW Tryz.f167:=by
 apply Subtype.mk;apply aF
 kernel_rfl
 conv=>lhs;cbv
theorem aZn:Fi 167 W167:=bN Tryz.func167 W167
def W111:CW Tryz.f111:=by
 apply Subtype.mk;apply aF
 kernel_rfl
 conv=>lhs;cbv
theorem aUa:Fi 111 W111:=bN Tryz.func111 W111
def W112:CW Tryz.f112:=by
 apply Subtype.mk;apply aF
 kernel_rfl
 conv=>lhs;cbv
theorem aUb:Fi 112 W112:=bN Tryz.func112 W112
def W59:CW Tryz.f59:=by
 apply Subtype.mk;apply aF
 kernel_rfl
 conv=>lhs;cbv
theorem bBo:Fi 59 W59:=bN Tryz.func59 W59
def W60:CW Tryz.f60:=by
 apply Subtype.mk;apply aF
 kernel_rfl
 conv=>lhs;cbv
theorem bEj:Fi 60 W60:=bN Tryz.func60 W60
def W26:CW Tryz.f26:=by
 apply Subtype.mk;apply aF
 kernel_rfl
 conv=>lhs;cbv
theorem bBb:Fi 26 W26:=bN Tryz.func26 W26
def W61:CW Tryz.f61:=by
 apply Subtype.mk;apply aF
 kernel_rfl
 conv=>lhs;cbv
theorem bBp:Fi 61 W61:=bN Tryz.func61 W61
def W115:CW Tryz.f115:=by
 apply Subtype.mk;apply aF
 kernel_rfl
 conv=>lhs;cbv
theorem aYd:Fi 115 W115:=bN Tryz.func115 W115
end Go.Proofs.YtjiignefffdelaaGreatDoor
