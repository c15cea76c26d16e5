/-
  Parts of the proof of statement 4: KWi, KWj, KWk, KWl, KWm, KWn
-/
import Derived.Test.YtjiignefffdelaaGreatDoorA23
set_option maxRecDepth 100000
set_option maxHeartbeats 16000000
set_option cbv.maxSteps 100000000
set_option linter.unusedVariables false
namespace Go.Proofs.YtjiignefffdelaaGreatDoor
open Go Go.Av
def W209:CW Tryz.f209:=by
 apply Subtype.mk
 conv=>lhs;cbv
theorem is209:Fi 209 W209:=bM Tryz.func209 W209
def W169:CW Tryz.f169:=by
 apply Subtype.mk
 conv=>lhs;cbv
theorem is169:Fi 169 W169:=bM Tryz.func169 W169
def W244:CW Tryz.f244:=by
 apply Subtype.mk
 conv=>lhs;cbv
theorem is244:Fi 244 W244:=bM Tryz.func244 W244
def W211:CW Tryz.f211:=by
 apply Subtype.mk
 conv=>lhs;cbv
theorem is211:Fi 211 W211:=bM Tryz.func211 W211
def W210:CW Tryz.f210:=by
 apply Subtype.mk
 conv=>lhs;cbv
theorem is210:Fi 210 W210:=bM Tryz.func210 W210
def W170:CW Tryz.f170:=by
 apply Subtype.mk
 conv=>lhs;cbv
theorem is170:Fi 170 W170:=bM Tryz.func170 W170
def W212:CW Tryz.f212:=by
 apply Subtype.mk
 conv=>lhs;cbv
theorem is212:Fi 212 W212:=bM Tryz.func212 W212
def W213:CW Tryz.f213:=by
 apply Subtype.mk
 conv=>lhs;cbv
theorem is213:Fi 213 W213:=bM Tryz.func213 W213
def W171:CW Tryz.f171:=by
 apply Subtype.mk
 conv=>lhs;cbv
theorem is171:Fi 171 W171:=bM Tryz.func171 W171
def W172:CW Tryz.f172:=by
 apply Subtype.mk
 conv=>lhs;cbv
theorem is172:Fi 172 W172:=bM Tryz.func172 W172
def W246:CW Tryz.f246:=by
 apply Subtype.mk
 conv=>lhs;cbv
theorem is246:Fi 246 W246:=bM Tryz.func246 W246
def W247:CW Tryz.f247:=by
 apply Subtype.mk
 conv=>lhs;cbv
theorem is247:Fi 247 W247:=bM Tryz.func247 W247
def W215:CW Tryz.f215:=by
 apply Subtype.mk
 conv=>lhs;cbv
theorem is215:Fi 215 W215:=bM Tryz.func215 W215
def W243:CW Tryz.f243:=by
 apply Subtype.mk
 conv=>lhs;cbv
theorem is243:Fi 243 W243:=bM Tryz.func243 W243
def W245:CW Tryz.f245:=by
 apply Subtype.mk
 conv=>lhs;cbv
theorem is245:Fi 245 W245:=bM Tryz.func245 W245
def W214:CW Tryz.f214:=by
 apply Subtype.mk
 conv=>lhs;cbv
theorem is214:Fi 214 W214:=bM Tryz.func214 W214
def W276:CW Tryz.f276:=by
 apply Subtype.mk
 conv=>lhs;cbv
theorem is276:Fi 276 W276:=bM Tryz.func276 W276
def W239:CW Tryz.f239:=by
 apply Subtype.mk
 conv=>lhs;cbv
theorem is239:Fi 239 W239:=bM Tryz.func239 W239
def W114:CW Tryz.f114:=by
 apply Subtype.mk
 conv=>lhs;cbv
theorem is114:Fi 114 W114:=bM Tryz.func114 W114
def W117:CW Tryz.f117:=by
 apply Subtype.mk
 conv=>lhs;cbv
theorem is117:Fi 117 W117:=bM Tryz.func117 W117
def W238:CW Tryz.f238:=by
 apply Subtype.mk
 conv=>lhs;cbv
theorem is238:Fi 238 W238:=bM Tryz.func238 W238
def W278:CW Tryz.f278:=by
 apply Subtype.mk
 conv=>lhs;cbv
theorem is278:Fi 278 W278:=bM Tryz.func278 W278
def W240:CW Tryz.f240:=by
 apply Subtype.mk
 conv=>lhs;cbv
theorem is240:Fi 240 W240:=bM Tryz.func240 W240
def W241:CW Tryz.f241:=by
 apply Subtype.mk
 conv=>lhs;cbv
theorem is241:Fi 241 W241:=bM Tryz.func241 W241
def W116:CW Tryz.f116:=by
 apply Subtype.mk
 conv=>lhs;cbv
theorem is116:Fi 116 W116:=bM Tryz.func116 W116
def W161:CW Tryz.f161:=by
 apply Subtype.mk
 conv=>lhs;cbv
theorem is161:Fi 161 W161:=bM Tryz.func161 W161
def W119:CW Tryz.f119:=by
 apply Subtype.mk
 conv=>lhs;cbv
theorem is119:Fi 119 W119:=bM Tryz.func119 W119
def W173:CW Tryz.f173:=by
 apply Subtype.mk
 conv=>lhs;cbv
theorem is173:Fi 173 W173:=bM Tryz.func173 W173
def W208:CW Tryz.f208:=by
 apply Subtype.mk
 conv=>lhs;cbv
theorem is208:Fi 208 W208:=bM Tryz.func208 W208
def W118:CW Tryz.f118:=by
 apply Subtype.mk
 conv=>lhs;cbv
theorem is118:Fi 118 W118:=bM Tryz.func118 W118
def W168:CW Tryz.f168:=by
 apply Subtype.mk
 conv=>lhs;cbv
theorem is168:Fi 168 W168:=bM Tryz.func168 W168
def W65:CW Tryz.f65:=by
 apply Subtype.mk
 conv=>lhs;cbv
theorem is65:Fi 65 W65:=bM Tryz.func65 W65
def W206:CW Tryz.f206:=by
 apply Subtype.mk
 conv=>lhs;cbv
theorem is206:Fi 206 W206:=bM Tryz.func206 W206
def W163:CW Tryz.f163:=by
 apply Subtype.mk
 conv=>lhs;cbv
theorem is163:Fi 163 W163:=bM Tryz.func163 W163
def W205:CW Tryz.f205:=by
 apply Subtype.mk
 conv=>lhs;cbv
theorem is205:Fi 205 W205:=bM Tryz.func205 W205
def W162:CW Tryz.f162:=by
 apply Subtype.mk
 conv=>lhs;cbv
theorem is162:Fi 162 W162:=bM Tryz.func162 W162
def W165:CW Tryz.f165:=by
 apply Subtype.mk
 conv=>lhs;cbv
theorem is165:Fi 165 W165:=bM Tryz.func165 W165
def W164:CW Tryz.f164:=by
 apply Subtype.mk
 conv=>lhs;cbv
theorem is164:Fi 164 W164:=bM Tryz.func164 W164
def W166:CW Tryz.f166:=by
 apply Subtype.mk
 conv=>lhs;cbv
theorem is166:Fi 166 W166:=bM Tryz.func166 W166
def W279:CW Tryz.f279:=by
 apply Subtype.mk
 conv=>lhs;cbv
theorem is279:Fi 279 W279:=bM Tryz.func279 W279
def W242:CW Tryz.f242:=by
 apply Subtype.mk
 conv=>lhs;cbv
theorem is242:Fi 242 W242:=bM Tryz.func242 W242
def W207:CW Tryz.f207:=by
 apply Subtype.mk
 conv=>lhs;cbv
theorem is207:Fi 207 W207:=bM Tryz.func207 W207
def W167:CW Tryz.f167:=by
 apply Subtype.mk
 conv=>lhs;cbv
theorem is167:Fi 167 W167:=bM Tryz.func167 W167
def W111:CW Tryz.f111:=by
 apply Subtype.mk
 conv=>lhs;cbv
theorem is111:Fi 111 W111:=bM Tryz.func111 W111
def W112:CW Tryz.f112:=by
 apply Subtype.mk
 conv=>lhs;cbv
theorem is112:Fi 112 W112:=bM Tryz.func112 W112
def W59:CW Tryz.f59:=by
 apply Subtype.mk
 conv=>lhs;cbv
theorem is59:Fi 59 W59:=bM Tryz.func59 W59
def W60:CW Tryz.f60:=by
 apply Subtype.mk
 conv=>lhs;cbv
theorem is60:Fi 60 W60:=bM Tryz.func60 W60
def W26:CW Tryz.f26:=by
 apply Subtype.mk
 conv=>lhs;cbv
theorem is26:Fi 26 W26:=bM Tryz.func26 W26
def W61:CW Tryz.f61:=by
 apply Subtype.mk
 conv=>lhs;cbv
theorem is61:Fi 61 W61:=bM Tryz.func61 W61
def W115:CW Tryz.f115:=by
 apply Subtype.mk
 conv=>lhs;cbv
theorem is115:Fi 115 W115:=bM Tryz.func115 W115
def W58:CW Tryz.f58:=by
 apply Subtype.mk
 conv=>lhs;cbv
theorem is58:Fi 58 W58:=bM Tryz.func58 W58
def W25:CW Tryz.f25:=by
 apply Subtype.mk
 conv=>lhs;cbv
theorem is25:Fi 25 W25:=bM Tryz.func25 W25
def W64:CW Tryz.f64:=by
 apply Subtype.mk
 conv=>lhs;cbv
theorem is64:Fi 64 W64:=bM Tryz.func64 W64
def W113:CW Tryz.f113:=by
 apply Subtype.mk
 conv=>lhs;cbv
theorem is113:Fi 113 W113:=bM Tryz.func113 W113
def W62:CW Tryz.f62:=by
 apply Subtype.mk
 conv=>lhs;cbv
theorem is62:Fi 62 W62:=bM Tryz.func62 W62
def W63:CW Tryz.f63:=by
 apply Subtype.mk
 conv=>lhs;cbv
theorem is63:Fi 63 W63:=bM Tryz.func63 W63
def W28:CW Tryz.f28:=by
 apply Subtype.mk
 conv=>lhs;cbv
theorem is28:Fi 28 W28:=bM Tryz.func28 W28
def W27:CW Tryz.f27:=by
 apply Subtype.mk
 conv=>lhs;cbv
theorem is27:Fi 27 W27:=bM Tryz.func27 W27
def W7:CW Tryz.f7:=by
 apply Subtype.mk
 conv=>lhs;cbv
theorem is7:Fi 7 W7:=bM Tryz.func7 W7
def W5:CW Tryz.f5:=by
 apply Subtype.mk
 conv=>lhs;cbv
theorem is5:Fi 5 W5:=bM Tryz.func5 W5
end Go.Proofs.YtjiignefffdelaaGreatDoor
