/-
  Parts of the proof of statement 4: KWa, KWb, KWc, KWd, KWe, KWf, KWg, KWh
-/
import Derived.Test.YtjiignefffdelaaGreatDoorA23
set_option maxRecDepth 100000
set_option maxHeartbeats 16000000
set_option cbv.maxSteps 100000000
set_option linter.unusedVariables false
namespace Go.Proofs.YtjiignefffdelaaGreatDoor
open Go Go.Av
def W15:CW Tryz.f15:=by
 apply Subtype.mk
 conv=>lhs;cbv
theorem is15:Fi 15 W15:=bM Tryz.func15 W15
def W44:CW Tryz.f44:=by
 apply Subtype.mk
 conv=>lhs;cbv
theorem is44:Fi 44 W44:=bM Tryz.func44 W44
def W137:CW Tryz.f137:=by
 apply Subtype.mk
 conv=>lhs;cbv
theorem is137:Fi 137 W137:=bM Tryz.func137 W137
def W88:CW Tryz.f88:=by
 apply Subtype.mk
 conv=>lhs;cbv
theorem is88:Fi 88 W88:=bM Tryz.func88 W88
def W89:CW Tryz.f89:=by
 apply Subtype.mk
 conv=>lhs;cbv
theorem is89:Fi 89 W89:=bM Tryz.func89 W89
def W90:CW Tryz.f90:=by
 apply Subtype.mk
 conv=>lhs;cbv
theorem is90:Fi 90 W90:=bM Tryz.func90 W90
def W42:CW Tryz.f42:=by
 apply Subtype.mk
 conv=>lhs;cbv
theorem is42:Fi 42 W42:=bM Tryz.func42 W42
def W91:CW Tryz.f91:=by
 apply Subtype.mk
 conv=>lhs;cbv
theorem is91:Fi 91 W91:=bM Tryz.func91 W91
def W92:CW Tryz.f92:=by
 apply Subtype.mk
 conv=>lhs;cbv
theorem is92:Fi 92 W92:=bM Tryz.func92 W92
def W70:CW Tryz.f70:=by
 apply Subtype.mk
 conv=>lhs;cbv
theorem is70:Fi 70 W70:=bM Tryz.func70 W70
def W188:CW Tryz.f188:=by
 apply Subtype.mk
 conv=>lhs;cbv
theorem is188:Fi 188 W188:=bM Tryz.func188 W188
def W138:CW Tryz.f138:=by
 apply Subtype.mk
 conv=>lhs;cbv
theorem is138:Fi 138 W138:=bM Tryz.func138 W138
def W97:CW Tryz.f97:=by
 apply Subtype.mk
 conv=>lhs;cbv
theorem is97:Fi 97 W97:=bM Tryz.func97 W97
def W141:CW Tryz.f141:=by
 apply Subtype.mk
 conv=>lhs;cbv
theorem is141:Fi 141 W141:=bM Tryz.func141 W141
def W99:CW Tryz.f99:=by
 apply Subtype.mk
 conv=>lhs;cbv
theorem is99:Fi 99 W99:=bM Tryz.func99 W99
def W121:CW Tryz.f121:=by
 apply Subtype.mk
 conv=>lhs;cbv
theorem is121:Fi 121 W121:=bM Tryz.func121 W121
def W181:CW Tryz.f181:=by
 apply Subtype.mk
 conv=>lhs;cbv
theorem is181:Fi 181 W181:=bM Tryz.func181 W181
def W130:CW Tryz.f130:=by
 apply Subtype.mk
 conv=>lhs;cbv
theorem is130:Fi 130 W130:=bM Tryz.func130 W130
def W83:CW Tryz.f83:=by
 apply Subtype.mk
 conv=>lhs;cbv
theorem is83:Fi 83 W83:=bM Tryz.func83 W83
def W55:CW Tryz.f55:=by
 apply Subtype.mk
 conv=>lhs;cbv
theorem is55:Fi 55 W55:=bM Tryz.func55 W55
def W69:CW Tryz.f69:=by
 apply Subtype.mk
 conv=>lhs;cbv
theorem is69:Fi 69 W69:=bM Tryz.func69 W69
def W145:CW Tryz.f145:=by
 apply Subtype.mk
 conv=>lhs;cbv
theorem is145:Fi 145 W145:=bM Tryz.func145 W145
def W146:CW Tryz.f146:=by
 apply Subtype.mk
 conv=>lhs;cbv
theorem is146:Fi 146 W146:=bM Tryz.func146 W146
def W144:CW Tryz.f144:=by
 apply Subtype.mk
 conv=>lhs;cbv
theorem is144:Fi 144 W144:=bM Tryz.func144 W144
def W107:CW Tryz.f107:=by
 apply Subtype.mk
 conv=>lhs;cbv
theorem is107:Fi 107 W107:=bM Tryz.func107 W107
def W106:CW Tryz.f106:=by
 apply Subtype.mk
 conv=>lhs;cbv
theorem is106:Fi 106 W106:=bM Tryz.func106 W106
def W197:CW Tryz.f197:=by
 apply Subtype.mk
 conv=>lhs;cbv
theorem is197:Fi 197 W197:=bM Tryz.func197 W197
def W143:CW Tryz.f143:=by
 apply Subtype.mk
 conv=>lhs;cbv
theorem is143:Fi 143 W143:=bM Tryz.func143 W143
def W154:CW Tryz.f154:=by
 apply Subtype.mk
 conv=>lhs;cbv
theorem is154:Fi 154 W154:=bM Tryz.func154 W154
def W49:CW Tryz.f49:=by
 apply Subtype.mk
 conv=>lhs;cbv
theorem is49:Fi 49 W49:=bM Tryz.func49 W49
def W158:CW Tryz.f158:=by
 apply Subtype.mk
 conv=>lhs;cbv
theorem is158:Fi 158 W158:=bM Tryz.func158 W158
def W120:CW Tryz.f120:=by
 apply Subtype.mk
 conv=>lhs;cbv
theorem is120:Fi 120 W120:=bM Tryz.func120 W120
def W202:CW Tryz.f202:=by
 apply Subtype.mk
 conv=>lhs;cbv
theorem is202:Fi 202 W202:=bM Tryz.func202 W202
def W153:CW Tryz.f153:=by
 apply Subtype.mk
 conv=>lhs;cbv
theorem is153:Fi 153 W153:=bM Tryz.func153 W153
def W155:CW Tryz.f155:=by
 apply Subtype.mk
 conv=>lhs;cbv
theorem is155:Fi 155 W155:=bM Tryz.func155 W155
def W201:CW Tryz.f201:=by
 apply Subtype.mk
 conv=>lhs;cbv
theorem is201:Fi 201 W201:=bM Tryz.func201 W201
def W151:CW Tryz.f151:=by
 apply Subtype.mk
 conv=>lhs;cbv
theorem is151:Fi 151 W151:=bM Tryz.func151 W151
def W150:CW Tryz.f150:=by
 apply Subtype.mk
 conv=>lhs;cbv
theorem is150:Fi 150 W150:=bM Tryz.func150 W150
def W157:CW Tryz.f157:=by
 apply Subtype.mk
 conv=>lhs;cbv
theorem is157:Fi 157 W157:=bM Tryz.func157 W157
def W160:CW Tryz.f160:=by
 apply Subtype.mk
 conv=>lhs;cbv
theorem is160:Fi 160 W160:=bM Tryz.func160 W160
def W110:CW Tryz.f110:=by
 apply Subtype.mk
 conv=>lhs;cbv
theorem is110:Fi 110 W110:=bM Tryz.func110 W110
def W159:CW Tryz.f159:=by
 apply Subtype.mk
 conv=>lhs;cbv
theorem is159:Fi 159 W159:=bM Tryz.func159 W159
def W109:{x // mkF Tryz.prog gv true Tryz.f109=some x}:=by
 apply Subtype.mk
 conv=>lhs;cbv
theorem is109:FnIs Tryz.prog gv true 109 W109.1:=bP Tryz.func109 (by kernel_rfl) W109.2
def W104:CW Tryz.f104:=by
 apply Subtype.mk
 conv=>lhs;cbv
theorem is104:Fi 104 W104:=bM Tryz.func104 W104
def W108:CW Tryz.f108:=by
 apply Subtype.mk
 conv=>lhs;cbv
theorem is108:Fi 108 W108:=bM Tryz.func108 W108
def W149:CW Tryz.f149:=by
 apply Subtype.mk
 conv=>lhs;cbv
theorem is149:Fi 149 W149:=bM Tryz.func149 W149
def W148:CW Tryz.f148:=by
 apply Subtype.mk
 conv=>lhs;cbv
theorem is148:Fi 148 W148:=bM Tryz.func148 W148
def W200:CW Tryz.f200:=by
 apply Subtype.mk
 conv=>lhs;cbv
theorem is200:Fi 200 W200:=bM Tryz.func200 W200
def W147:CW Tryz.f147:=by
 apply Subtype.mk
 conv=>lhs;cbv
theorem is147:Fi 147 W147:=bM Tryz.func147 W147
def W198:CW Tryz.f198:=by
 apply Subtype.mk
 conv=>lhs;cbv
theorem is198:Fi 198 W198:=bM Tryz.func198 W198
def W227:{x // mkF Tryz.prog gv true Tryz.f227=some x}:=by
 apply Subtype.mk
 conv=>lhs;cbv
theorem is227:FnIs Tryz.prog gv true 227 W227.1:=bP Tryz.func227 (by kernel_rfl) W227.2
def W152:CW Tryz.f152:=by
 apply Subtype.mk
 conv=>lhs;cbv
theorem is152:Fi 152 W152:=bM Tryz.func152 W152
def W57:CW Tryz.f57:=by
 apply Subtype.mk
 conv=>lhs;cbv
theorem is57:Fi 57 W57:=bM Tryz.func57 W57
def W142:{x // mkF Tryz.prog gv true Tryz.f142=some x}:=by
 apply Subtype.mk
 conv=>lhs;cbv
theorem is142:FnIs Tryz.prog gv true 142 W142.1:=bP Tryz.func142 (by kernel_rfl) W142.2
def W196:CW Tryz.f196:=by
 apply Subtype.mk
 conv=>lhs;cbv
theorem is196:Fi 196 W196:=bM Tryz.func196 W196
def W105:CW Tryz.f105:=by
 apply Subtype.mk
 conv=>lhs;cbv
theorem is105:Fi 105 W105:=bM Tryz.func105 W105
def W54:CW Tryz.f54:=by
 apply Subtype.mk
 conv=>lhs;cbv
theorem is54:Fi 54 W54:=bM Tryz.func54 W54
def W53:CW Tryz.f53:=by
 apply Subtype.mk
 conv=>lhs;cbv
theorem is53:Fi 53 W53:=bM Tryz.func53 W53
def W103:CW Tryz.f103:=by
 apply Subtype.mk
 conv=>lhs;cbv
theorem is103:Fi 103 W103:=bM Tryz.func103 W103
def W21:CW Tryz.f21:=by
 apply Subtype.mk
 conv=>lhs;cbv
theorem is21:Fi 21 W21:=bM Tryz.func21 W21
def W56:CW Tryz.f56:=by
 apply Subtype.mk
 conv=>lhs;cbv
theorem is56:Fi 56 W56:=bM Tryz.func56 W56
def W23:CW Tryz.f23:=by
 apply Subtype.mk
 conv=>lhs;cbv
theorem is23:Fi 23 W23:=bM Tryz.func23 W23
def W24:CW Tryz.f24:=by
 apply Subtype.mk
 conv=>lhs;cbv
theorem is24:Fi 24 W24:=bM Tryz.func24 W24
def W22:CW Tryz.f22:=by
 apply Subtype.mk
 conv=>lhs;cbv
theorem is22:Fi 22 W22:=bM Tryz.func22 W22
def W6:CW Tryz.f6:=by
 apply Subtype.mk
 conv=>lhs;cbv
theorem is6:Fi 6 W6:=bM Tryz.func6 W6
end Go.Proofs.YtjiignefffdelaaGreatDoor
