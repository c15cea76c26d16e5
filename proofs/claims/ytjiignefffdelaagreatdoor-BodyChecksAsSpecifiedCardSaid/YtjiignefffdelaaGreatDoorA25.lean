/-
  Parts of the proof of statement 4: KWa, KWb, KWc, KWd, KWe, KWf, KWg
-/
import Derived.Test.YtjiignefffdelaaGreatDoorA24
set_option maxRecDepth 100000
set_option maxHeartbeats 16000000
set_option linter.unusedVariables false
namespace Go.Proofs.YtjiignefffdelaaGreatDoor
open Go Go.Av
def W15:CW Tryz.f15:=by
 apply Subtype.mk;apply aF
 kernel_rfl
 conv=>lhs;cbv
theorem bDe:Fi 15 W15:=bN Tryz.func15 W15
def W44:CW Tryz.f44:=by
 apply Subtype.mk;apply aF
 kernel_rfl
 conv=>lhs;cbv
theorem bBk:Fi 44 W44:=bN Tryz.func44 W44
def W137:CW Tryz.f137:=by
 apply Subtype.mk;apply aF
 kernel_rfl
 conv=>lhs;cbv
theorem aYp:Fi 137 W137:=bN Tryz.func137 W137
def W88:CW Tryz.f88:=by
 apply Subtype.mk;apply aF
 kernel_rfl
 conv=>lhs;cbv
theorem bFb:Fi 88 W88:=bN Tryz.func88 W88
def W89:CW Tryz.f89:=by
 apply Subtype.mk;apply aF
 kernel_rfl
 conv=>lhs;cbv
theorem bFc:Fi 89 W89:=bN Tryz.func89 W89
def W90:CW Tryz.f90:=by
 apply Subtype.mk;apply aF
 kernel_rfl
 conv=>lhs;cbv
theorem bFd:Fi 90 W90:=bN Tryz.func90 W90
def W42:CW Tryz.f42:=by
 apply Subtype.mk;apply aF
 kernel_rfl
 conv=>lhs;cbv
theorem bBj:Fi 42 W42:=bN Tryz.func42 W42
def W91:CW Tryz.f91:=by
 apply Subtype.mk;apply aF
 kernel_rfl
 conv=>lhs;cbv
theorem bFe:Fi 91 W91:=bN Tryz.func91 W91
def W92:CW Tryz.f92:=by
 apply Subtype.mk;apply aF
 kernel_rfl
 conv=>lhs;cbv
theorem bFf:Fi 92 W92:=bN Tryz.func92 W92
def W70:CW Tryz.f70:=by
 apply Subtype.mk;apply aF
 kernel_rfl
 conv=>lhs;cbv
theorem bEr:Fi 70 W70:=bN Tryz.func70 W70
def W188:CW Tryz.f188:=by
 apply Subtype.mk;apply aF
 kernel_rfl
 conv=>lhs;cbv
theorem aZy:Fi 188 W188:=bN Tryz.func188 W188
def W138:CW Tryz.f138:=by
 apply Subtype.mk;apply aF
 kernel_rfl
 conv=>lhs;cbv
theorem aYq:Fi 138 W138:=bN Tryz.func138 W138
def W97:CW Tryz.f97:=by
 apply Subtype.mk;apply aF
 kernel_rfl
 conv=>lhs;cbv
theorem bFk:Fi 97 W97:=bN Tryz.func97 W97
def W141:CW Tryz.f141:=by
 apply Subtype.mk;apply aF
 kernel_rfl
 conv=>lhs;cbv
theorem aYt:Fi 141 W141:=bN Tryz.func141 W141
def W99:CW Tryz.f99:=by
 apply Subtype.mk;apply aF
 kernel_rfl
 conv=>lhs;cbv
theorem bFm:Fi 99 W99:=bN Tryz.func99 W99
def W121:CW Tryz.f121:=by
 apply Subtype.mk;apply aF
 kernel_rfl
 conv=>lhs;cbv
theorem aYi:Fi 121 W121:=bN Tryz.func121 W121
def W181:CW Tryz.f181:=by
 apply Subtype.mk;apply aF
 kernel_rfl
 conv=>lhs;cbv
theorem aZx:Fi 181 W181:=bN Tryz.func181 W181
def W130:CW Tryz.f130:=by
 apply Subtype.mk;apply aF
 kernel_rfl
 conv=>lhs;cbv
theorem aYo:Fi 130 W130:=bN Tryz.func130 W130
def W83:CW Tryz.f83:=by
 apply Subtype.mk;apply aF
 kernel_rfl
 conv=>lhs;cbv
theorem bFa:Fi 83 W83:=bN Tryz.func83 W83
def W55:CW Tryz.f55:=by
 apply Subtype.mk;apply aF
 kernel_rfl
 conv=>lhs;cbv
theorem bEg:Fi 55 W55:=bN Tryz.func55 W55
def W69:CW Tryz.f69:=by
 apply Subtype.mk;apply aF
 kernel_rfl
 conv=>lhs;cbv
theorem bEq:Fi 69 W69:=bN Tryz.func69 W69
def W145:CW Tryz.f145:=by
 apply Subtype.mk;apply aF
 kernel_rfl
 conv=>lhs;cbv
theorem aUd:Fi 145 W145:=bN Tryz.func145 W145
def W146:CW Tryz.f146:=by
 apply Subtype.mk;apply aF
 kernel_rfl
 conv=>lhs;cbv
theorem aUe:Fi 146 W146:=bN Tryz.func146 W146
def W144:CW Tryz.f144:=by
 apply Subtype.mk;apply aF
 kernel_rfl
 conv=>lhs;cbv
theorem aYw:Fi 144 W144:=bN Tryz.func144 W144
def W107:CW Tryz.f107:=by
 apply Subtype.mk;apply aF
 kernel_rfl
 conv=>lhs;cbv
theorem aTx:Fi 107 W107:=bN Tryz.func107 W107
def W106:CW Tryz.f106:=by
 apply Subtype.mk;apply aF
 kernel_rfl
 conv=>lhs;cbv
theorem aXz:Fi 106 W106:=bN Tryz.func106 W106
def W197:CW Tryz.f197:=by
 apply Subtype.mk;apply aF
 kernel_rfl
 conv=>lhs;cbv
theorem bAa:Fi 197 W197:=bN Tryz.func197 W197
def W143:CW Tryz.f143:=by
 apply Subtype.mk;apply aF
 kernel_rfl
 conv=>lhs;cbv
theorem aYv:Fi 143 W143:=bN Tryz.func143 W143
def W154:CW Tryz.f154:=by
 apply Subtype.mk;apply aF
 kernel_rfl
 conv=>lhs;cbv
theorem aZb:Fi 154 W154:=bN Tryz.func154 W154
def W49:CW Tryz.f49:=by
 apply Subtype.mk;apply aF
 kernel_rfl
 conv=>lhs;cbv
theorem bBl:Fi 49 W49:=bN Tryz.func49 W49
def W158:CW Tryz.f158:=by
 apply Subtype.mk;apply aF
 kernel_rfl
 conv=>lhs;cbv
theorem aZe:Fi 158 W158:=bN Tryz.func158 W158
def W120:CW Tryz.f120:=by
 apply Subtype.mk;apply aF
 kernel_rfl
 conv=>lhs;cbv
theorem aUc:Fi 120 W120:=bN Tryz.func120 W120
def W202:CW Tryz.f202:=by
 apply Subtype.mk;apply aF
 kernel_rfl
 conv=>lhs;cbv
theorem bAc:Fi 202 W202:=bN Tryz.func202 W202
def W153:CW Tryz.f153:=by
 apply Subtype.mk;apply aF
 kernel_rfl
 conv=>lhs;cbv
theorem aZa:Fi 153 W153:=bN Tryz.func153 W153
def W155:CW Tryz.f155:=by
 apply Subtype.mk;apply aF
 kernel_rfl
 conv=>lhs;cbv
theorem aZc:Fi 155 W155:=bN Tryz.func155 W155
def W201:CW Tryz.f201:=by
 apply Subtype.mk;apply aF
 kernel_rfl
 conv=>lhs;cbv
theorem bAb:Fi 201 W201:=bN Tryz.func201 W201
def W151:CW Tryz.f151:=by
 apply Subtype.mk;apply aF
 kernel_rfl
 conv=>lhs;cbv
theorem aYz:Fi 151 W151:=bN Tryz.func151 W151
def W150:CW Tryz.f150:=by
 apply Subtype.mk;apply aF
 kernel_rfl
 conv=>lhs;cbv
theorem aYy:Fi 150 W150:=bN Tryz.func150 W150
def W157:CW Tryz.f157:=by
 apply Subtype.mk;apply aF
 kernel_rfl
 conv=>lhs;cbv
theorem aZd:Fi 157 W157:=bN Tryz.func157 W157
def W160:CW Tryz.f160:=by
 apply Subtype.mk;apply aF
 kernel_rfl
 conv=>lhs;cbv
theorem aZg:Fi 160 W160:=bN Tryz.func160 W160
def W110:CW Tryz.f110:=by
 apply Subtype.mk;apply aF
 kernel_rfl
 conv=>lhs;cbv
theorem aYa:Fi 110 W110:=bN Tryz.func110 W110
def W159:CW Tryz.f159:=by
 apply Subtype.mk;apply aF
 kernel_rfl
 conv=>lhs;cbv
theorem aZf:Fi 159 W159:=bN Tryz.func159 W159
def W109:{x // mkF Tryz.prog gv true Tryz.f109=some x}:=by
 apply Subtype.mk;apply aF
 kernel_rfl
 conv=>lhs;cbv
theorem aTz:FnIs Tryz.prog gv true 109 W109.1:=bQ Tryz.func109 (by kernel_rfl) W109.2
def W104:CW Tryz.f104:=by
 apply Subtype.mk;apply aF
 kernel_rfl
 conv=>lhs;cbv
theorem aXx:Fi 104 W104:=bN Tryz.func104 W104
def W108:CW Tryz.f108:=by
 apply Subtype.mk;apply aF
 kernel_rfl
 conv=>lhs;cbv
theorem aTy:Fi 108 W108:=bN Tryz.func108 W108
def W149:CW Tryz.f149:=by
 apply Subtype.mk;apply aF
 kernel_rfl
 conv=>lhs;cbv
theorem aYx:Fi 149 W149:=bN Tryz.func149 W149
def W148:CW Tryz.f148:=by
 apply Subtype.mk;apply aF
 kernel_rfl
 conv=>lhs;cbv
theorem aUf:Fi 148 W148:=bN Tryz.func148 W148
def W200:CW Tryz.f200:=by
 apply Subtype.mk;apply aF
 kernel_rfl
 conv=>lhs;cbv
theorem aUi:Fi 200 W200:=bN Tryz.func200 W200
def W147:CW Tryz.f147:=by
 apply Subtype.mk;apply aF
 kernel_rfl
 conv=>lhs;cbv
theorem aOc:Fi 147 W147:=bN Tryz.func147 W147
def W198:CW Tryz.f198:=by
 apply Subtype.mk;apply aF
 kernel_rfl
 conv=>lhs;cbv
theorem aUh:Fi 198 W198:=bN Tryz.func198 W198
def W227:{x // mkF Tryz.prog gv true Tryz.f227=some x}:=by
 apply Subtype.mk;apply aF
 kernel_rfl
 conv=>lhs;cbv
theorem aUj:FnIs Tryz.prog gv true 227 W227.1:=bQ Tryz.func227 (by kernel_rfl) W227.2
def W152:CW Tryz.f152:=by
 apply Subtype.mk;apply aF
 kernel_rfl
 conv=>lhs;cbv
theorem aUg:Fi 152 W152:=bN Tryz.func152 W152
def W57:CW Tryz.f57:=by
 apply Subtype.mk;apply aF
 kernel_rfl
 conv=>lhs;cbv
theorem bEh:Fi 57 W57:=bN Tryz.func57 W57
def W142:{x // mkF Tryz.prog gv true Tryz.f142=some x}:=by
 apply Subtype.mk;apply aF
 kernel_rfl
 conv=>lhs;cbv
theorem aYu:FnIs Tryz.prog gv true 142 W142.1:=bQ Tryz.func142 (by kernel_rfl) W142.2
def W196:CW Tryz.f196:=by
 apply Subtype.mk;apply aF
 kernel_rfl
 conv=>lhs;cbv
theorem aZz:Fi 196 W196:=bN Tryz.func196 W196
def W105:CW Tryz.f105:=by
 apply Subtype.mk;apply aF
 kernel_rfl
 conv=>lhs;cbv
theorem aXy:Fi 105 W105:=bN Tryz.func105 W105
def W54:CW Tryz.f54:=by
 apply Subtype.mk;apply aF
 kernel_rfl
 conv=>lhs;cbv
theorem bEf:Fi 54 W54:=bN Tryz.func54 W54
def W53:CW Tryz.f53:=by
 apply Subtype.mk;apply aF
 kernel_rfl
 conv=>lhs;cbv
theorem bEe:Fi 53 W53:=bN Tryz.func53 W53
def W103:CW Tryz.f103:=by
 apply Subtype.mk;apply aF
 kernel_rfl
 conv=>lhs;cbv
theorem aXw:Fi 103 W103:=bN Tryz.func103 W103
def W21:CW Tryz.f21:=by
 apply Subtype.mk;apply aF
 kernel_rfl
 conv=>lhs;cbv
theorem bDj:Fi 21 W21:=bN Tryz.func21 W21
end Go.Proofs.YtjiignefffdelaaGreatDoor
