/-
  Parts of the proof of statement 4: KWo, KWp, KWq
-/
import Derived.Test.YtjiignefffdelaaGreatDoorA23
set_option maxRecDepth 100000
set_option maxHeartbeats 16000000
set_option cbv.maxSteps 100000000
set_option linter.unusedVariables false
namespace Go.Proofs.YtjiignefffdelaaGreatDoor
open Go Go.Av
def W98:CW Tryz.f98:=by
 apply Subtype.mk
 conv=>lhs;cbv
theorem is98:Fi 98 W98:=bM Tryz.func98 W98
def W100:CW Tryz.f100:=by
 apply Subtype.mk
 conv=>lhs;cbv
theorem is100:Fi 100 W100:=bM Tryz.func100 W100
def W51:CW Tryz.f51:=by
 apply Subtype.mk
 conv=>lhs;cbv
theorem is51:Fi 51 W51:=bM Tryz.func51 W51
def W82:CW Tryz.f82:=by
 apply Subtype.mk
 conv=>lhs;cbv
theorem is82:Fi 82 W82:=bM Tryz.func82 W82
def W176:CW Tryz.f176:=by
 apply Subtype.mk
 conv=>lhs;cbv
theorem is176:Fi 176 W176:=bM Tryz.func176 W176
def W67:CW Tryz.f67:=by
 apply Subtype.mk
 conv=>lhs;cbv
theorem is67:Fi 67 W67:=bM Tryz.func67 W67
def W77:CW Tryz.f77:=by
 apply Subtype.mk
 conv=>lhs;cbv
theorem is77:Fi 77 W77:=bM Tryz.func77 W77
def W74:CW Tryz.f74:=by
 apply Subtype.mk
 conv=>lhs;cbv
theorem is74:Fi 74 W74:=bM Tryz.func74 W74
def W8:CW Tryz.f8:=by
 apply Subtype.mk
 conv=>lhs;cbv
theorem is8:Fi 8 W8:=bM Tryz.func8 W8
def W47:CW Tryz.f47:=by
 apply Subtype.mk
 conv=>lhs;cbv
theorem is47:Fi 47 W47:=bM Tryz.func47 W47
def W18:CW Tryz.f18:=by
 apply Subtype.mk
 conv=>lhs;cbv
theorem is18:Fi 18 W18:=bM Tryz.func18 W18
def W79:CW Tryz.f79:=by
 apply Subtype.mk
 conv=>lhs;cbv
theorem is79:Fi 79 W79:=bM Tryz.func79 W79
def W16:CW Tryz.f16:=by
 apply Subtype.mk
 conv=>lhs;cbv
theorem is16:Fi 16 W16:=bM Tryz.func16 W16
def W72:CW Tryz.f72:=by
 apply Subtype.mk
 conv=>lhs;cbv
theorem is72:Fi 72 W72:=bM Tryz.func72 W72
def W30:CW Tryz.f30:=by
 apply Subtype.mk
 conv=>lhs;cbv
theorem is30:Fi 30 W30:=bM Tryz.func30 W30
def W17:CW Tryz.f17:=by
 apply Subtype.mk
 conv=>lhs;cbv
theorem is17:Fi 17 W17:=bM Tryz.func17 W17
def W139:CW Tryz.f139:=by
 apply Subtype.mk
 conv=>lhs;cbv
theorem is139:Fi 139 W139:=bM Tryz.func139 W139
def W66:CW Tryz.f66:=by
 apply Subtype.mk
 conv=>lhs;cbv
theorem is66:Fi 66 W66:=bM Tryz.func66 W66
def W76:CW Tryz.f76:=by
 apply Subtype.mk
 conv=>lhs;cbv
theorem is76:Fi 76 W76:=bM Tryz.func76 W76
def W94:CW Tryz.f94:=by
 apply Subtype.mk
 conv=>lhs;cbv
theorem is94:Fi 94 W94:=bM Tryz.func94 W94
def W29:CW Tryz.f29:=by
 apply Subtype.mk
 conv=>lhs;cbv
theorem is29:Fi 29 W29:=bM Tryz.func29 W29
def W9:CW Tryz.f9:=by
 apply Subtype.mk
 conv=>lhs;cbv
theorem is9:Fi 9 W9:=bM Tryz.func9 W9
def W43:CW Tryz.f43:=by
 apply Subtype.mk
 conv=>lhs;cbv
theorem is43:Fi 43 W43:=bM Tryz.func43 W43
def W14:CW Tryz.f14:=by
 apply Subtype.mk
 conv=>lhs;cbv
theorem is14:Fi 14 W14:=bM Tryz.func14 W14
def W50:CW Tryz.f50:=by
 apply Subtype.mk
 conv=>lhs;cbv
theorem is50:Fi 50 W50:=bM Tryz.func50 W50
def W216:CW Tryz.f216:=by
 apply Subtype.mk
 conv=>lhs;cbv
theorem is216:Fi 216 W216:=bM Tryz.func216 W216
def W46:CW Tryz.f46:=by
 apply Subtype.mk
 conv=>lhs;cbv
theorem is46:Fi 46 W46:=bM Tryz.func46 W46
def W125:CW Tryz.f125:=by
 apply Subtype.mk
 conv=>lhs;cbv
theorem is125:Fi 125 W125:=bM Tryz.func125 W125
def W35:CW Tryz.f35:=by
 apply Subtype.mk
 conv=>lhs;cbv
theorem is35:Fi 35 W35:=bM Tryz.func35 W35
def W174:CW Tryz.f174:=by
 apply Subtype.mk
 conv=>lhs;cbv
theorem is174:Fi 174 W174:=bM Tryz.func174 W174
def W123:CW Tryz.f123:=by
 apply Subtype.mk
 conv=>lhs;cbv
theorem is123:Fi 123 W123:=bM Tryz.func123 W123
def W32:CW Tryz.f32:=by
 apply Subtype.mk
 conv=>lhs;cbv
theorem is32:Fi 32 W32:=bM Tryz.func32 W32
def W19:CW Tryz.f19:=by
 apply Subtype.mk
 conv=>lhs;cbv
theorem is19:Fi 19 W19:=bM Tryz.func19 W19
def W10:CW Tryz.f10:=by
 apply Subtype.mk
 conv=>lhs;cbv
theorem is10:Fi 10 W10:=bM Tryz.func10 W10
def W101:CW Tryz.f101:=by
 apply Subtype.mk
 conv=>lhs;cbv
theorem is101:Fi 101 W101:=bM Tryz.func101 W101
def W93:CW Tryz.f93:=by
 apply Subtype.mk
 conv=>lhs;cbv
theorem is93:Fi 93 W93:=bM Tryz.func93 W93
def W34:CW Tryz.f34:=by
 apply Subtype.mk
 conv=>lhs;cbv
theorem is34:Fi 34 W34:=bM Tryz.func34 W34
def W68:CW Tryz.f68:=by
 apply Subtype.mk
 conv=>lhs;cbv
theorem is68:Fi 68 W68:=bM Tryz.func68 W68
def W75:CW Tryz.f75:=by
 apply Subtype.mk
 conv=>lhs;cbv
theorem is75:Fi 75 W75:=bM Tryz.func75 W75
def W33:CW Tryz.f33:=by
 apply Subtype.mk
 conv=>lhs;cbv
theorem is33:Fi 33 W33:=bM Tryz.func33 W33
def W96:CW Tryz.f96:=by
 apply Subtype.mk
 conv=>lhs;cbv
theorem is96:Fi 96 W96:=bM Tryz.func96 W96
def W95:CW Tryz.f95:=by
 apply Subtype.mk
 conv=>lhs;cbv
theorem is95:Fi 95 W95:=bM Tryz.func95 W95
def W175:CW Tryz.f175:=by
 apply Subtype.mk
 conv=>lhs;cbv
theorem is175:Fi 175 W175:=bM Tryz.func175 W175
def W45:CW Tryz.f45:=by
 apply Subtype.mk
 conv=>lhs;cbv
theorem is45:Fi 45 W45:=bM Tryz.func45 W45
def W48:CW Tryz.f48:=by
 apply Subtype.mk
 conv=>lhs;cbv
theorem is48:Fi 48 W48:=bM Tryz.func48 W48
def W122:CW Tryz.f122:=by
 apply Subtype.mk
 conv=>lhs;cbv
theorem is122:Fi 122 W122:=bM Tryz.func122 W122
def W71:CW Tryz.f71:=by
 apply Subtype.mk
 conv=>lhs;cbv
theorem is71:Fi 71 W71:=bM Tryz.func71 W71
def W124:CW Tryz.f124:=by
 apply Subtype.mk
 conv=>lhs;cbv
theorem is124:Fi 124 W124:=bM Tryz.func124 W124
def W11:CW Tryz.f11:=by
 apply Subtype.mk
 conv=>lhs;cbv
theorem is11:Fi 11 W11:=bM Tryz.func11 W11
end Go.Proofs.YtjiignefffdelaaGreatDoor
