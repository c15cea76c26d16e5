/-
  Parts of the proof of statement 4: KWn, KWo, KWp, KWq
-/
import Derived.Test.YtjiignefffdelaaGreatDoorA24
set_option maxRecDepth 100000
set_option maxHeartbeats 16000000
set_option linter.unusedVariables false
namespace Go.Proofs.YtjiignefffdelaaGreatDoor
open Go Go.Av
def W58:CW Tryz.f58:=by
 apply Subtype.mk;apply aF
 kernel_rfl
 conv=>lhs;cbv
theorem bEi:Fi 58 W58:=bN Tryz.func58 W58
def W25:CW Tryz.f25:=by
 apply Subtype.mk;apply aF
 kernel_rfl
 conv=>lhs;cbv
theorem bDm:Fi 25 W25:=bN Tryz.func25 W25
def W64:CW Tryz.f64:=by
 apply Subtype.mk;apply aF
 kernel_rfl
 conv=>lhs;cbv
theorem bEm:Fi 64 W64:=bN Tryz.func64 W64
def W113:CW Tryz.f113:=by
 apply Subtype.mk;apply aF
 kernel_rfl
 conv=>lhs;cbv
theorem aYb:Fi 113 W113:=bN Tryz.func113 W113
def W62:CW Tryz.f62:=by
 apply Subtype.mk;apply aF
 kernel_rfl
 conv=>lhs;cbv
theorem bEk:Fi 62 W62:=bN Tryz.func62 W62
def W63:CW Tryz.f63:=by
 apply Subtype.mk;apply aF
 kernel_rfl
 conv=>lhs;cbv
theorem bEl:Fi 63 W63:=bN Tryz.func63 W63
def W28:CW Tryz.f28:=by
 apply Subtype.mk;apply aF
 kernel_rfl
 conv=>lhs;cbv
theorem bDo:Fi 28 W28:=bN Tryz.func28 W28
def W27:CW Tryz.f27:=by
 apply Subtype.mk;apply aF
 kernel_rfl
 conv=>lhs;cbv
theorem bDn:Fi 27 W27:=bN Tryz.func27 W27
def W7:CW Tryz.f7:=by
 apply Subtype.mk;apply aF
 kernel_rfl
 conv=>lhs;cbv
theorem is7:Fi 7 W7:=bN Tryz.func7 W7
def W5:CW Tryz.f5:=by
 apply Subtype.mk;apply aF
 kernel_rfl
 conv=>lhs;cbv
theorem is5:Fi 5 W5:=bN Tryz.func5 W5
def W98:CW Tryz.f98:=by
 apply Subtype.mk;apply aF
 kernel_rfl
 conv=>lhs;cbv
theorem bFl:Fi 98 W98:=bN Tryz.func98 W98
def W100:CW Tryz.f100:=by
 apply Subtype.mk;apply aF
 kernel_rfl
 conv=>lhs;cbv
theorem aXu:Fi 100 W100:=bN Tryz.func100 W100
def W51:CW Tryz.f51:=by
 apply Subtype.mk;apply aF
 kernel_rfl
 conv=>lhs;cbv
theorem bEd:Fi 51 W51:=bN Tryz.func51 W51
def W82:CW Tryz.f82:=by
 apply Subtype.mk;apply aF
 kernel_rfl
 conv=>lhs;cbv
theorem bEz:Fi 82 W82:=bN Tryz.func82 W82
def W176:CW Tryz.f176:=by
 apply Subtype.mk;apply aF
 kernel_rfl
 conv=>lhs;cbv
theorem aZw:Fi 176 W176:=bN Tryz.func176 W176
def W67:CW Tryz.f67:=by
 apply Subtype.mk;apply aF
 kernel_rfl
 conv=>lhs;unfold mkX Tryz.f67;dsimp only;simp only[ax]
 conv in (occs:= *) copers _ _ _ _ _=>all_goals cbv
 (try simp only[Option.map_some])
 (try conv in (occs:= *) pairsOf _ _=>all_goals cbv)
 conv=>lhs;cbv
theorem bEo:Fi 67 W67:=bN Tryz.func67 W67
def W77:CW Tryz.f77:=by
 apply Subtype.mk;apply aF
 kernel_rfl
 conv=>lhs;cbv
theorem bEx:Fi 77 W77:=bN Tryz.func77 W77
def W74:CW Tryz.f74:=by
 apply Subtype.mk;apply aF
 kernel_rfl
 conv=>lhs;cbv
theorem bEu:Fi 74 W74:=bN Tryz.func74 W74
def W8:CW Tryz.f8:=by
 apply Subtype.mk;apply aF
 kernel_rfl
 conv=>lhs;cbv
theorem is8:Fi 8 W8:=bN Tryz.func8 W8
def W47:CW Tryz.f47:=by
 apply Subtype.mk;apply aF
 kernel_rfl
 conv=>lhs;cbv
theorem bDz:Fi 47 W47:=bN Tryz.func47 W47
def W18:CW Tryz.f18:=by
 apply Subtype.mk;apply aF
 kernel_rfl
 conv=>lhs;cbv
theorem bDh:Fi 18 W18:=bN Tryz.func18 W18
def W79:CW Tryz.f79:=by
 apply Subtype.mk;apply aF
 kernel_rfl
 conv=>lhs;cbv
theorem bEy:Fi 79 W79:=bN Tryz.func79 W79
def W16:CW Tryz.f16:=by
 apply Subtype.mk;apply aF
 kernel_rfl
 conv=>lhs;cbv
theorem bDf:Fi 16 W16:=bN Tryz.func16 W16
def W72:CW Tryz.f72:=by
 apply Subtype.mk;apply aF
 kernel_rfl
 conv=>lhs;cbv
theorem bEt:Fi 72 W72:=bN Tryz.func72 W72
def W30:CW Tryz.f30:=by
 apply Subtype.mk;apply aF
 kernel_rfl
 conv=>lhs;cbv
theorem bDq:Fi 30 W30:=bN Tryz.func30 W30
def W17:CW Tryz.f17:=by
 apply Subtype.mk;apply aF
 kernel_rfl
 conv=>lhs;cbv
theorem bDg:Fi 17 W17:=bN Tryz.func17 W17
def W139:CW Tryz.f139:=by
 apply Subtype.mk;apply aF
 kernel_rfl
 conv=>lhs;cbv
theorem aYr:Fi 139 W139:=bN Tryz.func139 W139
def W66:CW Tryz.f66:=by
 apply Subtype.mk;apply aF
 kernel_rfl
 conv=>lhs;cbv
theorem bBq:Fi 66 W66:=bN Tryz.func66 W66
def W76:CW Tryz.f76:=by
 apply Subtype.mk;apply aF
 kernel_rfl
 conv=>lhs;cbv
theorem bEw:Fi 76 W76:=bN Tryz.func76 W76
def W94:CW Tryz.f94:=by
 apply Subtype.mk;apply aF
 kernel_rfl
 conv=>lhs;cbv
theorem bFh:Fi 94 W94:=bN Tryz.func94 W94
def W29:CW Tryz.f29:=by
 apply Subtype.mk;apply aF
 kernel_rfl
 conv=>lhs;cbv
theorem bDp:Fi 29 W29:=bN Tryz.func29 W29
def W9:CW Tryz.f9:=by
 apply Subtype.mk;apply aF
 kernel_rfl
 conv=>lhs;cbv
theorem is9:Fi 9 W9:=bN Tryz.func9 W9
def W43:CW Tryz.f43:=by
 apply Subtype.mk;apply aF
 kernel_rfl
 conv=>lhs;cbv
theorem bDw:Fi 43 W43:=bN Tryz.func43 W43
def W14:CW Tryz.f14:=by
 apply Subtype.mk;apply aF
 kernel_rfl
 conv=>lhs;cbv
theorem bDd:Fi 14 W14:=bN Tryz.func14 W14
def W50:CW Tryz.f50:=by
 apply Subtype.mk;apply aF
 kernel_rfl
 conv=>lhs;cbv
theorem bEc:Fi 50 W50:=bN Tryz.func50 W50
def W216:CW Tryz.f216:=by
 apply Subtype.mk;apply aF
 kernel_rfl
 conv=>lhs;cbv
theorem bAp:Fi 216 W216:=bN Tryz.func216 W216
def W46:CW Tryz.f46:=by
 apply Subtype.mk;apply aF
 kernel_rfl
 conv=>lhs;cbv
theorem bDy:Fi 46 W46:=bN Tryz.func46 W46
def W125:CW Tryz.f125:=by
 apply Subtype.mk;apply aF
 kernel_rfl
 conv=>lhs;cbv
theorem aYm:Fi 125 W125:=bN Tryz.func125 W125
def W35:CW Tryz.f35:=by
 apply Subtype.mk;apply aF
 kernel_rfl
 conv=>lhs;cbv
theorem bDu:Fi 35 W35:=bN Tryz.func35 W35
def W174:CW Tryz.f174:=by
 apply Subtype.mk;apply aF
 kernel_rfl
 conv=>lhs;cbv
theorem aZu:Fi 174 W174:=bN Tryz.func174 W174
def W123:CW Tryz.f123:=by
 apply Subtype.mk;apply aF
 kernel_rfl
 conv=>lhs;cbv
theorem aYk:Fi 123 W123:=bN Tryz.func123 W123
def W32:CW Tryz.f32:=by
 apply Subtype.mk;apply aF
 kernel_rfl
 conv=>lhs;cbv
theorem bDr:Fi 32 W32:=bN Tryz.func32 W32
def W19:CW Tryz.f19:=by
 apply Subtype.mk;apply aF
 kernel_rfl
 conv=>lhs;cbv
theorem bDi:Fi 19 W19:=bN Tryz.func19 W19
def W10:CW Tryz.f10:=by
 apply Subtype.mk;apply aF
 kernel_rfl
 conv=>lhs;cbv
theorem bDb:Fi 10 W10:=bN Tryz.func10 W10
def W101:CW Tryz.f101:=by
 apply Subtype.mk;apply aF
 kernel_rfl
 conv=>lhs;cbv
theorem aXv:Fi 101 W101:=bN Tryz.func101 W101
def W93:CW Tryz.f93:=by
 apply Subtype.mk;apply aF
 kernel_rfl
 conv=>lhs;cbv
theorem bFg:Fi 93 W93:=bN Tryz.func93 W93
def W34:CW Tryz.f34:=by
 apply Subtype.mk;apply aF
 kernel_rfl
 conv=>lhs;cbv
theorem bDt:Fi 34 W34:=bN Tryz.func34 W34
def W68:CW Tryz.f68:=by
 apply Subtype.mk;apply aF
 kernel_rfl
 conv=>lhs;unfold mkX Tryz.f68;dsimp only;simp only[ax]
 conv in (occs:= *) copers _ _ _ _ _=>all_goals cbv
 (try simp only[Option.map_some])
 (try conv in (occs:= *) pairsOf _ _=>all_goals cbv)
 conv=>lhs;cbv
theorem bEp:Fi 68 W68:=bN Tryz.func68 W68
def W75:CW Tryz.f75:=by
 apply Subtype.mk;apply aF
 kernel_rfl
 conv=>lhs;cbv
theorem bEv:Fi 75 W75:=bN Tryz.func75 W75
def W33:CW Tryz.f33:=by
 apply Subtype.mk;apply aF
 kernel_rfl
 conv=>lhs;cbv
theorem bDs:Fi 33 W33:=bN Tryz.func33 W33
def W96:CW Tryz.f96:=by
 apply Subtype.mk;apply aF
 kernel_rfl
 conv=>lhs;cbv
theorem bFj:Fi 96 W96:=bN Tryz.func96 W96
def W95:CW Tryz.f95:=by
 apply Subtype.mk;apply aF
 kernel_rfl
 conv=>lhs;cbv
theorem bFi:Fi 95 W95:=bN Tryz.func95 W95
def W175:CW Tryz.f175:=by
 apply Subtype.mk;apply aF
 kernel_rfl
 conv=>lhs;cbv
theorem aZv:Fi 175 W175:=bN Tryz.func175 W175
def W45:CW Tryz.f45:=by
 apply Subtype.mk;apply aF
 kernel_rfl
 conv=>lhs;cbv
theorem bDx:Fi 45 W45:=bN Tryz.func45 W45
def W48:CW Tryz.f48:=by
 apply Subtype.mk;apply aF
 kernel_rfl
 conv=>lhs;cbv
theorem bEa:Fi 48 W48:=bN Tryz.func48 W48
def W122:CW Tryz.f122:=by
 apply Subtype.mk;apply aF
 kernel_rfl
 conv=>lhs;cbv
theorem aYj:Fi 122 W122:=bN Tryz.func122 W122
def W71:CW Tryz.f71:=by
 apply Subtype.mk;apply aF
 kernel_rfl
 conv=>lhs;cbv
theorem bEs:Fi 71 W71:=bN Tryz.func71 W71
def W124:CW Tryz.f124:=by
 apply Subtype.mk;apply aF
 kernel_rfl
 conv=>lhs;cbv
theorem aYl:Fi 124 W124:=bN Tryz.func124 W124
def W11:CW Tryz.f11:=by
 apply Subtype.mk;apply aF
 kernel_rfl
 conv=>lhs;cbv
theorem bDc:Fi 11 W11:=bN Tryz.func11 W11
end Go.Proofs.YtjiignefffdelaaGreatDoor
