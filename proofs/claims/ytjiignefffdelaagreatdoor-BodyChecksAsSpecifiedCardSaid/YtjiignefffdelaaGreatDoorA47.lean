/-
  Parts of the proof of statement 4: KWr, KWs, KWt
-/
import Derived.Test.YtjiignefffdelaaGreatDoorA45
set_option maxRecDepth 100000
set_option maxHeartbeats 16000000
set_option linter.unusedVariables false
namespace Go.Proofs.YtjiignefffdelaaGreatDoor
open Go Go.Av
def W134T:{x // mkF Tryz.prog gvT false Tryz.f134=some x}:=by
 apply Subtype.mk;apply aF
 kernel_rfl
 conv=>lhs;cbv
theorem aVg:FnIs Tryz.prog gvT false 134 W134T.1:=bQ Tryz.func134 (by kernel_rfl) W134T.2
def W184T:{x // mkF Tryz.prog gvT false Tryz.f184=some x}:=by
 apply Subtype.mk;apply aF
 kernel_rfl
 conv=>lhs;cbv
theorem aVj:FnIs Tryz.prog gvT false 184 W184T.1:=bQ Tryz.func184 (by kernel_rfl) W184T.2
def W222T:{x // mkF Tryz.prog gvT false Tryz.f222=some x}:=by
 apply Subtype.mk;apply aF
 kernel_rfl
 conv=>lhs;cbv
theorem aVk:FnIs Tryz.prog gvT false 222 W222T.1:=bQ Tryz.func222 (by kernel_rfl) W222T.2
def W251T:{x // mkF Tryz.prog gvT false Tryz.f251=some x}:=by
 apply Subtype.mk;apply aF
 kernel_rfl
 conv=>lhs;cbv
theorem aVm:FnIs Tryz.prog gvT false 251 W251T.1:=bQ Tryz.func251 (by kernel_rfl) W251T.2
def W252T:{x // mkF Tryz.prog gvT false Tryz.f252=some x}:=by
 apply Subtype.mk;apply aF
 kernel_rfl
 conv=>lhs;cbv
theorem aVn:FnIs Tryz.prog gvT false 252 W252T.1:=bQ Tryz.func252 (by kernel_rfl) W252T.2
def W253T:{x // mkF Tryz.prog gvT false Tryz.f253=some x}:=by
 apply Subtype.mk;apply aF
 kernel_rfl
 conv=>lhs;unfold mkX Tryz.f253;dsimp only;simp only[ax]
 conv in (occs:= *) copers _ _ _ _ _=>all_goals cbv
 (try simp only[Option.map_some])
 (try conv in (occs:= *) pairsOf _ _=>all_goals cbv)
 conv=>lhs;cbv
theorem aVo:FnIs Tryz.prog gvT false 253 W253T.1:=bQ Tryz.func253 (by kernel_rfl) W253T.2
def W87T:{x // mkF Tryz.prog gvT false Tryz.f87=some x}:=by
 apply Subtype.mk;apply aF
 kernel_rfl
 conv=>lhs;cbv
theorem bBt:FnIs Tryz.prog gvT false 87 W87T.1:=bQ Tryz.func87 (by kernel_rfl) W87T.2
def W133T:{x // mkF Tryz.prog gvT false Tryz.f133=some x}:=by
 apply Subtype.mk;apply aF
 kernel_rfl
 conv=>lhs;cbv
theorem aVf:FnIs Tryz.prog gvT false 133 W133T.1:=bQ Tryz.func133 (by kernel_rfl) W133T.2
def W88T:{x // mkF Tryz.prog gvT false Tryz.f88=some x}:=by
 apply Subtype.mk;apply aF
 kernel_rfl
 conv=>lhs;cbv
theorem bBu:FnIs Tryz.prog gvT false 88 W88T.1:=bQ Tryz.func88 (by kernel_rfl) W88T.2
def W137T:{x // mkF Tryz.prog gvT false Tryz.f137=some x}:=by
 apply Subtype.mk;apply aF
 kernel_rfl
 conv=>lhs;cbv
theorem aVi:FnIs Tryz.prog gvT false 137 W137T.1:=bQ Tryz.func137 (by kernel_rfl) W137T.2
def W136T:{x // mkF Tryz.prog gvT false Tryz.f136=some x}:=by
 apply Subtype.mk;apply aF
 kernel_rfl
 conv=>lhs;cbv
theorem aVh:FnIs Tryz.prog gvT false 136 W136T.1:=bQ Tryz.func136 (by kernel_rfl) W136T.2
def W41T:{x // mkF Tryz.prog gvT false Tryz.f41=some x}:=by
 apply Subtype.mk;apply aF
 kernel_rfl
 conv=>lhs;cbv
theorem bBi:FnIs Tryz.prog gvT false 41 W41T.1:=bQ Tryz.func41 (by kernel_rfl) W41T.2
def W13T:{x // mkF Tryz.prog gvT false Tryz.f13=some x}:=by
 apply Subtype.mk;apply aF
 kernel_rfl
 conv=>lhs;cbv
theorem aYs:FnIs Tryz.prog gvT false 13 W13T.1:=bQ Tryz.func13 (by kernel_rfl) W13T.2
def W39T:{x // mkF Tryz.prog gvT false Tryz.f39=some x}:=by
 apply Subtype.mk;apply aF
 kernel_rfl
 conv=>lhs;cbv
theorem bBh:FnIs Tryz.prog gvT false 39 W39T.1:=bQ Tryz.func39 (by kernel_rfl) W39T.2
def W12T:{x // mkF Tryz.prog gvT false Tryz.f12=some x}:=by
 apply Subtype.mk;apply aF
 kernel_rfl
 conv=>lhs;cbv
theorem aYn:FnIs Tryz.prog gvT false 12 W12T.1:=bQ Tryz.func12 (by kernel_rfl) W12T.2
def W37T:{x // mkF Tryz.prog gvT false Tryz.f37=some x}:=by
 apply Subtype.mk;apply aF
 kernel_rfl
 conv=>lhs;cbv
theorem bBf:FnIs Tryz.prog gvT false 37 W37T.1:=bQ Tryz.func37 (by kernel_rfl) W37T.2
def W80T:{x // mkF Tryz.prog gvT false Tryz.f80=some x}:=by
 apply Subtype.mk;apply aF
 kernel_rfl
 conv=>lhs;cbv
theorem bBr:FnIs Tryz.prog gvT false 80 W80T.1:=bQ Tryz.func80 (by kernel_rfl) W80T.2
def W38T:{x // mkF Tryz.prog gvT false Tryz.f38=some x}:=by
 apply Subtype.mk;apply aF
 kernel_rfl
 conv=>lhs;cbv
theorem bBg:FnIs Tryz.prog gvT false 38 W38T.1:=bQ Tryz.func38 (by kernel_rfl) W38T.2
def W81T:{x // mkF Tryz.prog gvT false Tryz.f81=some x}:=by
 apply Subtype.mk;apply aF
 kernel_rfl
 conv=>lhs;cbv
theorem bBs:FnIs Tryz.prog gvT false 81 W81T.1:=bQ Tryz.func81 (by kernel_rfl) W81T.2
def W129T:{x // mkF Tryz.prog gvT false Tryz.f129=some x}:=by
 apply Subtype.mk;apply aF
 kernel_rfl
 conv=>lhs;cbv
theorem aVe:FnIs Tryz.prog gvT false 129 W129T.1:=bQ Tryz.func129 (by kernel_rfl) W129T.2
def W20T:{x // mkF Tryz.prog gvT false Tryz.f20=some x}:=by
 apply Subtype.mk;apply aF
 kernel_rfl
 conv=>lhs;cbv
theorem bAi:FnIs Tryz.prog gvT false 20 W20T.1:=bQ Tryz.func20 (by kernel_rfl) W20T.2
def W52T:{x // mkF Tryz.prog gvT false Tryz.f52=some x}:=by
 apply Subtype.mk;apply aF
 kernel_rfl
 conv=>lhs;cbv
theorem bBm:FnIs Tryz.prog gvT false 52 W52T.1:=bQ Tryz.func52 (by kernel_rfl) W52T.2
def W102T:{x // mkF Tryz.prog gvT false Tryz.f102=some x}:=by
 apply Subtype.mk;apply aF
 kernel_rfl
 conv=>lhs;cbv
theorem aVd:FnIs Tryz.prog gvT false 102 W102T.1:=bQ Tryz.func102 (by kernel_rfl) W102T.2
def W4T:{x // mkF Tryz.prog gvT false Tryz.f4=some x}:=by
 apply Subtype.mk;apply aF
 kernel_rfl
 conv=>lhs;unfold mkX Tryz.f4;dsimp only;simp only[ax]
 conv in (occs:= *) copers _ _ _ _ _=>all_goals cbv
 (try simp only[Option.map_some])
 (try conv in (occs:= *) pairsOf _ _=>all_goals cbv)
 conv=>lhs;cbv
theorem bEb:FnIs Tryz.prog gvT false 4 W4T.1:=bQ Tryz.func4 (by kernel_rfl) W4T.2
def W3T:{x // mkF Tryz.prog gvT false Tryz.f3=some x}:=by
 apply Subtype.mk;apply aF
 kernel_rfl
 conv=>lhs;cbv
theorem bDv:FnIs Tryz.prog gvT false 3 W3T.1:=bQ Tryz.func3 (by kernel_rfl) W3T.2
def W237T:{x // mkF Tryz.prog gvT false Tryz.f237=some x}:=by
 apply Subtype.mk;apply aF
 kernel_rfl
 conv=>lhs;cbv
theorem aVl:FnIs Tryz.prog gvT false 237 W237T.1:=bQ Tryz.func237 (by kernel_rfl) W237T.2
def W281T:{x // mkF Tryz.prog gvT false Tryz.f281=some x}:=by
 apply Subtype.mk;apply aF
 kernel_rfl
 conv=>lhs;cbv
theorem aVp:FnIs Tryz.prog gvT false 281 W281T.1:=bQ Tryz.func281 (by kernel_rfl) W281T.2
def W282T:{x // mkF Tryz.prog gvT false Tryz.f282=some x}:=by
 apply Subtype.mk;apply aF
 kernel_rfl
 conv=>lhs;cbv
theorem aVq:FnIs Tryz.prog gvT false 282 W282T.1:=bQ Tryz.func282 (by kernel_rfl) W282T.2
end Go.Proofs.YtjiignefffdelaaGreatDoor
