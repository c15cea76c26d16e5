/-
  Part of the proof of statement 5
-/
import Derived.Test.YtbndcmnnbiiobaaGreatDoorA16
set_option maxRecDepth 100000
set_option maxHeartbeats 16000000
set_option linter.unusedVariables false
namespace Go.Proofs.YtbndcmnnbiiobaaGreatDoor
open Go Go.Av
def ym:{x // wP Tryz.prog hU false Tryz.f134=some x}:=⟨_,cT⟩
theorem aSx:fN Tryz.prog hU false 134 ym.1:=dG Tryz.func134 (by kernel_rfl) ym.2
def yq:{x // wP Tryz.prog hU false Tryz.f174=some x}:=⟨_,cT⟩
theorem aSz:fN Tryz.prog hU false 174 yq.1:=dG Tryz.func174 (by kernel_rfl) yq.2
def yz:{x // wP Tryz.prog hU false Tryz.f219=some x}:=⟨_,cT⟩
theorem aTa:fN Tryz.prog hU false 219 yz.1:=dG Tryz.func219 (by kernel_rfl) yz.2
def y6:{x // wP Tryz.prog hU false Tryz.f240=some x}:=⟨_,cT⟩
theorem aTb:fN Tryz.prog hU false 240 y6.1:=dG Tryz.func240 (by kernel_rfl) y6.2
def za:{x // wP Tryz.prog hU false Tryz.f241=some x}:=⟨_,cT⟩
theorem aTc:fN Tryz.prog hU false 241 za.1:=dG Tryz.func241 (by kernel_rfl) za.2
def zb:{x // wP Tryz.prog hU false Tryz.f242=some x}:=by
 apply Subtype.mk;apply BW
 kernel_rfl
 conv=>lhs;unfold mkX Tryz.f242;dsimp only;simp only[ax]
 conv in (occs:= *) gM _ _ _ _ _=>all_goals cbv
 (try simp only[Bt])
 (try conv in (occs:= *) kK _ _=>all_goals cbv)
 conv=>lhs;cbv
theorem aTd:fN Tryz.prog hU false 242 zb.1:=dG Tryz.func242 (by kernel_rfl) zb.2
def aQl:{x // wP Tryz.prog hU false Tryz.f73=some x}:=⟨_,cT⟩
theorem bBo:fN Tryz.prog hU false 73 aQl.1:=dG Tryz.func73 (by kernel_rfl) aQl.2
def di:{x // wP Tryz.prog hU false Tryz.f133=some x}:=⟨_,cT⟩
theorem aBs:fN Tryz.prog hU false 133 di.1:=dG Tryz.func133 (by kernel_rfl) di.2
def aQo:{x // wP Tryz.prog hU false Tryz.f80=some x}:=⟨_,cT⟩
theorem bBr:fN Tryz.prog hU false 80 aQo.1:=dG Tryz.func80 (by kernel_rfl) aQo.2
def yp:{x // wP Tryz.prog hU false Tryz.f142=some x}:=⟨_,cT⟩
theorem aSy:fN Tryz.prog hU false 142 yp.1:=dG Tryz.func142 (by kernel_rfl) yp.2
def dj:{x // wP Tryz.prog hU false Tryz.f136=some x}:=⟨_,cT⟩
theorem aBt:fN Tryz.prog hU false 136 dj.1:=dG Tryz.func136 (by kernel_rfl) dj.2
def aFz:{x // wP Tryz.prog hU false Tryz.f34=some x}:=⟨_,cT⟩
theorem aMd:fN Tryz.prog hU false 34 aFz.1:=dG Tryz.func34 (by kernel_rfl) aFz.2
def W9T:{x // wP Tryz.prog hU false Tryz.f9=some x}:=⟨_,cT⟩
theorem bBx:fN Tryz.prog hU false 9 W9T.1:=dG Tryz.func9 (by kernel_rfl) W9T.2
def YY:{x // wP Tryz.prog hU false Tryz.f13=some x}:=⟨_,cT⟩
theorem aBu:fN Tryz.prog hU false 13 YY.1:=dG Tryz.func13 (by kernel_rfl) YY.2
def W4T:{x // wP Tryz.prog hU false Tryz.f4=some x}:=⟨_,cT⟩
theorem bBj:fN Tryz.prog hU false 4 W4T.1:=dG Tryz.func4 (by kernel_rfl) W4T.2
def aFl:{x // wP Tryz.prog hU false Tryz.f11=some x}:=⟨_,cT⟩
theorem aLp:fN Tryz.prog hU false 11 aFl.1:=dG Tryz.func11 (by kernel_rfl) aFl.2
def aGa:{x // wP Tryz.prog hU false Tryz.f35=some x}:=⟨_,cT⟩
theorem aMe:fN Tryz.prog hU false 35 aGa.1:=dG Tryz.func35 (by kernel_rfl) aGa.2
def aNs:{x // wP Tryz.prog hU false Tryz.f12=some x}:=⟨_,cT⟩
theorem aYk:fN Tryz.prog hU false 12 aNs.1:=dG Tryz.func12 (by kernel_rfl) aNs.2
def aQk:{x // wP Tryz.prog hU false Tryz.f36=some x}:=⟨_,cT⟩
theorem bBf:fN Tryz.prog hU false 36 aQk.1:=dG Tryz.func36 (by kernel_rfl) aQk.2
def aQn:{x // wP Tryz.prog hU false Tryz.f77=some x}:=⟨_,cT⟩
theorem bBq:fN Tryz.prog hU false 77 aQn.1:=dG Tryz.func77 (by kernel_rfl) aQn.2
def W6T:{x // wP Tryz.prog hU false Tryz.f6=some x}:=⟨_,cT⟩
theorem bBn:fN Tryz.prog hU false 6 W6T.1:=dG Tryz.func6 (by kernel_rfl) W6T.2
def yy:{x // wP Tryz.prog hU false Tryz.f20=some x}:=⟨_,cT⟩
theorem aBw:fN Tryz.prog hU false 20 yy.1:=dG Tryz.func20 (by kernel_rfl) yy.2
def aGb:{x // wP Tryz.prog hU false Tryz.f49=some x}:=⟨_,cT⟩
theorem aMf:fN Tryz.prog hU false 49 aGb.1:=dG Tryz.func49 (by kernel_rfl) aGb.2
def W8T:{x // wP Tryz.prog hU false Tryz.f8=some x}:=by
 apply Subtype.mk;apply BW
 kernel_rfl
 conv=>lhs;unfold mkX Tryz.f8;dsimp only;simp only[ax]
 conv in (occs:= *) gM _ _ _ _ _=>all_goals cbv
 (try simp only[Bt])
 (try conv in (occs:= *) kK _ _=>all_goals cbv)
 conv=>lhs;cbv
theorem bIn:fN Tryz.prog hU false 8 W8T.1:=dG Tryz.func8 (by kernel_rfl) W8T.2
def W3T:{x // wP Tryz.prog hU false Tryz.f3=some x}:=⟨_,cT⟩
theorem bHh:fN Tryz.prog hU false 3 W3T.1:=dG Tryz.func3 (by kernel_rfl) W3T.2
def zc:{x // wP Tryz.prog hU false Tryz.f254=some x}:=⟨_,cT⟩
theorem aTe:fN Tryz.prog hU false 254 zc.1:=dG Tryz.func254 (by kernel_rfl) zc.2
def zd:{x // wP Tryz.prog hU false Tryz.f272=some x}:=⟨_,cT⟩
theorem aTf:fN Tryz.prog hU false 272 zd.1:=dG Tryz.func272 (by kernel_rfl) zd.2
def ze:{x // wP Tryz.prog hU false Tryz.f273=some x}:=⟨_,cT⟩
theorem aTg:fN Tryz.prog hU false 273 ze.1:=dG Tryz.func273 (by kernel_rfl) ze.2
end Go.Proofs.YtbndcmnnbiiobaaGreatDoor
