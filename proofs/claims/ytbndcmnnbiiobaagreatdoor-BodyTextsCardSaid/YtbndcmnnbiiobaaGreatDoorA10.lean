/-
  Part of the proof of statement 5
-/
import Derived.Test.YtbndcmnnbiiobaaGreatDoorA07
set_option maxRecDepth 100000
set_option maxHeartbeats 16000000
set_option linter.unusedVariables false
namespace Go.Proofs.YtbndcmnnbiiobaaGreatDoor
open Go Go.Av
def aPc:CW Tryz.f199:=⟨_,cT⟩
theorem aZw:Fi 199 aPc:=dC Tryz.func199 aPc
def aPr:CW Tryz.f232:=⟨_,cT⟩
theorem bAm:Fi 232 aPr:=dC Tryz.func232 aPr
def aPb:CW Tryz.f198:=⟨_,cT⟩
theorem aZv:Fi 198 aPb:=dC Tryz.func198 aPb
def aPe:CW Tryz.f201:=⟨_,cT⟩
theorem aZy:Fi 201 aPe:=dC Tryz.func201 aPe
def aPd:CW Tryz.f200:=⟨_,cT⟩
theorem aZx:Fi 200 aPd:=dC Tryz.func200 aPd
def aPf:CW Tryz.f202:=⟨_,cT⟩
theorem aZz:Fi 202 aPf:=dC Tryz.func202 aPf
def aQj:CW Tryz.f292:=⟨_,cT⟩
theorem bBe:Fi 292 aQj:=dC Tryz.func292 aQj
def aQc:CW Tryz.f259:=⟨_,cT⟩
theorem bAx:Fi 259 aQc:=dC Tryz.func259 aQc
def aPt:CW Tryz.f234:=⟨_,cT⟩
theorem bAo:Fi 234 aPt:=dC Tryz.func234 aPt
def aPg:CW Tryz.f203:=⟨_,cT⟩
theorem bAa:Fi 203 aPg:=dC Tryz.func203 aPg
def aFp:CW Tryz.f151:=⟨_,cT⟩
theorem aLt:Fi 151 aFp:=dC Tryz.func151 aFp
def aFq:CW Tryz.f152:=⟨_,cT⟩
theorem aLu:Fi 152 aFq:=dC Tryz.func152 aFq
def W93:CW Tryz.f93:=⟨_,cT⟩
theorem bBv:Fi 93 W93:=dC Tryz.func93 W93
def W94:CW Tryz.f94:=⟨_,cT⟩
theorem bIr:Fi 94 W94:=dC Tryz.func94 W94
def W45:CW Tryz.f45:=⟨_,cT⟩
theorem bBi:Fi 45 W45:=dC Tryz.func45 W45
def W95:CW Tryz.f95:=⟨_,cT⟩
theorem bBw:Fi 95 W95:=dC Tryz.func95 W95
def aOc:CW Tryz.f154:=⟨_,cT⟩
theorem aYv:Fi 154 aOc:=dC Tryz.func154 aOc
def W92:CW Tryz.f92:=⟨_,cT⟩
theorem bIq:Fi 92 W92:=dC Tryz.func92 W92
def W44:CW Tryz.f44:=⟨_,cT⟩
theorem bHk:Fi 44 W44:=dC Tryz.func44 W44
def W98:CW Tryz.f98:=⟨_,cT⟩
theorem bIu:Fi 98 W98:=dC Tryz.func98 W98
def aOb:CW Tryz.f153:=⟨_,cT⟩
theorem aYu:Fi 153 aOb:=dC Tryz.func153 aOb
def W96:CW Tryz.f96:=⟨_,cT⟩
theorem bIs:Fi 96 W96:=dC Tryz.func96 W96
def W97:CW Tryz.f97:=⟨_,cT⟩
theorem bIt:Fi 97 W97:=dC Tryz.func97 W97
def W47:CW Tryz.f47:=⟨_,cT⟩
theorem bHm:Fi 47 W47:=dC Tryz.func47 W47
def W46:CW Tryz.f46:=⟨_,cT⟩
theorem bHl:Fi 46 W46:=dC Tryz.func46 W46
def W18:CW Tryz.f18:=⟨_,cT⟩
theorem aZj:Fi 18 W18:=dC Tryz.func18 W18
def W21:CW Tryz.f21:=⟨_,cT⟩
theorem bAh:Fi 21 W21:=dC Tryz.func21 W21
def aNk:CW Tryz.f122:=⟨_,cT⟩
theorem aYc:Fi 122 aNk:=dC Tryz.func122 aNk
def aNm:CW Tryz.f124:=⟨_,cT⟩
theorem aYe:Fi 124 aNm:=dC Tryz.func124 aNm
def W66:CW Tryz.f66:=⟨_,cT⟩
theorem bIa:Fi 66 W66:=dC Tryz.func66 W66
def W37:CW Tryz.f37:=⟨_,cT⟩
theorem bBg:Fi 37 W37:=dC Tryz.func37 W37
def aPl:CW Tryz.f208:=⟨_,cT⟩
theorem bAf:Fi 208 aPl:=dC Tryz.func208 aPl
def aMs:CW Tryz.f102:=by
 apply Subtype.mk;apply BW
 kernel_rfl
 conv=>lhs;unfold mkX Tryz.f102;dsimp only;simp only[ax]
 conv in (occs:= *) gM _ _ _ _ _=>all_goals cbv
 (try simp only[Bt])
 (try conv in (occs:= *) kK _ _=>all_goals cbv)
 conv=>lhs;cbv
theorem aXk:Fi 102 aMs:=dC Tryz.func102 aMs
def aNa:CW Tryz.f111:=⟨_,cT⟩
theorem aXs:Fi 111 aNa:=dC Tryz.func111 aNa
def aMx:CW Tryz.f108:=⟨_,cT⟩
theorem aXp:Fi 108 aMx:=dC Tryz.func108 aMx
def W22:CW Tryz.f22:=⟨_,cT⟩
theorem bGu:Fi 22 W22:=dC Tryz.func22 W22
def W62:CW Tryz.f62:=⟨_,cT⟩
theorem bHx:Fi 62 W62:=dC Tryz.func62 W62
def W30:CW Tryz.f30:=⟨_,cT⟩
theorem bHc:Fi 30 W30:=dC Tryz.func30 W30
def aNb:CW Tryz.f113:=⟨_,cT⟩
theorem aXt:Fi 113 aNb:=dC Tryz.func113 aNb
def W28:CW Tryz.f28:=⟨_,cT⟩
theorem bHa:Fi 28 W28:=dC Tryz.func28 W28
def aMw:CW Tryz.f106:=⟨_,cT⟩
theorem aXo:Fi 106 aMw:=dC Tryz.func106 aMw
def W51:CW Tryz.f51:=⟨_,cT⟩
theorem bHp:Fi 51 W51:=dC Tryz.func51 W51
def W29:CW Tryz.f29:=⟨_,cT⟩
theorem bHb:Fi 29 W29:=dC Tryz.func29 W29
end Go.Proofs.YtbndcmnnbiiobaaGreatDoor
