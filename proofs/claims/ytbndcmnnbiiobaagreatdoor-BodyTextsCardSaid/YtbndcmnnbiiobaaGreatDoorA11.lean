/-
  Part of the proof of statement 5
-/
import Derived.Test.YtbndcmnnbiiobaaGreatDoorA07
set_option maxRecDepth 100000
set_option maxHeartbeats 16000000
set_option linter.unusedVariables false
namespace Go.Proofs.YtbndcmnnbiiobaaGreatDoor
open Go Go.Av
def aOl:CW Tryz.f164:=⟨_,cT⟩
theorem aZe:Fi 164 aOl:=dC Tryz.func164 aOl
def aFk:CW Tryz.f101:=⟨_,cT⟩
theorem aLo:Fi 101 aFk:=dC Tryz.func101 aFk
def aMz:CW Tryz.f110:=⟨_,cT⟩
theorem aXr:Fi 110 aMz:=dC Tryz.func110 aMz
def aNg:CW Tryz.f118:=⟨_,cT⟩
theorem aXy:Fi 118 aNg:=dC Tryz.func118 aNg
def W50:CW Tryz.f50:=⟨_,cT⟩
theorem bHo:Fi 50 W50:=dC Tryz.func50 W50
def W23:CW Tryz.f23:=⟨_,cT⟩
theorem bGv:Fi 23 W23:=dC Tryz.func23 W23
def W58:CW Tryz.f58:=⟨_,cT⟩
theorem bHu:Fi 58 W58:=dC Tryz.func58 W58
def W26:CW Tryz.f26:=⟨_,cT⟩
theorem bGy:Fi 26 W26:=dC Tryz.func26 W26
def W65:CW Tryz.f65:=⟨_,cT⟩
theorem bHz:Fi 65 W65:=dC Tryz.func65 W65
def aPx:CW Tryz.f238:=⟨_,cT⟩
theorem bAs:Fi 238 aPx:=dC Tryz.func238 aPx
def W61:CW Tryz.f61:=⟨_,cT⟩
theorem bHw:Fi 61 W61:=dC Tryz.func61 W61
def aOj:CW Tryz.f162:=⟨_,cT⟩
theorem aZc:Fi 162 aOj:=dC Tryz.func162 aOj
def W56:CW Tryz.f56:=⟨_,cT⟩
theorem bHt:Fi 56 W56:=dC Tryz.func56 W56
def aPj:CW Tryz.f206:=⟨_,cT⟩
theorem bAd:Fi 206 aPj:=dC Tryz.func206 aPj
def aOh:CW Tryz.f160:=⟨_,cT⟩
theorem aZa:Fi 160 aOh:=dC Tryz.func160 aOh
def W53:CW Tryz.f53:=⟨_,cT⟩
theorem bHq:Fi 53 W53:=dC Tryz.func53 W53
def W31:CW Tryz.f31:=⟨_,cT⟩
theorem bHd:Fi 31 W31:=dC Tryz.func31 W31
def W24:CW Tryz.f24:=⟨_,cT⟩
theorem bGw:Fi 24 W24:=dC Tryz.func24 W24
def aNn:CW Tryz.f125:=⟨_,cT⟩
theorem aYf:Fi 125 aNn:=dC Tryz.func125 aNn
def aNf:CW Tryz.f117:=⟨_,cT⟩
theorem aXx:Fi 117 aNf:=dC Tryz.func117 aNf
def W55:CW Tryz.f55:=⟨_,cT⟩
theorem bHs:Fi 55 W55:=dC Tryz.func55 W55
def aMt:CW Tryz.f103:=by
 apply Subtype.mk;apply BW
 kernel_rfl
 conv=>lhs;unfold mkX Tryz.f103;dsimp only;simp only[ax]
 conv in (occs:= *) gM _ _ _ _ _=>all_goals cbv
 (try simp only[Bt])
 (try conv in (occs:= *) kK _ _=>all_goals cbv)
 conv=>lhs;cbv
theorem aXl:Fi 103 aMt:=dC Tryz.func103 aMt
def aMy:CW Tryz.f109:=⟨_,cT⟩
theorem aXq:Fi 109 aMy:=dC Tryz.func109 aMy
def W54:CW Tryz.f54:=⟨_,cT⟩
theorem bHr:Fi 54 W54:=dC Tryz.func54 W54
def aNi:CW Tryz.f120:=⟨_,cT⟩
theorem aYa:Fi 120 aNi:=dC Tryz.func120 aNi
def aNh:CW Tryz.f119:=⟨_,cT⟩
theorem aXz:Fi 119 aNh:=dC Tryz.func119 aNh
def aPk:CW Tryz.f207:=⟨_,cT⟩
theorem bAe:Fi 207 aPk:=dC Tryz.func207 aPk
def W60:CW Tryz.f60:=⟨_,cT⟩
theorem bHv:Fi 60 W60:=dC Tryz.func60 W60
def W63:CW Tryz.f63:=⟨_,cT⟩
theorem bHy:Fi 63 W63:=dC Tryz.func63 W63
def aOg:CW Tryz.f159:=⟨_,cT⟩
theorem aYz:Fi 159 aOg:=dC Tryz.func159 aOg
def aMv:CW Tryz.f105:=⟨_,cT⟩
theorem aXn:Fi 105 aMv:=dC Tryz.func105 aMv
def aOi:CW Tryz.f161:=⟨_,cT⟩
theorem aZb:Fi 161 aOi:=dC Tryz.func161 aOi
def W25:CW Tryz.f25:=⟨_,cT⟩
theorem bGx:Fi 25 W25:=dC Tryz.func25 W25
def W86:CW Tryz.f86:=⟨_,cT⟩
theorem bBt:Fi 86 W86:=dC Tryz.func86 W86
def W42:CW Tryz.f42:=⟨_,cT⟩
theorem bHj:Fi 42 W42:=dC Tryz.func42 W42
def aMr:CW Tryz.f100:=⟨_,cT⟩
theorem aXj:Fi 100 aMr:=dC Tryz.func100 aMr
def W48:CW Tryz.f48:=⟨_,cT⟩
theorem bHn:Fi 48 W48:=dC Tryz.func48 W48
def W19:CW Tryz.f19:=by
 apply Subtype.mk;apply BW
 kernel_rfl
 conv=>lhs;unfold mkX Tryz.f19;dsimp only;simp only[ax]
 conv in (occs:= *) gM _ _ _ _ _=>all_goals cbv
 (try simp only[Bt])
 (try conv in (occs:= *) kK _ _=>all_goals cbv)
 conv=>lhs;cbv
theorem bGt:Fi 19 W19:=dC Tryz.func19 W19
def W16:{x // wP Tryz.prog gv true Tryz.f16=some x}:=⟨_,cT⟩
theorem bGr:fN Tryz.prog gv true 16 W16.1:=dG Tryz.func16 (by kernel_rfl) W16.2
def W17:CW Tryz.f17:=⟨_,cT⟩
theorem bGs:Fi 17 W17:=dC Tryz.func17 W17
def W15:CW Tryz.f15:=⟨_,cT⟩
theorem bGq:Fi 15 W15:=dC Tryz.func15 W15
def W5:CW Tryz.f5:=by
 apply Subtype.mk;apply BW
 kernel_rfl
 conv=>lhs;unfold mkX Tryz.f5;dsimp only;simp only[ax]
 conv in (occs:= *) gM _ _ _ _ _=>all_goals cbv
 (try simp only[Bt])
 (try conv in (occs:= *) kK _ _=>all_goals cbv)
 conv=>lhs;cbv
theorem is5:Fi 5 W5:=dC Tryz.func5 W5
def W7:CW Tryz.f7:=⟨_,cT⟩
theorem is7:Fi 7 W7:=dC Tryz.func7 W7
end Go.Proofs.YtbndcmnnbiiobaaGreatDoor
