/-
  Part of the proof of statement 5
-/
import Derived.Test.YtbndcmnnbiiobaaGreatDoorA07
set_option maxRecDepth 100000
set_option maxHeartbeats 16000000
set_option linter.unusedVariables false
namespace Go.Proofs.YtbndcmnnbiiobaaGreatDoor
open Go Go.Av
def aOn:{x // wP Tryz.prog gv true Tryz.f167=some x}:=⟨_,cT⟩
theorem aZg:fN Tryz.prog gv true 167 aOn.1:=dG Tryz.func167 (by kernel_rfl) aOn.2
def aPn:CW Tryz.f217:=⟨_,cT⟩
theorem bAi:Fi 217 aPn:=dC Tryz.func217 aPn
def aNq:CW Tryz.f128:=⟨_,cT⟩
theorem aYi:Fi 128 aNq:=dC Tryz.func128 aNq
def W68:CW Tryz.f68:=⟨_,cT⟩
theorem bIc:Fi 68 W68:=dC Tryz.func68 W68
def W67:CW Tryz.f67:=⟨_,cT⟩
theorem bIb:Fi 67 W67:=dC Tryz.func67 W67
def aNo:CW Tryz.f126:=⟨_,cT⟩
theorem aYg:Fi 126 aNo:=dC Tryz.func126 aNo
def W32:CW Tryz.f32:=⟨_,cT⟩
theorem bHe:Fi 32 W32:=dC Tryz.func32 W32
def W82:CW Tryz.f82:=⟨_,cT⟩
theorem bBs:Fi 82 W82:=dC Tryz.func82 W82
def W40:CW Tryz.f40:=⟨_,cT⟩
theorem bBh:Fi 40 W40:=dC Tryz.func40 W40
def W41:CW Tryz.f41:=⟨_,cT⟩
theorem bHi:Fi 41 W41:=dC Tryz.func41 W41
def W39:CW Tryz.f39:=⟨_,cT⟩
theorem bHg:Fi 39 W39:=dC Tryz.func39 W39
def W14:CW Tryz.f14:=⟨_,cT⟩
theorem aYl:Fi 14 W14:=dC Tryz.func14 W14
def aNy:CW Tryz.f148:=⟨_,cT⟩
theorem aYr:Fi 148 aNy:=dC Tryz.func148 aNy
def W89:CW Tryz.f89:=⟨_,cT⟩
theorem bIm:Fi 89 W89:=dC Tryz.func89 W89
def W84:CW Tryz.f84:=⟨_,cT⟩
theorem bIj:Fi 84 W84:=dC Tryz.func84 W84
def aNx:CW Tryz.f147:=⟨_,cT⟩
theorem aYq:Fi 147 aNx:=dC Tryz.func147 aNx
def W87:CW Tryz.f87:=⟨_,cT⟩
theorem bBu:Fi 87 W87:=dC Tryz.func87 W87
def aNz:CW Tryz.f149:=⟨_,cT⟩
theorem aYs:Fi 149 aNz:=dC Tryz.func149 aNz
def W88:CW Tryz.f88:=⟨_,cT⟩
theorem bIl:Fi 88 W88:=dC Tryz.func88 W88
def W85:CW Tryz.f85:=⟨_,cT⟩
theorem bIk:Fi 85 W85:=dC Tryz.func85 W85
def aOa:CW Tryz.f150:=⟨_,cT⟩
theorem aYt:Fi 150 aOa:=dC Tryz.func150 aOa
def W90:CW Tryz.f90:=⟨_,cT⟩
theorem bIo:Fi 90 W90:=dC Tryz.func90 W90
def aQf:CW Tryz.f262:=⟨_,cT⟩
theorem bBa:Fi 262 aQf:=dC Tryz.func262 aQf
def aQg:CW Tryz.f263:=⟨_,cT⟩
theorem bBb:Fi 263 aQg:=dC Tryz.func263 aQg
def aPw:CW Tryz.f237:=⟨_,cT⟩
theorem bAr:Fi 237 aPw:=dC Tryz.func237 aPw
def aQd:CW Tryz.f260:=⟨_,cT⟩
theorem bAy:Fi 260 aQd:=dC Tryz.func260 aQd
def aQe:CW Tryz.f261:=⟨_,cT⟩
theorem bAz:Fi 261 aQe:=dC Tryz.func261 aQe
def aPv:CW Tryz.f236:=⟨_,cT⟩
theorem bAq:Fi 236 aPv:=dC Tryz.func236 aPv
def aQh:CW Tryz.f289:=⟨_,cT⟩
theorem bBc:Fi 289 aQh:=dC Tryz.func289 aQh
def aPz:CW Tryz.f256:=⟨_,cT⟩
theorem bAu:Fi 256 aPz:=dC Tryz.func256 aPz
def W91:CW Tryz.f91:=⟨_,cT⟩
theorem bIp:Fi 91 W91:=dC Tryz.func91 W91
def W43:CW Tryz.f43:=⟨_,cT⟩
theorem aTh:Fi 43 W43:=dC Tryz.func43 W43
def aPy:CW Tryz.f255:=⟨_,cT⟩
theorem bAt:Fi 255 aPy:=dC Tryz.func255 aPy
def aQi:CW Tryz.f291:=⟨_,cT⟩
theorem bBd:Fi 291 aQi:=dC Tryz.func291 aQi
def aQa:CW Tryz.f257:=⟨_,cT⟩
theorem bAv:Fi 257 aQa:=dC Tryz.func257 aQa
def aQb:CW Tryz.f258:=⟨_,cT⟩
theorem bAw:Fi 258 aQb:=dC Tryz.func258 aQb
def aOd:CW Tryz.f155:=⟨_,cT⟩
theorem aYw:Fi 155 aOd:=dC Tryz.func155 aOd
def aPa:CW Tryz.f197:=⟨_,cT⟩
theorem aZu:Fi 197 aPa:=dC Tryz.func197 aPa
def aOf:CW Tryz.f157:=⟨_,cT⟩
theorem aYy:Fi 157 aOf:=dC Tryz.func157 aOf
def aPi:CW Tryz.f205:=⟨_,cT⟩
theorem bAc:Fi 205 aPi:=dC Tryz.func205 aPi
def aPu:CW Tryz.f235:=⟨_,cT⟩
theorem bAp:Fi 235 aPu:=dC Tryz.func235 aPu
def aOe:CW Tryz.f156:=by
 apply Subtype.mk;apply BW
 kernel_rfl
 conv=>lhs;unfold mkX Tryz.f156;dsimp only;simp only[ax]
 conv in (occs:= *) gM _ _ _ _ _=>all_goals cbv
 (try simp only[Bt])
 (try conv in (occs:= *) kK _ _=>all_goals cbv)
 conv=>lhs;cbv
theorem aYx:Fi 156 aOe:=dC Tryz.func156 aOe
def aPh:CW Tryz.f204:=⟨_,cT⟩
theorem bAb:Fi 204 aPh:=dC Tryz.func204 aPh
def W99:CW Tryz.f99:=⟨_,cT⟩
theorem bIv:Fi 99 W99:=dC Tryz.func99 W99
def aPs:CW Tryz.f233:=⟨_,cT⟩
theorem bAn:Fi 233 aPs:=dC Tryz.func233 aPs
end Go.Proofs.YtbndcmnnbiiobaaGreatDoor
