/-
  Part of the proof of statement 14
-/
import Derived.Test.YtgggiembljfnhaaGreatDoorC07
set_option maxRecDepth 100000
set_option maxHeartbeats 16000000
set_option linter.unusedVariables false
set_option linter.unusedSimpArgs false
namespace Go.Proofs.YtgggiembljfnhaaGreatDoor
open Go Go.Av
def xt:CW Tryz.f221:=⟨_,cX⟩
theorem aGt:Fi 221 xt:=cN Tryz.func221 xt
def wc:CW Tryz.f170:=⟨_,xV⟩
theorem aFr:Fi 170 wc:=cN Tryz.func170 wc
def wa:CW Tryz.f165:=⟨_,cX⟩
theorem aFp:Fi 165 wa:=cN Tryz.func165 wa
def vf:CW Tryz.f129:=⟨_,xV⟩
theorem aFa:Fi 129 vf:=cN Tryz.func129 vf
def xb:CW Tryz.f188:=⟨_,cX⟩
theorem aGd:Fi 188 xb:=cN Tryz.func188 xb
def vl:CW Tryz.f132:=⟨_,cX⟩
theorem aFd:Fi 132 vl:=cN Tryz.func132 vl
def xy:CW Tryz.f227:=⟨_,cX⟩
theorem aGx:Fi 227 xy:=cN Tryz.func227 xy
def cn:CW Tryz.f166:=⟨_,cX⟩
theorem rq:Fi 166 cn:=cN Tryz.func166 cn
def wb:CW Tryz.f168:=⟨_,cX⟩
theorem aFq:Fi 168 wb:=cN Tryz.func168 wb
def vd:CW Tryz.f127:=⟨_,cX⟩
theorem aEy:Fi 127 vd:=cN Tryz.func127 vd
def um:CW Tryz.f106:=⟨_,cX⟩
theorem aEo:Fi 106 um:=cN Tryz.func106 um
def uq:CW Tryz.f107:=⟨_,cX⟩
theorem aEp:Fi 107 uq:=cN Tryz.func107 uq
def we:CW Tryz.f171:=⟨_,cX⟩
theorem aFs:Fi 171 we:=cN Tryz.func171 we
def yk:CW Tryz.f246:=⟨_,xV⟩
theorem aHj:Fi 246 yk:=cN Tryz.func246 yk
def zd:CW Tryz.f290:=⟨_,cX⟩
theorem aHz:Fi 290 zd:=cN Tryz.func290 zd
def W69:CW Tryz.f69:=⟨_,cX⟩
theorem aNc:Fi 69 W69:=cN Tryz.func69 W69
end Go.Proofs.YtgggiembljfnhaaGreatDoor
