/-
  Part of the proof of statement 14
-/
import Derived.Test.YtgggiembljfnhaaGreatDoorC07
set_option maxRecDepth 100000
set_option maxHeartbeats 16000000
set_option linter.unusedVariables false
set_option linter.unusedSimpArgs false
namespace Go.Proofs.YtgggiembljfnhaaGreatDoor
open Go Go.Av
def xp:CW Tryz.f217:=⟨_,cX⟩
theorem aGq:Fi 217 xp:=cN Tryz.func217 xp
def xq:CW Tryz.f218:=⟨_,cX⟩
theorem aGr:Fi 218 xq:=cN Tryz.func218 xq
def v7:CW Tryz.f162:=⟨_,cX⟩
theorem aFn:Fi 162 v7:=cN Tryz.func162 v7
def y8:CW Tryz.f278:=⟨_,cX⟩
theorem aHu:Fi 278 y8:=cN Tryz.func278 y8
def xl:CW Tryz.f212:=⟨_,cX⟩
theorem aGn:Fi 212 xl:=cN Tryz.func212 xl
def ct:CW Tryz.f179:=⟨_,cX⟩
theorem ry:Fi 179 ct:=cN Tryz.func179 ct
def xj:CW Tryz.f210:=⟨_,cX⟩
theorem aGl:Fi 210 xj:=cN Tryz.func210 xj
def yy:CW Tryz.f274:=⟨_,cX⟩
theorem aHr:Fi 274 yy:=cN Tryz.func274 yy
def yz:CW Tryz.f275:=⟨_,cX⟩
theorem aHs:Fi 275 yz:=cN Tryz.func275 yz
def xg:CW Tryz.f206:=⟨_,xV⟩
theorem aGi:Fi 206 xg:=cN Tryz.func206 xg
def xh:CW Tryz.f207:=⟨_,cX⟩
theorem aGj:Fi 207 xh:=cN Tryz.func207 xh
def yw:CW Tryz.f273:=⟨_,cX⟩
theorem aHq:Fi 273 yw:=cN Tryz.func273 yw
def xf:CW Tryz.f204:=⟨_,cX⟩
theorem aGh:Fi 204 xf:=cN Tryz.func204 xf
def xe:CW Tryz.f203:=⟨_,cX⟩
theorem aGg:Fi 203 xe:=cN Tryz.func203 xe
def xi:CW Tryz.f209:=⟨_,xV⟩
theorem aGk:Fi 209 xi:=cN Tryz.func209 xi
def xm:CW Tryz.f213:=⟨_,cX⟩
theorem aGo:Fi 213 xm:=cN Tryz.func213 xm
def vw:CW Tryz.f156:=⟨_,cX⟩
theorem aFk:Fi 156 vw:=cN Tryz.func156 vw
def xk:CW Tryz.f211:=⟨_,xV⟩
theorem aGm:Fi 211 xk:=cN Tryz.func211 xk
end Go.Proofs.YtgggiembljfnhaaGreatDoor
