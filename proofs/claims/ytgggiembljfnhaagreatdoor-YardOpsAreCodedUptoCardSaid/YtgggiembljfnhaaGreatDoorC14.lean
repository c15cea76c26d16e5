/-
  Part of the proof of statement 14
-/
import Derived.Test.YtgggiembljfnhaaGreatDoorC07
set_option maxRecDepth 100000
set_option maxHeartbeats 16000000
set_option linter.unusedVariables false
set_option linter.unusedSimpArgs false
namespace Go.Proofs.YtgggiembljfnhaaGreatDoor
open Go Go.Av
def za:CW Tryz.f282:=⟨_,cX⟩
theorem aHw:Fi 282 za:=cN Tryz.func282 za
def xr:CW Tryz.f220:=⟨_,cX⟩
theorem aGs:Fi 220 xr:=cN Tryz.func220 xr
def y9:CW Tryz.f281:=⟨_,cX⟩
theorem aHv:Fi 281 y9:=cN Tryz.func281 y9
def xx:CW Tryz.f226:=⟨_,cX⟩
theorem aGw:Fi 226 xx:=cN Tryz.func226 xx
def wm:CW Tryz.f177:=⟨_,cX⟩
theorem aFx:Fi 177 wm:=cN Tryz.func177 wm
def cz:CW Tryz.f224:=⟨_,cX⟩
theorem so:Fi 224 cz:=cN Tryz.func224 cz
def da:CW Tryz.f256:=⟨_,cX⟩
theorem sq:Fi 256 da:=cN Tryz.func256 da
def cu:CW Tryz.f190:=⟨_,cX⟩
theorem rz:Fi 190 cu:=cN Tryz.func190 cu
def xo:CW Tryz.f215:=⟨_,cX⟩
theorem aGp:Fi 215 xo:=cN Tryz.func215 xo
def u5:CW Tryz.f126:=⟨_,cX⟩
theorem aEx:Fi 126 u5:=cN Tryz.func126 u5
def wg:CW Tryz.f173:=⟨_,xV⟩
theorem aFt:Fi 173 wg:=cN Tryz.func173 wg
end Go.Proofs.YtgggiembljfnhaaGreatDoor
