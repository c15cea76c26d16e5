/-
  Part of the proof of statement 14
-/
import Derived.Test.YtgggiembljfnhaaGreatDoorC07
set_option maxRecDepth 100000
set_option maxHeartbeats 16000000
set_option linter.unusedVariables false
set_option linter.unusedSimpArgs false
namespace Go.Proofs.YtgggiembljfnhaaGreatDoor
open Go Go.Av
def ve:CW Tryz.f128:=⟨_,cX⟩
theorem aEz:Fi 128 ve:=cN Tryz.func128 ve
def cp:CW Tryz.f167:=⟨_,cX⟩
theorem ru:Fi 167 cp:=cN Tryz.func167 cp
def cy:CW Tryz.f219:=⟨_,cX⟩
theorem sk:Fi 219 cy:=cN Tryz.func219 cy
def cm:CW Tryz.f163:=⟨_,cX⟩
theorem rp:Fi 163 cm:=cN Tryz.func163 cm
def xw:CW Tryz.f223:=⟨_,cX⟩
theorem aGv:Fi 223 xw:=cN Tryz.func223 xw
def xz:CW Tryz.f228:=⟨_,cX⟩
theorem aGy:Fi 228 xz:=cN Tryz.func228 xz
def cq:CW Tryz.f172:=⟨_,cX⟩
theorem rv:Fi 172 cq:=cN Tryz.func172 cq
def v8:CW Tryz.f164:=⟨_,cX⟩
theorem aFo:Fi 164 v8:=cN Tryz.func164 v8
def x7:CW Tryz.f229:=⟨_,cX⟩
theorem aGz:Fi 229 x7:=cN Tryz.func229 x7
def xu:CW Tryz.f222:=⟨_,cX⟩
theorem aGu:Fi 222 xu:=cN Tryz.func222 xu
end Go.Proofs.YtgggiembljfnhaaGreatDoor
