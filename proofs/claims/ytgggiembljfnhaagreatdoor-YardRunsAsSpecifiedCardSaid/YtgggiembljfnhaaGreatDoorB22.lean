/-
  Part of the proof of statement 12
-/
import Derived.Test.YtgggiembljfnhaaGreatDoorB07
set_option maxRecDepth 100000
set_option maxHeartbeats 16000000
set_option linter.unusedVariables false
set_option linter.unusedSimpArgs false
namespace Go.Proofs.YtgggiembljfnhaaGreatDoor
open Go Go.Av
def aMr:CW Tryz.f158:=⟨_,cX⟩
theorem aXv:Fi 158 aMr:=cM Tryz.func158 aMr
def aDc:CW Tryz.f154:=⟨_,cX⟩
theorem aKa:Fi 154 aDc:=cM Tryz.func154 aDc
def aNr:CW Tryz.f202:=⟨_,cX⟩
theorem aYv:Fi 202 aNr:=cM Tryz.func202 aNr
def aDm:CW Tryz.f201:=⟨_,cX⟩
theorem aKk:Fi 201 aDm:=cM Tryz.func201 aDm
def aDs:CW Tryz.f272:=⟨_,cX⟩
theorem aKq:Fi 272 aDs:=cM Tryz.func272 aDs
def rp:CW Tryz.f200:=⟨_,cX⟩
theorem yd:Fi 200 rp:=cM Tryz.func200 rp
def aDr:CW Tryz.f270:=⟨_,cX⟩
theorem aKp:Fi 270 aDr:=cM Tryz.func270 aDr
def aDt:{x // KS Tryz.prog gv true Tryz.f313=some x}:=⟨_,cX⟩
theorem aKr:kM Tryz.prog gv true 313 aDt.1:=jF Tryz.func313 (by kernel_rfl) aDt.2
def aDn:CW Tryz.f205:=⟨_,cX⟩
theorem aKl:Fi 205 aDn:=cM Tryz.func205 aDn
def aLv:CW Tryz.f123:=⟨_,cX⟩
theorem aWy:Fi 123 aLv:=cM Tryz.func123 aLv
end Go.Proofs.YtgggiembljfnhaaGreatDoor
