/-
  Part of the proof of statement 14
-/
import Derived.Test.YtgggiembljfnhaaGreatDoorC07
set_option maxRecDepth 100000
set_option maxHeartbeats 16000000
set_option linter.unusedVariables false
set_option linter.unusedSimpArgs false
namespace Go.Proofs.YtgggiembljfnhaaGreatDoor
open Go Go.Av
def vz:CW Tryz.f158:=⟨_,cX⟩
theorem aFl:Fi 158 vz:=cN Tryz.func158 vz
def cg:CW Tryz.f154:=⟨_,cX⟩
theorem rh:Fi 154 cg:=cN Tryz.func154 cg
def xd:CW Tryz.f202:=⟨_,xV⟩
theorem aGf:Fi 202 xd:=cN Tryz.func202 xd
def cw:CW Tryz.f201:=⟨_,cX⟩
theorem si:Fi 201 cw:=cN Tryz.func201 cw
def de:CW Tryz.f272:=⟨_,cX⟩
theorem su:Fi 272 de:=cN Tryz.func272 de
def XP:CW Tryz.f200:=⟨_,cX⟩
theorem YX:Fi 200 XP:=cN Tryz.func200 XP
def db:CW Tryz.f270:=⟨_,cX⟩
theorem sr:Fi 270 db:=cN Tryz.func270 db
def dg:{x // GB Tryz.prog gv true Tryz.f313=some x}:=⟨_,cX⟩
theorem sw:iM Tryz.prog gv true 313 dg.1:=gJ Tryz.func313 (by kernel_rfl) dg.2
def cx:CW Tryz.f205:=⟨_,cX⟩
theorem sj:Fi 205 cx:=cN Tryz.func205 cx
def uz:CW Tryz.f123:=⟨_,cX⟩
theorem aEw:Fi 123 uz:=cN Tryz.func123 uz
end Go.Proofs.YtgggiembljfnhaaGreatDoor
