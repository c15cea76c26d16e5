/-
  Part of the proof of statement 13
-/
import Derived.Test.YtogfcjbgeebfkaaGreatDoorB07
set_option linter.unusedSimpArgs false
set_option maxRecDepth 100000
set_option maxHeartbeats 16000000
set_option linter.unusedVariables false
namespace Go.Proofs.YtogfcjbgeebfkaaGreatDoor
open Go Go.Av
def aVf:CW Tryz.f182:=⟨_,dD⟩
theorem bHn:Fi 182 aVf:=dH Tryz.func182 aVf
def aLf:CW Tryz.f252:=⟨_,dD⟩
theorem aSr:Fi 252 aLf:=dH Tryz.func252 aLf
def aXu:CW Tryz.f292:=⟨_,Mx⟩
theorem bKd:Fi 292 aXu:=dH Tryz.func292 aXu
def aLj:CW Tryz.f291:=⟨_,dD⟩
theorem aSv:Fi 291 aLj:=dH Tryz.func291 aLj
def aLn:CW Tryz.f324:=⟨_,dD⟩
theorem aSz:Fi 324 aLn:=dH Tryz.func324 aLn
def aCr:CW Tryz.f290:=⟨_,dD⟩
theorem aFq:Fi 290 aCr:=dH Tryz.func290 aCr
def aLm:CW Tryz.f322:=⟨_,dD⟩
theorem aSy:Fi 322 aLm:=dH Tryz.func322 aLm
def aLo:{x // xT Tryz.prog gv true Tryz.f350=some x}:=⟨_,dD⟩
theorem aTa:gX Tryz.prog gv true 350 aLo.1:=dT Tryz.func350 (by kernel_rfl) aLo.2
def aLk:CW Tryz.f293:=⟨_,dD⟩
theorem aSw:Fi 293 aLk:=dH Tryz.func293 aLk
def aVm:CW Tryz.f194:=⟨_,dD⟩
theorem bHu:Fi 194 aVm:=dH Tryz.func194 aVm
end Go.Proofs.YtogfcjbgeebfkaaGreatDoor
