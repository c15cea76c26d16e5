/-
  Part of the proof of statement 9
-/
import Derived.Test.YtogfcjbgeebfkaaGreatDoorA07
set_option linter.unusedSimpArgs false
set_option maxRecDepth 100000
set_option maxHeartbeats 16000000
set_option linter.unusedVariables false
namespace Go.Proofs.YtogfcjbgeebfkaaGreatDoor
open Go Go.Av
def aVq:CW Tryz.f182:=⟨_,dI⟩
theorem bHu:Fi 182 aVq:=dK Tryz.func182 aVq
def aLw:CW Tryz.f252:=⟨_,dI⟩
theorem aTg:Fi 252 aLw:=dK Tryz.func252 aLw
def aYc:CW Tryz.f292:=⟨_,Mh⟩
theorem bKh:Fi 292 aYc:=dK Tryz.func292 aYc
def aMa:CW Tryz.f291:=⟨_,dI⟩
theorem aTk:Fi 291 aMa:=dK Tryz.func291 aMa
def aMe:CW Tryz.f324:=⟨_,dI⟩
theorem aTo:Fi 324 aMe:=dK Tryz.func324 aMe
def aDi:CW Tryz.f290:=⟨_,dI⟩
theorem aGi:Fi 290 aDi:=dK Tryz.func290 aDi
def aMd:CW Tryz.f322:=⟨_,dI⟩
theorem aTn:Fi 322 aMd:=dK Tryz.func322 aMd
def aMf:{x // AG Tryz.prog gv true Tryz.f350=some x}:=⟨_,dI⟩
theorem aTp:iM Tryz.prog gv true 350 aMf.1:=dW Tryz.func350 (by kernel_rfl) aMf.2
def aMb:CW Tryz.f293:=⟨_,dI⟩
theorem aTl:Fi 293 aMb:=dK Tryz.func293 aMb
def aVx:CW Tryz.f194:=⟨_,dI⟩
theorem bIb:Fi 194 aVx:=dK Tryz.func194 aVx
end Go.Proofs.YtogfcjbgeebfkaaGreatDoor
