/-
  Part of the proof of statement 7
-/
import Derived.Test.YtogfcjbgeebfkaaGreatDoorA07
set_option maxRecDepth 100000
set_option maxHeartbeats 16000000
set_option linter.unusedVariables false
set_option linter.unusedSimpArgs false
namespace Go.Proofs.YtogfcjbgeebfkaaGreatDoor
open Go Go.Av
def aPu:CW Tryz.f182:=⟨_,dB⟩
theorem bBa:Fi 182 aPu:=dC Tryz.func182 aPu
def aGu:CW Tryz.f252:=⟨_,dB⟩
theorem aNt:Fi 252 aGu:=dC Tryz.func252 aGu
def aSn:CW Tryz.f292:=⟨_,KO⟩
theorem bDt:Fi 292 aSn:=dC Tryz.func292 aSn
def aGv:CW Tryz.f291:=⟨_,dB⟩
theorem aNu:Fi 291 aGv:=dC Tryz.func291 aGv
def aGy:CW Tryz.f324:=⟨_,dB⟩
theorem aNx:Fi 324 aGy:=dC Tryz.func324 aGy
def zh:CW Tryz.f290:=⟨_,dB⟩
theorem aBz:Fi 290 zh:=dC Tryz.func290 zh
def aGx:CW Tryz.f322:=⟨_,dB⟩
theorem aNw:Fi 322 aGx:=dC Tryz.func322 aGx
def aGz:{x // wE Tryz.prog gv true Tryz.f350=some x}:=⟨_,dB⟩
theorem aNy:gH Tryz.prog gv true 350 aGz.1:=dQ Tryz.func350 (by kernel_rfl) aGz.2
def aGw:CW Tryz.f293:=⟨_,dB⟩
theorem aNv:Fi 293 aGw:=dC Tryz.func293 aGw
def aQd:CW Tryz.f194:=⟨_,dB⟩
theorem bBj:Fi 194 aQd:=dC Tryz.func194 aQd
end Go.Proofs.YtogfcjbgeebfkaaGreatDoor
