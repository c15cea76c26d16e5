/-
  Part of the proof of statement 10
-/
import Derived.Test.YtndkpgceodimiaaGreatDoorA07
set_option maxRecDepth 100000
set_option maxHeartbeats 16000000
set_option linter.unusedVariables false
namespace Go.Proofs.YtndkpgceodimiaaGreatDoor
open Go Go.Av
def aPk:CW Tryz.f327:=⟨_,cL⟩
theorem bAd:Fi 327 aPk:=cH Tryz.func327 aPk
def aPm:CW Tryz.f329:=⟨_,cL⟩
theorem bAf:Fi 329 aPm:=cH Tryz.func329 aPm
def aPc:CW Tryz.f290:=⟨_,cL⟩
theorem aZv:Fi 290 aPc:=cH Tryz.func290 aPc
def aPp:CW Tryz.f344:=⟨_,cL⟩
theorem bAk:Fi 344 aPp:=cH Tryz.func344 aPp
def aPg:CW Tryz.f323:=⟨_,cL⟩
theorem aZz:Fi 323 aPg:=cH Tryz.func323 aPg
def aMl:CW Tryz.f182:=⟨_,cL⟩
theorem aXb:Fi 182 aMl:=cH Tryz.func182 aMl
def aMo:CW Tryz.f185:=⟨_,cL⟩
theorem aXe:Fi 185 aMo:=cH Tryz.func185 aMo
def aPf:CW Tryz.f322:=⟨_,cL⟩
theorem aZy:Fi 322 aPf:=cH Tryz.func322 aPf
def aPq:CW Tryz.f346:=⟨_,cL⟩
theorem bAl:Fi 346 aPq:=cH Tryz.func346 aPq
def aPh:CW Tryz.f324:=⟨_,cL⟩
theorem bAa:Fi 324 aPh:=cH Tryz.func324 aPh
end Go.Proofs.YtndkpgceodimiaaGreatDoor
