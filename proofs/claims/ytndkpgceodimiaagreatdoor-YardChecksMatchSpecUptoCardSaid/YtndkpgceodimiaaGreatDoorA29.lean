/-
  Part of the proof of statement 10
-/
import Derived.Test.YtndkpgceodimiaaGreatDoorA07
set_option maxRecDepth 100000
set_option maxHeartbeats 16000000
set_option linter.unusedVariables false
namespace Go.Proofs.YtndkpgceodimiaaGreatDoor
open Go Go.Av
def aNy:CW Tryz.f239:=⟨_,cL⟩
theorem aYo:Fi 239 aNy:=cH Tryz.func239 aNy
def aOt:CW Tryz.f281:=⟨_,cL⟩
theorem aZm:Fi 281 aOt:=cH Tryz.func281 aOt
def aNx:CW Tryz.f238:=⟨_,cL⟩
theorem aYn:Fi 238 aNx:=cH Tryz.func238 aNx
def aOb:CW Tryz.f241:=⟨_,cL⟩
theorem aYr:Fi 241 aOb:=cH Tryz.func241 aOb
def aOa:CW Tryz.f240:=⟨_,cL⟩
theorem aYq:Fi 240 aOa:=cH Tryz.func240 aOa
def aOc:CW Tryz.f242:=⟨_,cL⟩
theorem aYs:Fi 242 aOc:=cH Tryz.func242 aOc
def aPr:CW Tryz.f347:=⟨_,cL⟩
theorem bAm:Fi 347 aPr:=cH Tryz.func347 aPr
def aPj:CW Tryz.f326:=⟨_,cL⟩
theorem bAc:Fi 326 aPj:=cH Tryz.func326 aPj
def aOv:CW Tryz.f283:=⟨_,Mq⟩
theorem aZo:Fi 283 aOv:=cH Tryz.func283 aOv
def aOd:CW Tryz.f243:=⟨_,cL⟩
theorem aYt:Fi 243 aOd:=cH Tryz.func243 aOd
end Go.Proofs.YtndkpgceodimiaaGreatDoor
