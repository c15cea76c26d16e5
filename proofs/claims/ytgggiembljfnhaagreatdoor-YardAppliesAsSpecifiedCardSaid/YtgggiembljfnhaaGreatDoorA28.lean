/-
  Part of the proof of statement 11
-/
import Derived.Test.YtgggiembljfnhaaGreatDoorA07
set_option maxRecDepth 100000
set_option maxHeartbeats 16000000
set_option linter.unusedVariables false
set_option linter.unusedSimpArgs false
namespace Go.Proofs.YtgggiembljfnhaaGreatDoor
open Go Go.Av
def aQg:CW Tryz.f337:=⟨_,cX⟩
theorem bBl:Fi 337 aQg:=cM Tryz.func337 aQg
def aMy:CW Tryz.f196:=⟨_,cX⟩
theorem aYa:Fi 196 aMy:=cM Tryz.func196 aMy
def aOm:CW Tryz.f257:=⟨_,cX⟩
theorem aZo:Fi 257 aOm:=cM Tryz.func257 aOm
def aNb:CW Tryz.f199:=⟨_,cX⟩
theorem aYd:Fi 199 aNb:=cM Tryz.func199 aNb
def aOz:CW Tryz.f269:=⟨_,cX⟩
theorem bAb:Fi 269 aOz:=cM Tryz.func269 aOz
def aPs:CW Tryz.f305:=⟨_,cX⟩
theorem bAv:Fi 305 aPs:=cM Tryz.func305 aPs
def aNa:CW Tryz.f198:=⟨_,uJ⟩
theorem aYc:Fi 198 aNa:=cM Tryz.func198 aNa
def aOu:CW Tryz.f264:=⟨_,cX⟩
theorem aZw:Fi 264 aOu:=cM Tryz.func264 aOu
def aLy:CW Tryz.f150:=⟨_,cX⟩
theorem aXa:Fi 150 aLy:=cM Tryz.func150 aLy
def aPq:CW Tryz.f303:=⟨_,cX⟩
theorem bAt:Fi 303 aPq:=cM Tryz.func303 aPq
end Go.Proofs.YtgggiembljfnhaaGreatDoor
