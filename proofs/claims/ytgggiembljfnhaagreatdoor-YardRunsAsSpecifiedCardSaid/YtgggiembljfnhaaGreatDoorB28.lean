/-
  Part of the proof of statement 12
-/
import Derived.Test.YtgggiembljfnhaaGreatDoorB07
set_option maxRecDepth 100000
set_option maxHeartbeats 16000000
set_option linter.unusedVariables false
set_option linter.unusedSimpArgs false
namespace Go.Proofs.YtgggiembljfnhaaGreatDoor
open Go Go.Av
def aQv:CW Tryz.f337:=⟨_,cX⟩
theorem bCc:Fi 337 aQv:=cM Tryz.func337 aQv
def aNn:CW Tryz.f196:=⟨_,cX⟩
theorem aYr:Fi 196 aNn:=cM Tryz.func196 aNn
def aPb:CW Tryz.f257:=⟨_,cX⟩
theorem bAf:Fi 257 aPb:=cM Tryz.func257 aPb
def aNq:CW Tryz.f199:=⟨_,cX⟩
theorem aYu:Fi 199 aNq:=cM Tryz.func199 aNq
def aPo:CW Tryz.f269:=⟨_,cX⟩
theorem bAs:Fi 269 aPo:=cM Tryz.func269 aPo
def aQh:CW Tryz.f305:=⟨_,cX⟩
theorem bBm:Fi 305 aQh:=cM Tryz.func305 aQh
def aNp:CW Tryz.f198:=⟨_,vF⟩
theorem aYt:Fi 198 aNp:=cM Tryz.func198 aNp
def aPj:CW Tryz.f264:=⟨_,cX⟩
theorem bAn:Fi 264 aPj:=cM Tryz.func264 aPj
def aMn:CW Tryz.f150:=⟨_,cX⟩
theorem aXr:Fi 150 aMn:=cM Tryz.func150 aMn
def aQf:CW Tryz.f303:=⟨_,cX⟩
theorem bBk:Fi 303 aQf:=cM Tryz.func303 aQf
end Go.Proofs.YtgggiembljfnhaaGreatDoor
