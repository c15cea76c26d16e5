/-
  Part of the proof of statement 12
-/
import Derived.Test.YtgggiembljfnhaaGreatDoorB07
set_option maxRecDepth 100000
set_option maxHeartbeats 16000000
set_option linter.unusedVariables false
set_option linter.unusedSimpArgs false
namespace Go.Proofs.YtgggiembljfnhaaGreatDoor
open Go Go.Av
def aLy:CW Tryz.f128:=⟨_,cX⟩
theorem aXb:Fi 128 aLy:=cM Tryz.func128 aLy
def aDg:CW Tryz.f167:=⟨_,cX⟩
theorem aKe:Fi 167 aDg:=cM Tryz.func167 aDg
def aDo:CW Tryz.f219:=⟨_,cX⟩
theorem aKm:Fi 219 aDo:=cM Tryz.func219 aDo
def aDe:CW Tryz.f163:=⟨_,cX⟩
theorem aKc:Fi 163 aDe:=cM Tryz.func163 aDe
def aOh:CW Tryz.f223:=⟨_,cX⟩
theorem aZl:Fi 223 aOh:=cM Tryz.func223 aOh
def aOk:CW Tryz.f228:=⟨_,cX⟩
theorem aZo:Fi 228 aOk:=cM Tryz.func228 aOk
def aDh:CW Tryz.f172:=⟨_,cX⟩
theorem aKf:Fi 172 aDh:=cM Tryz.func172 aDh
def aMt:CW Tryz.f164:=⟨_,cX⟩
theorem aXx:Fi 164 aMt:=cM Tryz.func164 aMt
def aOl:CW Tryz.f229:=⟨_,cX⟩
theorem aZp:Fi 229 aOl:=cM Tryz.func229 aOl
def aOg:CW Tryz.f222:=⟨_,cX⟩
theorem aZk:Fi 222 aOg:=cM Tryz.func222 aOg
end Go.Proofs.YtgggiembljfnhaaGreatDoor
