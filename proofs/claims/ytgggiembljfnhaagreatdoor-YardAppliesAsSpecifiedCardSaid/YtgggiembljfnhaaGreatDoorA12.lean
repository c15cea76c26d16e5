/-
  Part of the proof of statement 11
-/
import Derived.Test.YtgggiembljfnhaaGreatDoorA07
set_option maxRecDepth 100000
set_option maxHeartbeats 16000000
set_option linter.unusedVariables false
namespace Go.Proofs.YtgggiembljfnhaaGreatDoor
open Go Go.Av
def aLj:CW Tryz.f128:=⟨_,cX⟩
theorem aWl:Fi 128 aLj:=cM Tryz.func128 aLj
def aCs:CW Tryz.f167:=⟨_,cX⟩
theorem aJp:Fi 167 aCs:=cM Tryz.func167 aCs
def aDa:CW Tryz.f219:=⟨_,cX⟩
theorem aJx:Fi 219 aDa:=cM Tryz.func219 aDa
def aCq:CW Tryz.f163:=⟨_,cX⟩
theorem aJn:Fi 163 aCq:=cM Tryz.func163 aCq
def aNs:CW Tryz.f223:=⟨_,cX⟩
theorem aYu:Fi 223 aNs:=cM Tryz.func223 aNs
def aNv:CW Tryz.f228:=⟨_,cX⟩
theorem aYx:Fi 228 aNv:=cM Tryz.func228 aNv
def aCt:CW Tryz.f172:=⟨_,cX⟩
theorem aJq:Fi 172 aCt:=cM Tryz.func172 aCt
def aMe:CW Tryz.f164:=⟨_,cX⟩
theorem aXg:Fi 164 aMe:=cM Tryz.func164 aMe
def aNw:CW Tryz.f229:=⟨_,cX⟩
theorem aYy:Fi 229 aNw:=cM Tryz.func229 aNw
def aNr:CW Tryz.f222:=⟨_,cX⟩
theorem aYt:Fi 222 aNr:=cM Tryz.func222 aNr
end Go.Proofs.YtgggiembljfnhaaGreatDoor
