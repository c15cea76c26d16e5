/-
  Part of the proof of statement 11
-/
import Derived.Test.YtgggiembljfnhaaGreatDoorA07
set_option maxRecDepth 100000
set_option maxHeartbeats 16000000
set_option linter.unusedVariables false
namespace Go.Proofs.YtgggiembljfnhaaGreatDoor
open Go Go.Av
def aNn:CW Tryz.f217:=⟨_,cX⟩
theorem aYp:Fi 217 aNn:=cM Tryz.func217 aNn
def aNo:CW Tryz.f218:=⟨_,cX⟩
theorem aYq:Fi 218 aNo:=cM Tryz.func218 aNo
def aMd:CW Tryz.f162:=⟨_,cX⟩
theorem aXf:Fi 162 aMd:=cM Tryz.func162 aMd
def aPe:CW Tryz.f278:=⟨_,cX⟩
theorem bAg:Fi 278 aPe:=cM Tryz.func278 aPe
def aNk:CW Tryz.f212:=⟨_,cX⟩
theorem aYm:Fi 212 aNk:=cM Tryz.func212 aNk
def aCu:CW Tryz.f179:=⟨_,cX⟩
theorem aJr:Fi 179 aCu:=cM Tryz.func179 aCu
def aNi:CW Tryz.f210:=⟨_,cX⟩
theorem aYk:Fi 210 aNi:=cM Tryz.func210 aNi
def aPb:CW Tryz.f274:=⟨_,cX⟩
theorem bAd:Fi 274 aPb:=cM Tryz.func274 aPb
def aPc:CW Tryz.f275:=⟨_,cX⟩
theorem bAe:Fi 275 aPc:=cM Tryz.func275 aPc
def aNf:CW Tryz.f206:=⟨_,uJ⟩
theorem aYh:Fi 206 aNf:=cM Tryz.func206 aNf
def aNg:CW Tryz.f207:=⟨_,cX⟩
theorem aYi:Fi 207 aNg:=cM Tryz.func207 aNg
def aPa:CW Tryz.f273:=⟨_,cX⟩
theorem bAc:Fi 273 aPa:=cM Tryz.func273 aPa
def aNe:CW Tryz.f204:=⟨_,cX⟩
theorem aYg:Fi 204 aNe:=cM Tryz.func204 aNe
def aNd:CW Tryz.f203:=⟨_,cX⟩
theorem aYf:Fi 203 aNd:=cM Tryz.func203 aNd
def aNh:CW Tryz.f209:=⟨_,uJ⟩
theorem aYj:Fi 209 aNh:=cM Tryz.func209 aNh
def aNl:CW Tryz.f213:=⟨_,cX⟩
theorem aYn:Fi 213 aNl:=cM Tryz.func213 aNl
def aMb:CW Tryz.f156:=⟨_,cX⟩
theorem aXd:Fi 156 aMb:=cM Tryz.func156 aMb
def aNj:CW Tryz.f211:=⟨_,uJ⟩
theorem aYl:Fi 211 aNj:=cM Tryz.func211 aNj
end Go.Proofs.YtgggiembljfnhaaGreatDoor
