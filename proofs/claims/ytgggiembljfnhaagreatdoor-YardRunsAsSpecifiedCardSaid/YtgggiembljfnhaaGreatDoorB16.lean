/-
  Part of the proof of statement 12
-/
import Derived.Test.YtgggiembljfnhaaGreatDoorB07
set_option maxRecDepth 100000
set_option maxHeartbeats 16000000
set_option linter.unusedVariables false
set_option linter.unusedSimpArgs false
namespace Go.Proofs.YtgggiembljfnhaaGreatDoor
open Go Go.Av
def aOc:CW Tryz.f217:=⟨_,cX⟩
theorem aZg:Fi 217 aOc:=cM Tryz.func217 aOc
def aOd:CW Tryz.f218:=⟨_,cX⟩
theorem aZh:Fi 218 aOd:=cM Tryz.func218 aOd
def aMs:CW Tryz.f162:=⟨_,cX⟩
theorem aXw:Fi 162 aMs:=cM Tryz.func162 aMs
def aPt:CW Tryz.f278:=⟨_,cX⟩
theorem bAx:Fi 278 aPt:=cM Tryz.func278 aPt
def aNz:CW Tryz.f212:=⟨_,cX⟩
theorem aZd:Fi 212 aNz:=cM Tryz.func212 aNz
def aDi:CW Tryz.f179:=⟨_,cX⟩
theorem aKg:Fi 179 aDi:=cM Tryz.func179 aDi
def aNx:CW Tryz.f210:=⟨_,cX⟩
theorem aZb:Fi 210 aNx:=cM Tryz.func210 aNx
def aPq:CW Tryz.f274:=⟨_,cX⟩
theorem bAu:Fi 274 aPq:=cM Tryz.func274 aPq
def aPr:CW Tryz.f275:=⟨_,cX⟩
theorem bAv:Fi 275 aPr:=cM Tryz.func275 aPr
def aNu:CW Tryz.f206:=⟨_,vF⟩
theorem aYy:Fi 206 aNu:=cM Tryz.func206 aNu
def aNv:CW Tryz.f207:=⟨_,cX⟩
theorem aYz:Fi 207 aNv:=cM Tryz.func207 aNv
def aPp:CW Tryz.f273:=⟨_,cX⟩
theorem bAt:Fi 273 aPp:=cM Tryz.func273 aPp
def aNt:CW Tryz.f204:=⟨_,cX⟩
theorem aYx:Fi 204 aNt:=cM Tryz.func204 aNt
def aNs:CW Tryz.f203:=⟨_,cX⟩
theorem aYw:Fi 203 aNs:=cM Tryz.func203 aNs
def aNw:CW Tryz.f209:=⟨_,vF⟩
theorem aZa:Fi 209 aNw:=cM Tryz.func209 aNw
def aOa:CW Tryz.f213:=⟨_,cX⟩
theorem aZe:Fi 213 aOa:=cM Tryz.func213 aOa
def aMq:CW Tryz.f156:=⟨_,cX⟩
theorem aXu:Fi 156 aMq:=cM Tryz.func156 aMq
def aNy:CW Tryz.f211:=⟨_,vF⟩
theorem aZc:Fi 211 aNy:=cM Tryz.func211 aNy
end Go.Proofs.YtgggiembljfnhaaGreatDoor
