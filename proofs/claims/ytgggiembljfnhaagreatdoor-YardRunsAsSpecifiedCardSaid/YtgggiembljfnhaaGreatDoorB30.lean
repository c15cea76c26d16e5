/-
  Part of the proof of statement 12
-/
import Derived.Test.YtgggiembljfnhaaGreatDoorB07
set_option maxRecDepth 100000
set_option maxHeartbeats 16000000
set_option linter.unusedVariables false
set_option linter.unusedSimpArgs false
namespace Go.Proofs.YtgggiembljfnhaaGreatDoor
open Go Go.Av
def aPd:CW Tryz.f259:=⟨_,cX⟩
theorem bAh:Fi 259 aPd:=cM Tryz.func259 aPd
def aQe:CW Tryz.f302:=⟨_,cX⟩
theorem bBj:Fi 302 aQe:=cM Tryz.func302 aQe
def aPc:CW Tryz.f258:=⟨_,cX⟩
theorem bAg:Fi 258 aPc:=cM Tryz.func258 aPc
def aPg:CW Tryz.f261:=⟨_,cX⟩
theorem bAk:Fi 261 aPg:=cM Tryz.func261 aPg
def aPf:CW Tryz.f260:=⟨_,cX⟩
theorem bAj:Fi 260 aPf:=cM Tryz.func260 aPf
def aPh:CW Tryz.f262:=⟨_,cX⟩
theorem bAl:Fi 262 aPh:=cM Tryz.func262 aPh
def aRe:CW Tryz.f373:=⟨_,cX⟩
theorem bCm:Fi 373 aRe:=cM Tryz.func373 aRe
def aQw:CW Tryz.f338:=⟨_,cX⟩
theorem bCd:Fi 338 aQw:=cM Tryz.func338 aQw
def aQg:CW Tryz.f304:=⟨_,vF⟩
theorem bBl:Fi 304 aQg:=cM Tryz.func304 aQg
def aPi:CW Tryz.f263:=⟨_,vF⟩
theorem bAm:Fi 263 aPi:=cM Tryz.func263 aPi
end Go.Proofs.YtgggiembljfnhaaGreatDoor
