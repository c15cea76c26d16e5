/-
  Part of the proof of statement 11
-/
import Derived.Test.YtgggiembljfnhaaGreatDoorA07
set_option maxRecDepth 100000
set_option maxHeartbeats 16000000
set_option linter.unusedVariables false
set_option linter.unusedSimpArgs false
namespace Go.Proofs.YtgggiembljfnhaaGreatDoor
open Go Go.Av
def aOo:CW Tryz.f259:=⟨_,cX⟩
theorem aZq:Fi 259 aOo:=cM Tryz.func259 aOo
def aPp:CW Tryz.f302:=⟨_,cX⟩
theorem bAs:Fi 302 aPp:=cM Tryz.func302 aPp
def aOn:CW Tryz.f258:=⟨_,cX⟩
theorem aZp:Fi 258 aOn:=cM Tryz.func258 aOn
def aOr:CW Tryz.f261:=⟨_,cX⟩
theorem aZt:Fi 261 aOr:=cM Tryz.func261 aOr
def aOq:CW Tryz.f260:=⟨_,cX⟩
theorem aZs:Fi 260 aOq:=cM Tryz.func260 aOq
def aOs:CW Tryz.f262:=⟨_,cX⟩
theorem aZu:Fi 262 aOs:=cM Tryz.func262 aOs
def aQp:CW Tryz.f373:=⟨_,cX⟩
theorem bBv:Fi 373 aQp:=cM Tryz.func373 aQp
def aQh:CW Tryz.f338:=⟨_,cX⟩
theorem bBm:Fi 338 aQh:=cM Tryz.func338 aQh
def aPr:CW Tryz.f304:=⟨_,uJ⟩
theorem bAu:Fi 304 aPr:=cM Tryz.func304 aPr
def aOt:CW Tryz.f263:=⟨_,uJ⟩
theorem aZv:Fi 263 aOt:=cM Tryz.func263 aOt
end Go.Proofs.YtgggiembljfnhaaGreatDoor
