/-
  Part of the proof of statement 9
-/
import Derived.Test.YtogfcjbgeebfkaaGreatDoorA37
set_option linter.unusedSimpArgs false
set_option maxRecDepth 100000
set_option maxHeartbeats 16000000
set_option linter.unusedVariables false
namespace Go.Proofs.YtogfcjbgeebfkaaGreatDoor
open Go Go.Av
def aDe:{x // AG Tryz.prog mG false Tryz.f230=some x}:=⟨_,dI⟩
theorem bAq:iM Tryz.prog mG false 230 aDe.1:=dW Tryz.func230 (by kernel_rfl) aDe.2
def aDh:{x // AG Tryz.prog mG false Tryz.f275=some x}:=⟨_,dI⟩
theorem bAt:iM Tryz.prog mG false 275 aDh.1:=dW Tryz.func275 (by kernel_rfl) aDh.2
def aDj:{x // AG Tryz.prog mG false Tryz.f307=some x}:=⟨_,dI⟩
theorem bAu:iM Tryz.prog mG false 307 aDj.1:=dW Tryz.func307 (by kernel_rfl) aDj.2
def aDl:{x // AG Tryz.prog mG false Tryz.f332=some x}:=⟨_,dI⟩
theorem bAw:iM Tryz.prog mG false 332 aDl.1:=dW Tryz.func332 (by kernel_rfl) aDl.2
def aDm:{x // AG Tryz.prog mG false Tryz.f333=some x}:=⟨_,dI⟩
theorem bAx:iM Tryz.prog mG false 333 aDm.1:=dW Tryz.func333 (by kernel_rfl) aDm.2
def aDn:{x // AG Tryz.prog mG false Tryz.f334=some x}:=⟨_,Mh⟩
theorem bAy:iM Tryz.prog mG false 334 aDn.1:=dW Tryz.func334 (by kernel_rfl) aDn.2
def aCy:{x // AG Tryz.prog mG false Tryz.f177=some x}:=⟨_,dI⟩
theorem bAl:iM Tryz.prog mG false 177 aCy.1:=dW Tryz.func177 (by kernel_rfl) aCy.2
def aDd:{x // AG Tryz.prog mG false Tryz.f229=some x}:=⟨_,dI⟩
theorem bAp:iM Tryz.prog mG false 229 aDd.1:=dW Tryz.func229 (by kernel_rfl) aDd.2
def aCx:{x // AG Tryz.prog mG false Tryz.f133=some x}:=⟨_,dI⟩
theorem bAk:iM Tryz.prog mG false 133 aCx.1:=dW Tryz.func133 (by kernel_rfl) aCx.2
def aDc:{x // AG Tryz.prog mG false Tryz.f212=some x}:=⟨_,dI⟩
theorem bAo:iM Tryz.prog mG false 212 aDc.1:=dW Tryz.func212 (by kernel_rfl) aDc.2
def aDf:{x // AG Tryz.prog mG false Tryz.f232=some x}:=⟨_,dI⟩
theorem bAr:iM Tryz.prog mG false 232 aDf.1:=dW Tryz.func232 (by kernel_rfl) aDf.2
def aYh:{x // AG Tryz.prog mG false Tryz.f88=some x}:=⟨_,dI⟩
theorem bLf:iM Tryz.prog mG false 88 aYh.1:=dW Tryz.func88 (by kernel_rfl) aYh.2
def aXr:{x // AG Tryz.prog mG false Tryz.f26=some x}:=⟨_,Mh⟩
theorem bJw:iM Tryz.prog mG false 26 aXr.1:=dW Tryz.func26 (by kernel_rfl) aXr.2
def aCw:{x // AG Tryz.prog mG false Tryz.f128=some x}:=⟨_,dI⟩
theorem bAj:iM Tryz.prog mG false 128 aCw.1:=dW Tryz.func128 (by kernel_rfl) aCw.2
def aYg:{x // AG Tryz.prog mG false Tryz.f50=some x}:=⟨_,Mh⟩
theorem bKs:iM Tryz.prog mG false 50 aYg.1:=dW Tryz.func50 (by kernel_rfl) aYg.2
def aCu:{x // AG Tryz.prog mG false Tryz.f126=some x}:=⟨_,dI⟩
theorem bAh:iM Tryz.prog mG false 126 aCu.1:=dW Tryz.func126 (by kernel_rfl) aCu.2
def aDa:{x // AG Tryz.prog mG false Tryz.f209=some x}:=⟨_,dI⟩
theorem bAm:iM Tryz.prog mG false 209 aDa.1:=dW Tryz.func209 (by kernel_rfl) aDa.2
def aCv:{x // AG Tryz.prog mG false Tryz.f127=some x}:=⟨_,dI⟩
theorem bAi:iM Tryz.prog mG false 127 aCv.1:=dW Tryz.func127 (by kernel_rfl) aCv.2
def aDb:{x // AG Tryz.prog mG false Tryz.f210=some x}:=⟨_,dI⟩
theorem bAn:iM Tryz.prog mG false 210 aDb.1:=dW Tryz.func210 (by kernel_rfl) aDb.2
def aDg:{x // AG Tryz.prog mG false Tryz.f267=some x}:=⟨_,dI⟩
theorem bAs:iM Tryz.prog mG false 267 aDg.1:=dW Tryz.func267 (by kernel_rfl) aDg.2
def aXo:{x // AG Tryz.prog mG false Tryz.f25=some x}:=⟨_,dI⟩
theorem bJt:iM Tryz.prog mG false 25 aXo.1:=dW Tryz.func25 (by kernel_rfl) aXo.2
def aYd:{x // AG Tryz.prog mG false Tryz.f29=some x}:=⟨_,dI⟩
theorem bKi:iM Tryz.prog mG false 29 aYd.1:=dW Tryz.func29 (by kernel_rfl) aYd.2
def aYi:{x // AG Tryz.prog mG false Tryz.f90=some x}:=⟨_,dI⟩
theorem bLg:iM Tryz.prog mG false 90 aYi.1:=dW Tryz.func90 (by kernel_rfl) aYi.2
def W9T:{x // AG Tryz.prog mG false Tryz.f9=some x}:=⟨_,Mh⟩
theorem bRe:iM Tryz.prog mG false 9 W9T.1:=dW Tryz.func9 (by kernel_rfl) W9T.2
def aDk:{x // AG Tryz.prog mG false Tryz.f321=some x}:=⟨_,dI⟩
theorem bAv:iM Tryz.prog mG false 321 aDk.1:=dW Tryz.func321 (by kernel_rfl) aDk.2
def aDo:{x // AG Tryz.prog mG false Tryz.f354=some x}:=⟨_,dI⟩
theorem bAz:iM Tryz.prog mG false 354 aDo.1:=dW Tryz.func354 (by kernel_rfl) aDo.2
def aDp:{x // AG Tryz.prog mG false Tryz.f355=some x}:=⟨_,dI⟩
theorem bBa:iM Tryz.prog mG false 355 aDp.1:=dW Tryz.func355 (by kernel_rfl) aDp.2
end Go.Proofs.YtogfcjbgeebfkaaGreatDoor
