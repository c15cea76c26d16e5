/-
  Part of the proof of statement 13
-/
import Derived.Test.YtogfcjbgeebfkaaGreatDoorB37
set_option linter.unusedSimpArgs false
set_option maxRecDepth 100000
set_option maxHeartbeats 16000000
set_option linter.unusedVariables false
namespace Go.Proofs.YtogfcjbgeebfkaaGreatDoor
open Go Go.Av
def aCn:{x // xT Tryz.prog lY false Tryz.f230=some x}:=⟨_,dD⟩
theorem bAq:gX Tryz.prog lY false 230 aCn.1:=dT Tryz.func230 (by kernel_rfl) aCn.2
def aCq:{x // xT Tryz.prog lY false Tryz.f275=some x}:=⟨_,dD⟩
theorem bAt:gX Tryz.prog lY false 275 aCq.1:=dT Tryz.func275 (by kernel_rfl) aCq.2
def aCs:{x // xT Tryz.prog lY false Tryz.f307=some x}:=⟨_,dD⟩
theorem bAu:gX Tryz.prog lY false 307 aCs.1:=dT Tryz.func307 (by kernel_rfl) aCs.2
def aCu:{x // xT Tryz.prog lY false Tryz.f332=some x}:=⟨_,dD⟩
theorem bAw:gX Tryz.prog lY false 332 aCu.1:=dT Tryz.func332 (by kernel_rfl) aCu.2
def aCv:{x // xT Tryz.prog lY false Tryz.f333=some x}:=⟨_,dD⟩
theorem bAx:gX Tryz.prog lY false 333 aCv.1:=dT Tryz.func333 (by kernel_rfl) aCv.2
def aCw:{x // xT Tryz.prog lY false Tryz.f334=some x}:=⟨_,Mx⟩
theorem bAy:gX Tryz.prog lY false 334 aCw.1:=dT Tryz.func334 (by kernel_rfl) aCw.2
def aCh:{x // xT Tryz.prog lY false Tryz.f177=some x}:=⟨_,dD⟩
theorem bAl:gX Tryz.prog lY false 177 aCh.1:=dT Tryz.func177 (by kernel_rfl) aCh.2
def aCm:{x // xT Tryz.prog lY false Tryz.f229=some x}:=⟨_,dD⟩
theorem bAp:gX Tryz.prog lY false 229 aCm.1:=dT Tryz.func229 (by kernel_rfl) aCm.2
def aCg:{x // xT Tryz.prog lY false Tryz.f133=some x}:=⟨_,dD⟩
theorem bAk:gX Tryz.prog lY false 133 aCg.1:=dT Tryz.func133 (by kernel_rfl) aCg.2
def aCl:{x // xT Tryz.prog lY false Tryz.f212=some x}:=⟨_,dD⟩
theorem bAo:gX Tryz.prog lY false 212 aCl.1:=dT Tryz.func212 (by kernel_rfl) aCl.2
def aCo:{x // xT Tryz.prog lY false Tryz.f232=some x}:=⟨_,dD⟩
theorem bAr:gX Tryz.prog lY false 232 aCo.1:=dT Tryz.func232 (by kernel_rfl) aCo.2
def aYj:{x // xT Tryz.prog lY false Tryz.f88=some x}:=⟨_,dD⟩
theorem bLf:gX Tryz.prog lY false 88 aYj.1:=dT Tryz.func88 (by kernel_rfl) aYj.2
def aXj:{x // xT Tryz.prog lY false Tryz.f26=some x}:=⟨_,Mx⟩
theorem bJs:gX Tryz.prog lY false 26 aXj.1:=dT Tryz.func26 (by kernel_rfl) aXj.2
def aCf:{x // xT Tryz.prog lY false Tryz.f128=some x}:=⟨_,dD⟩
theorem bAj:gX Tryz.prog lY false 128 aCf.1:=dT Tryz.func128 (by kernel_rfl) aCf.2
def aYi:{x // xT Tryz.prog lY false Tryz.f50=some x}:=⟨_,Mx⟩
theorem bKw:gX Tryz.prog lY false 50 aYi.1:=dT Tryz.func50 (by kernel_rfl) aYi.2
def aCd:{x // xT Tryz.prog lY false Tryz.f126=some x}:=⟨_,dD⟩
theorem bAh:gX Tryz.prog lY false 126 aCd.1:=dT Tryz.func126 (by kernel_rfl) aCd.2
def aCj:{x // xT Tryz.prog lY false Tryz.f209=some x}:=⟨_,dD⟩
theorem bAm:gX Tryz.prog lY false 209 aCj.1:=dT Tryz.func209 (by kernel_rfl) aCj.2
def aCe:{x // xT Tryz.prog lY false Tryz.f127=some x}:=⟨_,dD⟩
theorem bAi:gX Tryz.prog lY false 127 aCe.1:=dT Tryz.func127 (by kernel_rfl) aCe.2
def aCk:{x // xT Tryz.prog lY false Tryz.f210=some x}:=⟨_,dD⟩
theorem bAn:gX Tryz.prog lY false 210 aCk.1:=dT Tryz.func210 (by kernel_rfl) aCk.2
def aCp:{x // xT Tryz.prog lY false Tryz.f267=some x}:=⟨_,dD⟩
theorem bAs:gX Tryz.prog lY false 267 aCp.1:=dT Tryz.func267 (by kernel_rfl) aCp.2
def aXe:{x // xT Tryz.prog lY false Tryz.f25=some x}:=⟨_,dD⟩
theorem bJn:gX Tryz.prog lY false 25 aXe.1:=dT Tryz.func25 (by kernel_rfl) aXe.2
def aYa:{x // xT Tryz.prog lY false Tryz.f29=some x}:=⟨_,dD⟩
theorem bKj:gX Tryz.prog lY false 29 aYa.1:=dT Tryz.func29 (by kernel_rfl) aYa.2
def aYk:{x // xT Tryz.prog lY false Tryz.f90=some x}:=⟨_,dD⟩
theorem bLg:gX Tryz.prog lY false 90 aYk.1:=dT Tryz.func90 (by kernel_rfl) aYk.2
def W9T:{x // xT Tryz.prog lY false Tryz.f9=some x}:=⟨_,Mx⟩
theorem bRt:gX Tryz.prog lY false 9 W9T.1:=dT Tryz.func9 (by kernel_rfl) W9T.2
def aCt:{x // xT Tryz.prog lY false Tryz.f321=some x}:=⟨_,dD⟩
theorem bAv:gX Tryz.prog lY false 321 aCt.1:=dT Tryz.func321 (by kernel_rfl) aCt.2
def aCx:{x // xT Tryz.prog lY false Tryz.f354=some x}:=⟨_,dD⟩
theorem bAz:gX Tryz.prog lY false 354 aCx.1:=dT Tryz.func354 (by kernel_rfl) aCx.2
def aCy:{x // xT Tryz.prog lY false Tryz.f355=some x}:=⟨_,dD⟩
theorem bBa:gX Tryz.prog lY false 355 aCy.1:=dT Tryz.func355 (by kernel_rfl) aCy.2
end Go.Proofs.YtogfcjbgeebfkaaGreatDoor
