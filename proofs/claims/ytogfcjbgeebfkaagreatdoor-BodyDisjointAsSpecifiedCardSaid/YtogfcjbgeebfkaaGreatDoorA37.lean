/-
  Part of the proof of statement 7
-/
import Derived.Test.YtogfcjbgeebfkaaGreatDoorA36
set_option maxRecDepth 100000
set_option maxHeartbeats 16000000
set_option linter.unusedVariables false
set_option linter.unusedSimpArgs false
namespace Go.Proofs.YtogfcjbgeebfkaaGreatDoor
open Go Go.Av
def zd:{x // wE Tryz.prog kK false Tryz.f230=some x}:=⟨_,dB⟩
theorem aUz:gH Tryz.prog kK false 230 zd.1:=dQ Tryz.func230 (by kernel_rfl) zd.2
def zg:{x // wE Tryz.prog kK false Tryz.f275=some x}:=⟨_,dB⟩
theorem aVc:gH Tryz.prog kK false 275 zg.1:=dQ Tryz.func275 (by kernel_rfl) zg.2
def zi:{x // wE Tryz.prog kK false Tryz.f307=some x}:=⟨_,dB⟩
theorem aVd:gH Tryz.prog kK false 307 zi.1:=dQ Tryz.func307 (by kernel_rfl) zi.2
def zk:{x // wE Tryz.prog kK false Tryz.f332=some x}:=⟨_,dB⟩
theorem aVf:gH Tryz.prog kK false 332 zk.1:=dQ Tryz.func332 (by kernel_rfl) zk.2
def zl:{x // wE Tryz.prog kK false Tryz.f333=some x}:=⟨_,dB⟩
theorem aVg:gH Tryz.prog kK false 333 zl.1:=dQ Tryz.func333 (by kernel_rfl) zl.2
def zm:{x // wE Tryz.prog kK false Tryz.f334=some x}:=⟨_,KO⟩
theorem aVh:gH Tryz.prog kK false 334 zm.1:=dQ Tryz.func334 (by kernel_rfl) zm.2
def yw:{x // wE Tryz.prog kK false Tryz.f177=some x}:=⟨_,dB⟩
theorem aUu:gH Tryz.prog kK false 177 yw.1:=dQ Tryz.func177 (by kernel_rfl) yw.2
def zc:{x // wE Tryz.prog kK false Tryz.f229=some x}:=⟨_,dB⟩
theorem aUy:gH Tryz.prog kK false 229 zc.1:=dQ Tryz.func229 (by kernel_rfl) zc.2
def yq:{x // wE Tryz.prog kK false Tryz.f133=some x}:=⟨_,dB⟩
theorem aUt:gH Tryz.prog kK false 133 yq.1:=dQ Tryz.func133 (by kernel_rfl) yq.2
def zb:{x // wE Tryz.prog kK false Tryz.f212=some x}:=⟨_,dB⟩
theorem aUx:gH Tryz.prog kK false 212 zb.1:=dQ Tryz.func212 (by kernel_rfl) zb.2
def ze:{x // wE Tryz.prog kK false Tryz.f232=some x}:=⟨_,dB⟩
theorem aVa:gH Tryz.prog kK false 232 ze.1:=dQ Tryz.func232 (by kernel_rfl) ze.2
def aSt:{x // wE Tryz.prog kK false Tryz.f88=some x}:=⟨_,dB⟩
theorem bEj:gH Tryz.prog kK false 88 aSt.1:=dQ Tryz.func88 (by kernel_rfl) aSt.2
def aSc:{x // wE Tryz.prog kK false Tryz.f26=some x}:=⟨_,KO⟩
theorem bDi:gH Tryz.prog kK false 26 aSc.1:=dQ Tryz.func26 (by kernel_rfl) aSc.2
def yp:{x // wE Tryz.prog kK false Tryz.f128=some x}:=⟨_,dB⟩
theorem aUs:gH Tryz.prog kK false 128 yp.1:=dQ Tryz.func128 (by kernel_rfl) yp.2
def aSs:{x // wE Tryz.prog kK false Tryz.f50=some x}:=⟨_,KO⟩
theorem bEc:gH Tryz.prog kK false 50 aSs.1:=dQ Tryz.func50 (by kernel_rfl) aSs.2
def yl:{x // wE Tryz.prog kK false Tryz.f126=some x}:=⟨_,dB⟩
theorem aUq:gH Tryz.prog kK false 126 yl.1:=dQ Tryz.func126 (by kernel_rfl) yl.2
def yz:{x // wE Tryz.prog kK false Tryz.f209=some x}:=⟨_,dB⟩
theorem aUv:gH Tryz.prog kK false 209 yz.1:=dQ Tryz.func209 (by kernel_rfl) yz.2
def ym:{x // wE Tryz.prog kK false Tryz.f127=some x}:=⟨_,dB⟩
theorem aUr:gH Tryz.prog kK false 127 ym.1:=dQ Tryz.func127 (by kernel_rfl) ym.2
def za:{x // wE Tryz.prog kK false Tryz.f210=some x}:=⟨_,dB⟩
theorem aUw:gH Tryz.prog kK false 210 za.1:=dQ Tryz.func210 (by kernel_rfl) za.2
def zf:{x // wE Tryz.prog kK false Tryz.f267=some x}:=⟨_,dB⟩
theorem aVb:gH Tryz.prog kK false 267 zf.1:=dQ Tryz.func267 (by kernel_rfl) zf.2
def aRx:{x // wE Tryz.prog kK false Tryz.f25=some x}:=⟨_,dB⟩
theorem bDd:gH Tryz.prog kK false 25 aRx.1:=dQ Tryz.func25 (by kernel_rfl) aRx.2
def aSp:{x // wE Tryz.prog kK false Tryz.f29=some x}:=⟨_,dB⟩
theorem bDv:gH Tryz.prog kK false 29 aSp.1:=dQ Tryz.func29 (by kernel_rfl) aSp.2
def aSu:{x // wE Tryz.prog kK false Tryz.f90=some x}:=⟨_,dB⟩
theorem bEk:gH Tryz.prog kK false 90 aSu.1:=dQ Tryz.func90 (by kernel_rfl) aSu.2
def W9T:{x // wE Tryz.prog kK false Tryz.f9=some x}:=⟨_,KO⟩
theorem bKy:gH Tryz.prog kK false 9 W9T.1:=dQ Tryz.func9 (by kernel_rfl) W9T.2
def W4T:{x // wE Tryz.prog kK false Tryz.f4=some x}:=⟨_,dB⟩
theorem bKb:gH Tryz.prog kK false 4 W4T.1:=dQ Tryz.func4 (by kernel_rfl) W4T.2
def zj:{x // wE Tryz.prog kK false Tryz.f321=some x}:=⟨_,dB⟩
theorem aVe:gH Tryz.prog kK false 321 zj.1:=dQ Tryz.func321 (by kernel_rfl) zj.2
def zp:{x // wE Tryz.prog kK false Tryz.f354=some x}:=⟨_,dB⟩
theorem aVi:gH Tryz.prog kK false 354 zp.1:=dQ Tryz.func354 (by kernel_rfl) zp.2
def zt:{x // wE Tryz.prog kK false Tryz.f355=some x}:=⟨_,dB⟩
theorem aVj:gH Tryz.prog kK false 355 zt.1:=dQ Tryz.func355 (by kernel_rfl) zt.2
end Go.Proofs.YtogfcjbgeebfkaaGreatDoor
