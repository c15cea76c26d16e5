/-
  Part of the proof of statement 7
-/
import Derived.Test.YtogfcjbgeebfkaaGreatDoorA07
set_option maxRecDepth 100000
set_option maxHeartbeats 16000000
set_option linter.unusedVariables false
set_option linter.unusedSimpArgs false
namespace Go.Proofs.YtogfcjbgeebfkaaGreatDoor
open Go Go.Av
def aGp:CW Tryz.f195:=⟨_,dB⟩
theorem aNo:Fi 195 aGp:=dC Tryz.func195 aGp
def yk:CW Tryz.f113:=⟨_,KO⟩
theorem aBw:Fi 113 yk:=dC Tryz.func113 yk
def aGb:CW Tryz.f106:=⟨_,dB⟩
theorem aNa:Fi 106 aGb:=dC Tryz.func106 aGb
def aQn:CW Tryz.f211:=⟨_,dB⟩
theorem bBt:Fi 211 aQn:=dC Tryz.func211 aQn
def aRz:CW Tryz.f261:=⟨_,dB⟩
theorem bDf:Fi 261 aRz:=dC Tryz.func261 aRz
def aGg:CW Tryz.f138:=⟨_,KO⟩
theorem aNf:Fi 138 aGg:=dC Tryz.func138 aGg
def aPs:CW Tryz.f167:=⟨_,dB⟩
theorem bAy:Fi 167 aPs:=dC Tryz.func167 aPs
def W44:CW Tryz.f44:=⟨_,KO⟩
theorem bEb:Fi 44 W44:=dC Tryz.func44 W44
def W49:CW Tryz.f49:=⟨_,dB⟩
theorem bKa:Fi 49 W49:=dC Tryz.func49 W49
def W63:CW Tryz.f63:=⟨_,dB⟩
theorem bKl:Fi 63 W63:=dC Tryz.func63 W63
def W41:CW Tryz.f41:=⟨_,dB⟩
theorem bJy:Fi 41 W41:=dC Tryz.func41 W41
def aOw:CW Tryz.f130:=⟨_,dB⟩
theorem bAc:Fi 130 aOw:=dC Tryz.func130 aOw
def W15:CW Tryz.f15:=⟨_,dB⟩
theorem bJp:Fi 15 W15:=dC Tryz.func15 W15
def aOt:CW Tryz.f117:=⟨_,dB⟩
theorem aZz:Fi 117 aOt:=dC Tryz.func117 aOt
def W78:CW Tryz.f78:=⟨_,dB⟩
theorem bKp:Fi 78 W78:=dC Tryz.func78 W78
def W17:CW Tryz.f17:=⟨_,dB⟩
theorem bJq:Fi 17 W17:=dC Tryz.func17 W17
end Go.Proofs.YtogfcjbgeebfkaaGreatDoor
