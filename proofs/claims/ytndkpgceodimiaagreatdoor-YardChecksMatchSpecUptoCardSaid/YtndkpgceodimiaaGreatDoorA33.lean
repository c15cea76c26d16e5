/-
  Part of the proof of statement 10
-/
import Derived.Test.YtndkpgceodimiaaGreatDoorA07
set_option maxRecDepth 100000
set_option maxHeartbeats 16000000
set_option linter.unusedVariables false
namespace Go.Proofs.YtndkpgceodimiaaGreatDoor
open Go Go.Av
def aKy:CW Tryz.f121:=⟨_,cL⟩
theorem aVk:Fi 121 aKy:=cH Tryz.func121 aKy
def W86:CW Tryz.f86:=⟨_,cL⟩
theorem bGp:Fi 86 W86:=cH Tryz.func86 W86
def aLc:CW Tryz.f127:=⟨_,cL⟩
theorem aVo:Fi 127 aLc:=cH Tryz.func127 aLc
def aMk:CW Tryz.f181:=⟨_,cL⟩
theorem aXa:Fi 181 aMk:=cH Tryz.func181 aMk
def aLa:CW Tryz.f125:=⟨_,cL⟩
theorem aVm:Fi 125 aLa:=cH Tryz.func125 aLa
def aLb:CW Tryz.f126:=⟨_,Mq⟩
theorem aVn:Fi 126 aLb:=cH Tryz.func126 aLb
def W89:CW Tryz.f89:=⟨_,cL⟩
theorem bGr:Fi 89 W89:=cH Tryz.func89 W89
def W88:CW Tryz.f88:=⟨_,cL⟩
theorem bGq:Fi 88 W88:=cH Tryz.func88 W88
def W53:CW Tryz.f53:=⟨_,cL⟩
theorem bAs:Fi 53 W53:=cH Tryz.func53 W53
end Go.Proofs.YtndkpgceodimiaaGreatDoor
