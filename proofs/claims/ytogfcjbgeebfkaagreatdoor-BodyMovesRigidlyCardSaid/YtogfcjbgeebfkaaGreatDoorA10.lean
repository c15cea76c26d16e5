/-
  Part of the proof of statement 9
-/
import Derived.Test.YtogfcjbgeebfkaaGreatDoorA07
set_option linter.unusedSimpArgs false
set_option maxRecDepth 100000
set_option maxHeartbeats 16000000
set_option linter.unusedVariables false
namespace Go.Proofs.YtogfcjbgeebfkaaGreatDoor
open Go Go.Av
def aXp:CW Tryz.f268:=⟨_,dI⟩
theorem bJu:Fi 268 aXp:=dK Tryz.func268 aXp
def aWi:CW Tryz.f213:=⟨_,dI⟩
theorem bIn:Fi 213 aWi:=dK Tryz.func213 aWi
def aVh:CW Tryz.f158:=⟨_,dI⟩
theorem bHk:Fi 158 aVh:=dK Tryz.func158 aVh
def aWb:CW Tryz.f199:=⟨_,dI⟩
theorem bIf:Fi 199 aWb:=dK Tryz.func199 aWb
def aUl:CW Tryz.f110:=⟨_,dI⟩
theorem bGm:Fi 110 aUl:=dK Tryz.func110 aUl
def aVz:CW Tryz.f197:=⟨_,dI⟩
theorem bId:Fi 197 aVz:=dK Tryz.func197 aVz
def aXt:CW Tryz.f271:=⟨_,dI⟩
theorem bJy:Fi 271 aXt:=dK Tryz.func271 aXt
def aWo:CW Tryz.f220:=⟨_,dI⟩
theorem bIt:Fi 220 aWo:=dK Tryz.func220 aWo
def aVg:CW Tryz.f156:=⟨_,dI⟩
theorem bHj:Fi 156 aVg:=dK Tryz.func156 aVg
def W95:CW Tryz.f95:=⟨_,dI⟩
theorem bRa:Fi 95 W95:=dK Tryz.func95 W95
def aUo:CW Tryz.f114:=⟨_,Mh⟩
theorem bGp:Fi 114 aUo:=dK Tryz.func114 aUo
end Go.Proofs.YtogfcjbgeebfkaaGreatDoor
