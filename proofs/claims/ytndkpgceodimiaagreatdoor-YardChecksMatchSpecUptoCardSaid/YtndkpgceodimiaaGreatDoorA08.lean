/-
  Part of the proof of statement 10
-/
import Derived.Test.YtndkpgceodimiaaGreatDoorA07
set_option maxRecDepth 100000
set_option maxHeartbeats 16000000
set_option linter.unusedVariables false
namespace Go.Proofs.YtndkpgceodimiaaGreatDoor
open Go Go.Av
def aOx:CW Tryz.f285:=⟨_,cL⟩
theorem aZq:Fi 285 aOx:=cH Tryz.func285 aOx
def aOf:CW Tryz.f245:=⟨_,cL⟩
theorem aYv:Fi 245 aOf:=cH Tryz.func245 aOf
def aPl:CW Tryz.f328:=⟨_,cL⟩
theorem bAe:Fi 328 aPl:=cH Tryz.func328 aPl
def aOz:CW Tryz.f287:=⟨_,cL⟩
theorem aZs:Fi 287 aOz:=cH Tryz.func287 aOz
def aOy:CW Tryz.f286:=⟨_,cL⟩
theorem aZr:Fi 286 aOy:=cH Tryz.func286 aOy
def aOg:CW Tryz.f246:=⟨_,cL⟩
theorem aYw:Fi 246 aOg:=cH Tryz.func246 aOg
def aPa:CW Tryz.f288:=⟨_,Mq⟩
theorem aZt:Fi 288 aPa:=cH Tryz.func288 aPa
def aPb:CW Tryz.f289:=⟨_,cL⟩
theorem aZu:Fi 289 aPb:=cH Tryz.func289 aPb
def aOh:CW Tryz.f247:=⟨_,cL⟩
theorem aYx:Fi 247 aOh:=cH Tryz.func247 aOh
def aOi:CW Tryz.f248:=⟨_,cL⟩
theorem aYy:Fi 248 aOi:=cH Tryz.func248 aOi
def aPn:CW Tryz.f330:=⟨_,cL⟩
theorem bAh:Fi 330 aPn:=cH Tryz.func330 aPn
def aPo:CW Tryz.f331:=⟨_,cL⟩
theorem bAi:Fi 331 aPo:=cH Tryz.func331 aPo
def aPd:CW Tryz.f291:=⟨_,cL⟩
theorem aZw:Fi 291 aPd:=cH Tryz.func291 aPd
end Go.Proofs.YtndkpgceodimiaaGreatDoor
