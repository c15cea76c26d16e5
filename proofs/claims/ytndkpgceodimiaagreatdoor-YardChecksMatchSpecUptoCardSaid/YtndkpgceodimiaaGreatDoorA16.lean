/-
  Part of the proof of statement 10
-/
import Derived.Test.YtndkpgceodimiaaGreatDoorA07
set_option maxRecDepth 100000
set_option maxHeartbeats 16000000
set_option linter.unusedVariables false
namespace Go.Proofs.YtndkpgceodimiaaGreatDoor
open Go Go.Av
def aDc:CW Tryz.f175:=⟨_,cL⟩
theorem aJp:Fi 175 aDc:=cH Tryz.func175 aDc
def aDd:CW Tryz.f176:=⟨_,cL⟩
theorem aJq:Fi 176 aDd:=cH Tryz.func176 aDd
def aMi:CW Tryz.f174:=⟨_,cL⟩
theorem aWx:Fi 174 aMi:=cH Tryz.func174 aMi
def aCr:CW Tryz.f118:=⟨_,cL⟩
theorem aJe:Fi 118 aCr:=cH Tryz.func118 aCr
def aKw:CW Tryz.f117:=⟨_,cL⟩
theorem aVh:Fi 117 aKw:=cH Tryz.func117 aKw
def aNs:CW Tryz.f232:=⟨_,cL⟩
theorem aYi:Fi 232 aNs:=cH Tryz.func232 aNs
def aMe:CW Tryz.f170:=⟨_,cL⟩
theorem aWt:Fi 170 aMe:=cH Tryz.func170 aMe
def aCy:CW Tryz.f146:=⟨_,cL⟩
theorem aJl:Fi 146 aCy:=cH Tryz.func146 aCy
def aKv:CW Tryz.f116:=⟨_,cL⟩
theorem aVg:Fi 116 aKv:=cH Tryz.func116 aKv
def aMc:CW Tryz.f168:=⟨_,cL⟩
theorem aWr:Fi 168 aMc:=cH Tryz.func168 aMc
def aNp:CW Tryz.f228:=⟨_,cL⟩
theorem aYf:Fi 228 aNp:=cH Tryz.func228 aNp
def aNq:CW Tryz.f229:=⟨_,cL⟩
theorem aYg:Fi 229 aNq:=cH Tryz.func229 aNq
def aLz:CW Tryz.f164:=⟨_,cL⟩
theorem aWo:Fi 164 aLz:=cH Tryz.func164 aLz
def aMa:CW Tryz.f165:=⟨_,cL⟩
theorem aWp:Fi 165 aMa:=cH Tryz.func165 aMa
def aNo:CW Tryz.f227:=⟨_,cL⟩
theorem aYe:Fi 227 aNo:=cH Tryz.func227 aNo
def aLy:CW Tryz.f162:=⟨_,cL⟩
theorem aWn:Fi 162 aLy:=cH Tryz.func162 aLy
def aLx:CW Tryz.f161:=⟨_,cL⟩
theorem aWm:Fi 161 aLx:=cH Tryz.func161 aLx
def aMb:CW Tryz.f167:=⟨_,Mq⟩
theorem aWq:Fi 167 aMb:=cH Tryz.func167 aMb
def aMf:CW Tryz.f171:=⟨_,cL⟩
theorem aWu:Fi 171 aMf:=cH Tryz.func171 aMf
def aKr:CW Tryz.f112:=⟨_,cL⟩
theorem aVc:Fi 112 aKr:=cH Tryz.func112 aKr
def aMd:CW Tryz.f169:=⟨_,Mq⟩
theorem aWs:Fi 169 aMd:=cH Tryz.func169 aMd
end Go.Proofs.YtndkpgceodimiaaGreatDoor
