/-
  Part of the proof of statement 7
-/
import Derived.Test.YtogfcjbgeebfkaaGreatDoorA07
set_option maxRecDepth 100000
set_option maxHeartbeats 16000000
set_option linter.unusedVariables false
set_option linter.unusedSimpArgs false
namespace Go.Proofs.YtogfcjbgeebfkaaGreatDoor
open Go Go.Av
def aGs:CW Tryz.f243:=⟨_,dB⟩
theorem aNr:Fi 243 aGs:=dC Tryz.func243 aGs
def aGt:CW Tryz.f244:=⟨_,dB⟩
theorem aNs:Fi 244 aGt:=dC Tryz.func244 aGt
def aRj:CW Tryz.f242:=⟨_,KO⟩
theorem bCp:Fi 242 aRj:=dC Tryz.func242 aRj
def aGm:CW Tryz.f185:=⟨_,dB⟩
theorem aNl:Fi 185 aGm:=dC Tryz.func185 aGm
def aPw:CW Tryz.f184:=⟨_,dB⟩
theorem bBc:Fi 184 aPw:=dC Tryz.func184 aPw
def aOx:CW Tryz.f131:=⟨_,dB⟩
theorem bAd:Fi 131 aOx:=dC Tryz.func131 aOx
def W54:CW Tryz.f54:=⟨_,dB⟩
theorem bKf:Fi 54 W54:=dC Tryz.func54 W54
def aOy:CW Tryz.f132:=⟨_,dB⟩
theorem bAe:Fi 132 aOy:=dC Tryz.func132 aOy
def W73:CW Tryz.f73:=⟨_,dB⟩
theorem bEh:Fi 73 W73:=dC Tryz.func73 W73
def aSh:CW Tryz.f281:=⟨_,dB⟩
theorem bDn:Fi 281 aSh:=dC Tryz.func281 aSh
def aGr:CW Tryz.f214:=⟨_,dB⟩
theorem aNq:Fi 214 aGr:=dC Tryz.func214 aGr
def aSl:CW Tryz.f286:=⟨_,dB⟩
theorem bDr:Fi 286 aSl:=dC Tryz.func286 aSl
def aRl:CW Tryz.f246:=⟨_,KO⟩
theorem bCr:Fi 246 aRl:=dC Tryz.func246 aRl
def aRm:CW Tryz.f247:=⟨_,dB⟩
theorem bCs:Fi 247 aRm:=dC Tryz.func247 aRm
def aSm:CW Tryz.f289:=⟨_,dB⟩
theorem bDs:Fi 289 aSm:=dC Tryz.func289 aSm
def aRp:CW Tryz.f251:=⟨_,dB⟩
theorem bCv:Fi 251 aRp:=dC Tryz.func251 aRp
def aRo:CW Tryz.f250:=⟨_,dB⟩
theorem bCu:Fi 250 aRo:=dC Tryz.func250 aRo
def aRn:CW Tryz.f249:=⟨_,KO⟩
theorem bCt:Fi 249 aRn:=dC Tryz.func249 aRn
def aSj:CW Tryz.f283:=⟨_,dB⟩
theorem bDp:Fi 283 aSj:=dC Tryz.func283 aSj
def aRh:CW Tryz.f240:=⟨_,dB⟩
theorem bCn:Fi 240 aRh:=dC Tryz.func240 aRh
def aSi:CW Tryz.f282:=⟨_,KO⟩
theorem bDo:Fi 282 aSi:=dC Tryz.func282 aSi
end Go.Proofs.YtogfcjbgeebfkaaGreatDoor
