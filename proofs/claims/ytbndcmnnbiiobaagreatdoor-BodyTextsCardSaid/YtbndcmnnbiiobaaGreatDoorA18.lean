/-
  Part of the proof of statement 5
-/
import Derived.Test.YtbndcmnnbiiobaaGreatDoorA08
import Derived.Test.YtbndcmnnbiiobaaGreatDoorA09
import Derived.Test.YtbndcmnnbiiobaaGreatDoorA10
import Derived.Test.YtbndcmnnbiiobaaGreatDoorA11
import Derived.Test.YtbndcmnnbiiobaaGreatDoorA16
import Derived.Test.YtbndcmnnbiiobaaGreatDoorA14
import Derived.Test.YtbndcmnnbiiobaaGreatDoorA07
import Derived.Test.YtbndcmnnbiiobaaGreatDoorA17
import Derived.Test.YtbndcmnnbiiobaaGreatDoorA12
import Derived.Test.YtbndcmnnbiiobaaGreatDoorA06
import Derived.Lib.AppendIntMem
import Derived.Lib.ItoaNum
set_option linter.unusedVariables false
set_option maxRecDepth 1000000
set_option maxHeartbeats 16000000
namespace Go.Proofs.YtbndcmnnbiiobaaGreatDoor
open Go Go.Av Go.aG
def bJc:FT:=.node 101 (.node 53 (.node 29 (.node 25 (.node 23 (.leaf 22 W22.1) (.node 24 (.leaf 23 W23.1) (.leaf 24 W24.1))) (.node 26 (.leaf 25 W25.1) (.node 28 (.leaf 26 W26.1) (.leaf 28 W28.1)))) (.node 37 (.node 30 (.leaf 29 W29.1) (.node 31 (.leaf 30 W30.1) (.leaf 31 W31.1))) (.node 50 (.leaf 37 W37.1) (.node 51 (.leaf 50 W50.1) (.leaf 51 W51.1))))) (.node 60 (.node 56 (.node 54 (.leaf 53 W53.1) (.node 55 (.leaf 54 W54.1) (.leaf 55 W55.1))) (.node 58 (.leaf 56 W56.1) (.node 59 (.leaf 58 W58.1) (.leaf 59 W59.1)))) (.node 63 (.node 61 (.leaf 60 W60.1) (.node 62 (.leaf 61 W61.1) (.leaf 62 W62.1))) (.node 64 (.leaf 63 W63.1) (.node 65 (.leaf 64 W64.1) (.leaf 65 W65.1)))))) (.node 130 (.node 109 (.node 105 (.node 102 (.leaf 101 aFk.1) (.node 103 (.leaf 102 aMs.1) (.leaf 103 aMt.1))) (.node 106 (.leaf 105 aMv.1) (.node 108 (.leaf 106 aMw.1) (.leaf 108 aMx.1)))) (.node 117 (.node 111 (.leaf 109 aMy.1) (.node 113 (.leaf 111 aNa.1) (.leaf 113 aNb.1))) (.node 118 (.leaf 117 aNf.1) (.node 119 (.leaf 118 aNg.1) (.leaf 119 aNh.1))))) (.node 170 (.node 160 (.node 158 (.leaf 130 aFm.1) (.node 159 (.leaf 158 aFr.1) (.leaf 159 aOg.1))) (.node 161 (.leaf 160 aOh.1) (.node 162 (.leaf 161 aOi.1) (.leaf 162 aOj.1)))) (.node 207 (.node 171 (.leaf 170 aFs.1) (.node 206 (.leaf 171 aFt.1) (.leaf 206 aPj.1))) (.node 208 (.leaf 207 aPk.1) (.node 238 (.leaf 208 aPl.1) (.leaf 238 aPx.1))))))
theorem fI:bJc.All fun f F=>∃mu,fN Tryz.prog gv mu f F:=⟨⟨⟨⟨⟨⟨false,bGu⟩,⟨⟨false,bGv⟩,⟨false,bGw⟩⟩⟩,⟨⟨false,bGx⟩,⟨⟨false,bGy⟩,⟨false,bHa⟩⟩⟩⟩,⟨⟨⟨false,bHb⟩,⟨⟨false,bHc⟩,⟨false,bHd⟩⟩⟩,⟨⟨false,bBg⟩,⟨⟨false,bHo⟩,⟨false,bHp⟩⟩⟩⟩⟩,⟨⟨⟨⟨false,bHq⟩,⟨⟨false,bHr⟩,⟨false,bHs⟩⟩⟩,⟨⟨false,bHt⟩,⟨⟨false,bHu⟩,⟨false,bBl⟩⟩⟩⟩,⟨⟨⟨false,bHv⟩,⟨⟨false,bHw⟩,⟨false,bHx⟩⟩⟩,⟨⟨false,bHy⟩,⟨⟨false,bBm⟩,⟨false,bHz⟩⟩⟩⟩⟩⟩,⟨⟨⟨⟨⟨false,aLo⟩,⟨⟨false,aXk⟩,⟨false,aXl⟩⟩⟩,⟨⟨false,aXn⟩,⟨⟨false,aXo⟩,⟨false,aXp⟩⟩⟩⟩,⟨⟨⟨false,aXq⟩,⟨⟨false,aXs⟩,⟨false,aXt⟩⟩⟩,⟨⟨false,aXx⟩,⟨⟨false,aXy⟩,⟨false,aXz⟩⟩⟩⟩⟩,⟨⟨⟨⟨false,aLq⟩,⟨⟨false,aLv⟩,⟨false,aYz⟩⟩⟩,⟨⟨false,aZa⟩,⟨⟨false,aZb⟩,⟨false,aZc⟩⟩⟩⟩,⟨⟨⟨false,aLw⟩,⟨⟨false,aLx⟩,⟨false,bAd⟩⟩⟩,⟨⟨false,bAe⟩,⟨⟨false,bAf⟩,⟨false,bAs⟩⟩⟩⟩⟩⟩⟩
end Go.Proofs.YtbndcmnnbiiobaaGreatDoor
namespace Go.Proofs.YtbndcmnnbiiobaaGreatDoor
open Go Go.Av Go.mO Go.aG
def aGq:List AV->Option (Int×Int)
 |[.agg a,.agg b]=>match Od a,Od b with
  |some (some x),some (some y)=>some (x,y)
  |_,_=>none
 |_=>none
theorem ed {args:List AV} {x y:Int} (h:aGq args=some (x,y)):∃a b,args=[.agg a,.agg b]/\fZ a (some x)/\fZ b (some y):=by
 unfold aGq at h;split at h
 · rename_i a b;split at h
   · rename_i x' y' hx hy;cases h;exact⟨a,b,rfl,tF hx,tF hy⟩
   cases h
 cases h
def aQw:List AV->Option (Int×Int)
 |[.agg c]=>match Od (c.take 18),Od (c.drop 18) with
  |some (some x),some (some y)=>some (x,y)
  |_,_=>none
 |_=>none
theorem aGr {args:List AV} {x y:Int} (h:aQw args=some (x,y)):args=[.agg (cR x y)]:=by
 unfold aQw at h;split at h
 · rename_i c;split at h
   · rename_i x' y' hx hy;cases h;have e1:=(tF hx).some.1;have e2:=(tF hy).some.1;rw[cR,<-e1,<-e2,Gk]
   cases h
 cases h
def aKw (x y:Int):Bool:=Nat.blt x.natAbs (2^64)&&Nat.blt y.natAbs (2^64)&&decide (0<y)&&Nat.beq (Int.gcd x y) 1
def aBx:List AV->Bool
 |[.agg c]=>sC (nY c) [iI 0 0]
 |_=>false
def aKp:List (List AV):=[
 [.int .i64 (-1),.int .i64 0,.int .i64 0,.int .i64 0,.aV 0 1 [[.int .i64 0],[.int .i64 1],[.int .i64 3],[.int .i64 2]]],
 [.int .i64 0,.int .i64 (-1),.int .i64 0,.int .i64 0,.aV 0 1 [[.int .i64 0],[.int .i64 4],[.int .i64 5],[.int .i64 1]]],
 [.int .i64 0,.int .i64 0,.int .i64 (-1),.int .i64 0,.aV 0 1 [[.int .i64 0],[.int .i64 2],[.int .i64 6],[.int .i64 4]]],
 [.int .i64 0,.int .i64 0,.int .i64 1,.int .i64 2,.aV 0 1 [[.int .i64 1],[.int .i64 5],[.int .i64 7],[.int .i64 3]]],
 [.int .i64 0,.int .i64 1,.int .i64 0,.int .i64 2,.aV 0 1 [[.int .i64 2],[.int .i64 3],[.int .i64 7],[.int .i64 6]]],
 [.int .i64 1,.int .i64 0,.int .i64 0,.int .i64 2,.aV 0 1 [[.int .i64 4],[.int .i64 6],[.int .i64 7],[.int .i64 5]]]]
theorem z8:(Vw 0 0).map (cQ (plX (eE 0 0)))=aKp:=by kernel_rfl
def bDa (f:FuncId) (args:List AV) (H:aA):Option (Out×aA):=
 match aIs f args with
 |some v=>some (.ret v,H)
 |none=>match Nat.beq f 124 with
 |true=>match aGq args with
  |some (x,y)=>match Nat.blt x.natAbs (2^64)&&Nat.blt y.natAbs (2^64) with
   |true=>some (.ret (.agg (cI (Int.gcd x y))),H)
   |false=>none
  |none=>none
 |false=>match Nat.beq f 66 with
 |true=>match aGq args with
  |some (x,y)=>match Us x y with
   |true=>some (.ret (.agg (cR (FV x (xQ x y)).1 (FV y (xQ x y)).1)),H)
   |false=>none
  |none=>none
 |false=>match Nat.beq f 110 with
 |true=>match aQw args with
  |some (x,y)=>match aKw x y with
   |true=>some (.ret (.bool true),H)
   |false=>none
  |none=>none
 |false=>match Nat.beq f 127 with
 |true=>match aBx args with
  |true=>some (.ret (.aV (H.next+2) 5 aKp),H.alloc .tok)
  |false=>none
 |false=>none
theorem fH:OC Tryz.prog gv bDa:=by
 intro f args H out H' h;unfold bDa at h;split at h
 · rename_i v hv;cases h;exact jl hv H
 split at h
 · rename_i hf;obtain rfl:=Bg hf;split at h
   · rename_i x y hd;obtain⟨a,b,rfl,ha,hb⟩:=ed hd;split at h
     · rename_i hc;cases h;simp only[Am,Gv] at hc;exact LA ha hb hc.1 hc.2 H
     cases h
   cases h
 split at h
 · rename_i hf;obtain rfl:=Bg hf;split at h
   · rename_i x y hd;obtain⟨a,b,rfl,ha,hb⟩:=ed hd;split at h
     · rename_i hc;cases h;simp only[Us,Am,Ct,Bh,Cc] at hc;obtain⟨⟨⟨⟨c1,c2⟩,c3⟩,c4⟩,c5⟩:=hc;exact uu ha hb c1 c2 c3 c4 c5 H
     cases h
   cases h
 split at h
 · rename_i hf;obtain rfl:=Bg hf;split at h
   · rename_i x y hd;obtain rfl:=aGr hd;split at h
     · rename_i hc;cases h;simp only[aKw,Am,Bh,Gv] at hc;obtain⟨⟨⟨c1,c2⟩,c3⟩,c4⟩:=hc;exact ur c1 c2 c3 (Bg c4) H
     cases h
   cases h
 split at h
 · rename_i hf;obtain rfl:=Bg hf;split at h
   · rename_i hc;cases h
     obtain⟨c,rfl,hc⟩:∃c,args=[.agg c]/\sC (nY c) [iI 0 0]=true:=by
      unfold aBx at hc;split at hc
      · exact⟨_,rfl,hc⟩
      cases hc
     refine Sound.wB ?_
     have e:nY [AV.agg c]=[.agg [iI 0 0]]:=by rw[nY,wB,nY,nL _ _ hc]
     rw[e,<-z8];exact aHx H
   cases h
 cases h
end Go.Proofs.YtbndcmnnbiiobaaGreatDoor
namespace Go.Proofs.YtbndcmnnbiiobaaGreatDoor
open Go Go.Av Go.aG
def z7:List AV:=[.agg [iI 0 0]]
def ML:AV:=.agg (bX [98] (.aV 0 1 [[iI 0 0]]) 8 10 500 700)
def aVr:AV:=.agg (bX [98] (.aV 0 1 [[iI 0 0],[iI 0 0]]) 8 10 500 700)
def bDt:AV:=.agg (cR 1 1++cR 1 1++cR 1 1)
def bCq (a b:Int×Int):AV:=.agg [.int .i64 3,.int .i64 3,.aV 0 36 [cR a.1 a.2,cR b.1 b.2,cR b.1 b.2,cR b.1 b.2,cR a.1 a.2,cR b.1 b.2,cR b.1 b.2,cR b.1 b.2,cR a.1 a.2]]
def i3 (a b c:Int):AV:=.agg [.int .i64 a,.int .i64 b,.int .i64 c]
def kA:List Fact:=[
 (14,[ML],.int .i64 0),(14,[aVr],.int .i64 150),
 (32,[.agg [iI 0 0],.agg [iI 1 1]],.bool false),(32,[.agg [iI 0 0],.agg [iI 2 0]],.bool true)]
theorem bCj:uA Tryz.prog gv kA:=(((uA.nil.cons bCv).cons bCu).cons aHw).cons aHv
def k1:Fact:=(58,z7,.agg (cI 48))
theorem bCa:uA Tryz.prog gv (k1::kA):=bCj.DQ fit dQ fI fH dD 0 (by kernel_rfl)
def k2:Fact:=(63,z7,bDt)
theorem bCb:uA Tryz.prog gv (k2::k1::kA):=bCa.DQ fit dQ fI fH dD 0 (by kernel_rfl)
def k3:Fact:=(51,z7,bCq (64,3) (-8,1))
theorem bCc:uA Tryz.prog gv (k3::k2::k1::kA):=bCb.DQ fit dQ fI fH dD 1 (by kernel_rfl)
def kB:List Fact:=k3::k2::k1::kA
def k4:Fact:=(26,[ML],.agg (cI 48))
theorem bCd:uA Tryz.prog gv (k4::kB):=bCc.DQ fit dQ fI fH dD 0 (by kernel_rfl)
def k5:Fact:=(28,[ML],bDt)
theorem bCe:uA Tryz.prog gv (k5::k4::kB):=bCd.DQ fit dQ fI fH dD 0 (by kernel_rfl)
def k6:Fact:=(29,[ML],i3 1 1 1)
theorem bCf:uA Tryz.prog gv (k6::k5::k4::kB):=bCe.DQ fit dQ fI fH dD 0 (by kernel_rfl)
def k7:Fact:=(24,[ML,.agg (cR 8 1)],bCq (64,3) (-8,1))
theorem bCg:uA Tryz.prog gv (k7::k6::k5::k4::kB):=bCf.DQ fit dQ fI fH dD 1 (by kernel_rfl)
def kC:List Fact:=k7::k6::k5::k4::kB
def k8:Fact:=(25,[ML],.gP [i3 0 0 0,i3 2 2 2])
theorem bCh:uA Tryz.prog gv (k8::kC):=bCg.DQ fit dQ fI fH dD 0 (by kernel_rfl)
def k9:Fact:=(31,[ML],.int .i64 12)
theorem bCi:uA Tryz.prog gv (k9::k8::kC):=bCh.DQ fit dQ fI fH dD 0 (by kernel_rfl)
def kO (n:Int):Fact:=(23,[.int .i64 n],.agg (cR n 1))
theorem aTp:uA Tryz.prog gv (kO 1::k9::k8::kC):=bCi.DQ fit dQ fI fH dD 0 (by kernel_rfl)
theorem aTq:uA Tryz.prog gv (kO 8::kO 1::k9::k8::kC):=aTp.DQ fit dQ fI fH dD 0 (by kernel_rfl)
theorem aTr:uA Tryz.prog gv (kO (-8)::kO 8::kO 1::k9::k8::kC):=aTq.DQ fit dQ fI fH dD 0 (by kernel_rfl)
def kD:List Fact:=kO (-8)::kO 8::kO 1::k9::k8::kC
def kF:Fact:=(30,[.int .i64 64,.int .i64 3],.agg (cR 64 3))
theorem bCk:uA Tryz.prog gv (kF::kD):=aTr.DQ fit dQ fI fH dD 0 (by kernel_rfl)
def kU (o p:Int):Fact:=(22,[i3 o p p,.int .i64 2],.agg [iI o p])
theorem aTy:uA Tryz.prog gv (kU 0 0::kF::kD):=bCk.DQ fit dQ fI fH dD 1 (by kernel_rfl)
theorem aTz:uA Tryz.prog gv (kU 1 1::kU 0 0::kF::kD):=aTy.DQ fit dQ fI fH dD 1 (by kernel_rfl)
theorem aUa:uA Tryz.prog gv (kU 2 0::kU 1 1::kU 0 0::kF::kD):=aTz.DQ fit dQ fI fH dD 1 (by kernel_rfl)
def kE:List Fact:=kU 2 0::kU 1 1::kU 0 0::kF::kD
def kP (s:List UInt8) (n:Int):Fact:=(37,[.str s],.gP [.agg (cI n),.int .i64 0])
theorem aTs:uA Tryz.prog gv (kP [48] 0::kE):=aUa.DQ fit dQ fI fH dD 0 (by kernel_rfl)
theorem aTt:uA Tryz.prog gv (kP [50] 2::kP [48] 0::kE):=aTs.DQ fit dQ fI fH dD 0 (by kernel_rfl)
theorem aTu:uA Tryz.prog gv (kP [56] 8::kP [50] 2::kP [48] 0::kE):=aTt.DQ fit dQ fI fH dD 0 (by kernel_rfl)
def kG:List Fact:=kP [56] 8::kP [50] 2::kP [48] 0::kE
theorem aTv:uA Tryz.prog gv (kP [49,48] 10::kG):=aTu.DQ fit dQ fI fH dD 0 (by kernel_rfl)
theorem aTw:uA Tryz.prog gv (kP [53,48,48] 500::kP [49,48] 10::kG):=aTv.DQ fit dQ fI fH dD 0 (by kernel_rfl)
theorem aTx:uA Tryz.prog gv (kP [55,48,48] 700::kP [53,48,48] 500::kP [49,48] 10::kG):=aTw.DQ fit dQ fI fH dD 0 (by kernel_rfl)
def kH:List Fact:=kP [55,48,48] 700::kP [53,48,48] 500::kP [49,48] 10::kG
theorem bCl:uA Tryz.prog gv kH:=aTx
end Go.Proofs.YtbndcmnnbiiobaaGreatDoor
namespace Go.Proofs.YtbndcmnnbiiobaaGreatDoor
open Go Go.Av Go.mO
def bJk:FT:=.node 77 (.node 13 (.node 9 (.node 6 (.leaf 4 W4T.1) (.node 8 (.leaf 6 W6T.1) (.leaf 8 W8T.1))) (.node 11 (.leaf 9 W9T.1) (.node 12 (.leaf 11 aFl.1) (.leaf 12 aNs.1)))) (.node 35 (.node 20 (.leaf 13 YY.1) (.node 34 (.leaf 20 yy.1) (.leaf 34 aFz.1))) (.node 49 (.node 36 (.leaf 35 aGa.1) (.leaf 36 aQk.1)) (.node 73 (.leaf 49 aGb.1) (.leaf 73 aQl.1))))) (.node 219 (.node 134 (.node 80 (.leaf 77 aQn.1) (.node 133 (.leaf 80 aQo.1) (.leaf 133 di.1))) (.node 142 (.node 136 (.leaf 134 ym.1) (.leaf 136 dj.1)) (.node 174 (.leaf 142 yp.1) (.leaf 174 yq.1)))) (.node 242 (.node 240 (.leaf 219 yz.1) (.node 241 (.leaf 240 y6.1) (.leaf 241 za.1))) (.node 272 (.node 254 (.leaf 242 zb.1) (.leaf 254 zc.1)) (.node 273 (.leaf 272 zd.1) (.leaf 273 ze.1)))))
theorem vQ:bJk.All fun f F=>∃mu,fN Tryz.prog hU mu f F:=⟨⟨⟨⟨⟨false,bBj⟩,⟨⟨false,bBn⟩,⟨false,bIn⟩⟩⟩,⟨⟨false,bBx⟩,⟨⟨false,aLp⟩,⟨false,aYk⟩⟩⟩⟩,⟨⟨⟨false,aBu⟩,⟨⟨false,aBw⟩,⟨false,aMd⟩⟩⟩,⟨⟨⟨false,aMe⟩,⟨false,bBf⟩⟩,⟨⟨false,aMf⟩,⟨false,bBo⟩⟩⟩⟩⟩,⟨⟨⟨⟨false,bBq⟩,⟨⟨false,bBr⟩,⟨false,aBs⟩⟩⟩,⟨⟨⟨false,aSx⟩,⟨false,aBt⟩⟩,⟨⟨false,aSy⟩,⟨false,aSz⟩⟩⟩⟩,⟨⟨⟨false,aTa⟩,⟨⟨false,aTb⟩,⟨false,aTc⟩⟩⟩,⟨⟨⟨false,aTd⟩,⟨false,aTe⟩⟩,⟨⟨false,aTf⟩,⟨false,aTg⟩⟩⟩⟩⟩⟩
theorem aCp:tZ Tryz.prog 75:=⟨_,Tryz.func75,by kernel_rfl,by kernel_rfl⟩
theorem aCq:tZ Tryz.prog 76:=⟨_,Tryz.func76,by kernel_rfl,by kernel_rfl⟩
theorem bCw:tZ Tryz.prog 33:=⟨_,Tryz.func33,by kernel_rfl,by kernel_rfl⟩
def aGs:List (List AV)->Option (List (List UInt8))
 |[]=>some []
 |[.str x]::r=>match aGs r with
  |some l=>some (x::l)
  |none=>none
 |_=>none
theorem eg:∀{els:List (List AV)} {l:List (List UInt8)},aGs els=some l->els=cD l
 |[],l,h=>by cases h;rfl
 |[.str x]::r,l,h=>by
  simp only[aGs] at h;split at h
  · rename_i l' oS;cases h;rw[eg oS];rfl
  cases h
def bCz (f:FuncId) (args:List AV) (H:aA):Option (Out×aA):=
 match aIs f args with
 |some v=>match bU args&&v.free with
  |true=>some (.ret v,H)
  |false=>none
 |none=>match Nat.beq f 75 with
 |true=>match args with
  |[.str s,.str [c]]=>some (.ret (.int .i64 (Lib.countByte s c)),H)
  |_=>none
 |false=>match Nat.beq f 76 with
 |true=>match args with
  |[.str s,.str [c]]=>some (.ret (.int .i64 (Lib.indexByte s c)),H)
  |_=>none
 |false=>match Nat.beq f 33 with
 |true=>match args with
  |[.aV _ 1 els,.str sep]=>match aGs els with
   |some xs=>match Nat.blt 0 xs.length&&Nat.ble xs.length 1000&&Nat.ble (Lib.join xs sep).length 1000000 with
    |true=>some (.ret (.str (Lib.join xs sep)),H)
    |false=>none
   |none=>none
  |_=>none
 |false=>none
theorem vL:OC Tryz.prog hU bCz:=by
 intro f args H out H' h;unfold bCz at h;split at h
 · rename_i v hv;split at h
   · rename_i hf;cases h;rw[Am] at hf;exact toT hf.1 hf.2 (jl hv) H
   cases h
 split at h
 · rename_i hf;obtain rfl:=Bg hf;split at h
   · cases h;rename_i s c _;refine yI aCp (fun w=>?_) H;exact Any.strings_Count_one Tryz.ik ⟨s.toArray⟩ c w
   cases h
 split at h
 · rename_i hf;obtain rfl:=Bg hf;split at h
   · cases h;rename_i s c _;refine yI aCq (fun w=>?_) H;exact Any.strings_Index_one Tryz.il ⟨s.toArray⟩ c w
   cases h
 split at h
 · rename_i hf;obtain rfl:=Bg hf;split at h
   · rename_i tag els sep _;split at h
     · rename_i xs hx;split at h
       · rename_i hc;cases h;rw[eg hx];simp only[Am,Gv,Nat.ble_eq] at hc;refine OG bCw moT (fun e=>by subst e;exact absurd hc.1.1 (Fe _)) (by omega) (by omega) (fun bk o c ys w h1 h2 h3 h4 h5=>?_) tag H;exact Any.strings_Join Tryz.UK Tryz.pB bk o c ys ⟨sep.toArray⟩ w h1 h2 h3 h4 h5
       cases h
     cases h
   cases h
 cases h
end Go.Proofs.YtbndcmnnbiiobaaGreatDoor
namespace Go.Proofs.YtbndcmnnbiiobaaGreatDoor
open Go Go.Av Go.aG
theorem aTi:uA Tryz.prog hU kH:=aVn bCl (by kernel_rfl)
def kN (n:Int) (s:List UInt8):Fact:=(34,[.int .i64 n],.str s)
theorem aTj:uA Tryz.prog hU (kN 0 [48]::kH):=aTi.DQ sN gY vQ vL dD 0 (by kernel_rfl)
theorem aTk:uA Tryz.prog hU (kN 2 [50]::kN 0 [48]::kH):=aTj.DQ sN gY vQ vL dD 0 (by kernel_rfl)
theorem aTl:uA Tryz.prog hU (kN 8 [56]::kN 2 [50]::kN 0 [48]::kH):=aTk.DQ sN gY vQ vL dD 0 (by kernel_rfl)
def kL:List Fact:=kN 8 [56]::kN 2 [50]::kN 0 [48]::kH
theorem aTm:uA Tryz.prog hU (kN 10 [49,48]::kL):=aTl.DQ sN gY vQ vL dD 0 (by kernel_rfl)
theorem aTn:uA Tryz.prog hU (kN 500 [53,48,48]::kN 10 [49,48]::kL):=aTm.DQ sN gY vQ vL dD 0 (by kernel_rfl)
theorem aTo:uA Tryz.prog hU (kN 700 [55,48,48]::kN 500 [53,48,48]::kN 10 [49,48]::kL):=aTn.DQ sN gY vQ vL dD 0 (by kernel_rfl)
def kM:List Fact:=kN 700 [55,48,48]::kN 500 [53,48,48]::kN 10 [49,48]::kL
def txt:List UInt8:=[98,111,100,121,32,98,32,109,97,115,115,32,56,32,49,48,32,114,111,117,103,104,32,53,48,48,32,55,48,48,10,112,97,114,116,32,48,32,48,32,48,32,48,32,48,32,50,32,48,32,50,32,48,32,48,32,50,32,50,32,50,32,48,32,48,32,50,32,48,32,50,32,50,32,50,32,48,32,50,32,50,32,50,10]
def kX:Fact:=(9,[ML],.str txt)
theorem bCn:uA Tryz.prog hU (kX::kM):=aTo.DQ sN gY vQ vL dD 0 (by kernel_rfl)
def bCt (f:FuncId) (k:Nat):Bool:=Nat.beq f 10&&Nat.beq k 2
theorem aHu:OB Tryz.prog hU bCt:=fun f k h args H ha=>by simp only[bCt,Am] at h;obtain rfl:=Bg h.1;obtain rfl:=Bg h.2;exact Sn args ha H
theorem bCm:uA Tryz.prog hU ((8,[],.bool true)::kX::kM):=bCn.DQ sN gY vQ vL aHu 0 (by kernel_rfl)
theorem uv (H:aA):St 8 [] H (.ret (.bool true)) H:=bCm _ Au H
end Go.Proofs.YtbndcmnnbiiobaaGreatDoor
namespace Go.Proofs.YtbndcmnnbiiobaaGreatDoor
open Go Go.Av Go.Shelf
theorem aUh:tZ Tryz.prog 134:=⟨_,Tryz.func134,by kernel_rfl,by kernel_rfl⟩
theorem bCx:tZ Tryz.prog 135:=⟨_,Tryz.func135,by kernel_rfl,by kernel_rfl⟩
theorem aRh:Tryz.prog.globalNamed "internal/strconv.uint64pow10" =some 3:=by kernel_rfl
theorem aUs:hU 3=some (Lib.pow10Tab.map (AV.int .u64)):=by kernel_rfl
theorem aVj {k:IntKind} {n:Int} (G:Gh) (w:World) (vs:List Value) (h:gI G w [.int k n] vs):vs=[.int k n]:=by
 obtain⟨hl,hv⟩:=h
 match vs,hl with
 |[u],_=>have :=(hv 0 (by simp)).fV;simpa using this
theorem vn {k:IntKind} {n:Int} {s:List UInt8} (G:Gh) (w:World) (vs:List Value) (h:gI G w [.str s,.int k n] vs):vs=[.string ⟨s.toArray⟩,.int k n]:=by
 obtain⟨hl,hv⟩:=h
 match vs,hl with
 |[u0,u1],_=>have h0:=(hv 0 (by simp)).fB;have h1:=(hv 1 (by simp)).fV;simp only[Ci,Dw] at h0 h1;rw[h0,h1]
theorem aHn {n:Int} (h0: -2^63<=n) (h1:n<2^63) (H:aA):St 134 [.int .i64 n] H (.ret (.str (Lib.itoa n))) H:=
 FL aUh moT aVj (fun G H w hw=>(Any.strconv_Itoa Tryz.aCc n (by omega) (by omega) w (aEq aRh aUs (by decide) hw)).mono fun e w' ⟨he,k,os,jS⟩=>⟨he,by rw[jS];exact Lib.below_grow _ _ (Ak _) _ _⟩) H
theorem tv {s:List UInt8} {c:Nat} (h0:0<s.length) (hc:s.length*c<=2^40) (H:aA):St 135 [.str s,.int .i64 c] H (.ret (.str (Lib.repeatL s c))) H:=by
 have wc:c<=s.length*c:=Iu _ h0;have jA:(⟨s.toArray⟩:ByteArray).size=s.length:=by simp[ByteArray.size]
 refine FL bCx moT vn (fun G H w hw=>?_) H
 match c,hc,wc with
 |0,_,_=>exact(Any.strings_Repeat_zero Tryz.UJ ⟨s.toArray⟩ w).mono fun e w' ⟨he,jS⟩=>⟨he,by rw[jS];exact .refl _ _⟩
 |1,_,_=>exact(Any.strings_Repeat_one Tryz.UJ ⟨s.toArray⟩ w).mono fun e w' ⟨he,jS⟩=>⟨by rw[he];simp[Lib.repeatL],by rw[jS];exact .refl _ _⟩
 |c+2,hc,wc=>exact(Any.strings_Repeat_main Tryz.UJ Tryz.HN ⟨s.toArray⟩ (c+2) w (by omega) (by omega) (by rw[jA];omega) (by rw[jA];exact h0)).mono fun e w' ⟨he,hb⟩=>⟨he,hb⟩
end Go.Proofs.YtbndcmnnbiiobaaGreatDoor
namespace Go.Proofs.YtbndcmnnbiiobaaGreatDoor
open Go Go.Av Go.mO
attribute [local congr] aU aO aP aN aY aR aQ aI aZ
attribute [local irreducible] FC bL eU
theorem aAe {v d k:Nat} (Ow:0<d):((v / W^(k+1)%d)*W+bA v k)%d=v / W^k%d/\(d<=W->((v / W^(k+1)%d)*W+bA v k) / d=bA (v / d) k):=by
 have e:=wX v k;generalize hA:v / W^(k+1)=A at e;generalize hx:bA v k=x at e;have hdm:=Fh A d
 have e1:v / W^k=d*(A / d*W)+(A%d*W+x):=by
  rw[e]
  conv=>lhs;rw[<-hdm]
  rw[Ce,Ev,Bm]
 refine⟨by rw[e1,Nat.mul_add_mod],fun hdW=>?_⟩;have Wh:x<W:=by rw[<-hx];exact gE v k
 have hr:A%d<d:=De _ Ow
 have hq:(A%d*W+x) / d<W:=by rw[Ed Ow];have :(A%d+1)*W<=d*W:=Cj _ hr;rw[Ce] at this;rw[Da W d];omega
 unfold bA;rw[Gc,Da d,<-Gc,e1,Nat.mul_add_div Ow,Da (A / d),Nat.mul_add_mod,Cn hq]
theorem pd {X k:Nat} (hk:k<16) (hX:X<W^16):(aW 16 (X / W^(k+1)*W^(k+1))).set k (bA X k)=aW 16 (X / W^k*W^k):=by
 have hz:bA (X / W^(k+1)*W^(k+1)) k=0:=by unfold bA;rw[Dd,<-Ev,Nat.mul_right_comm,Nat.mul_div_cancel _ (lJ k),Nat.mul_mod_left]
 have hv:X / W^(k+1)*W^(k+1)<W^16:=Er (Nat.div_mul_le_self _ _) hX;have :=Ls (v:=X / W^(k+1)*W^(k+1)) (X:=bA X k) hk hv (by rw[hz,Df];exact gE X k);rw[hz,Df] at this;rw[this];congr 1;rw[wX X k,Ce,Ev,<-Nat.pow_succ']
theorem aEf {v d:Nat} (hv:v<W^16) (Ow:0<d) (hd:d<W) (H:aA):
 St 133 [.agg (wC (aW 16 v)),.int .u32 d] H (.ret (.gP [.agg (wC (aW 16 (v / d))),.int .u32 ((v%d:Nat):Int)])) H:=by
 refine gH sN gY aBs (Af rfl) (by simp only[sf]) (by simp only[sf]) ?_ H;unfold di;dsimp only;have la:=iL (.aW v);have hW:W=4294967296:=rfl;have hX:v / d<W^16:=Er (Jl _ _) hv;have z0:aW 16 (v / d / W^16*W^16)=zs:=by rw[Eh hX,Ic];decide
 simp only[↓zP,zJ,Nat.reduceLT,Nat.reduceEqDiff];refine NX [6] (fun i vs H'=>vs=[.int .u64 ((v / W^i%d:Nat):Int)]/\H'.get 0=some (.cells (wC (aW 16 v)) false)/\H'.get 1=some (.cells (wC (aW 16 (v / d / W^i*W^i))) false)) 16 (by omega) (by decide) ?_ ?_ ?_ ?_ ?_
 · simp only[zB];rfl
 · refine⟨by simp only[sm,zB,Nat.reduceEqDiff,Eh hv,Nat.zero_mod];rfl,by simp only[Nat.reduceEqDiff,zI],by simp only[Nat.reduceEqDiff,zI,z0]⟩
 · rintro i f H1 hi hk e1 hJ;simp only[↓zP,zJ,Nat.reduceLT,e1];exact tB (by omega)
 · rintro i f H1 hi hk e1 ⟨fP,g0,g1⟩;simp only[zM] at fP;have f1:f 1=.int .u32 d:=by rw[hk 1 rfl];simp only[↓zP,zG,Nat.reduceEqDiff]
   have f2:f 2=.ref 0 0:=(by rw[hk 2 rfl];simp only[↓zP,zG,Nat.reduceEqDiff]);have f4:f 4=.ref 1 0:=(by rw[hk 4 rfl];simp only[↓zP,zG,Nat.reduceEqDiff]);obtain⟨s1,s2⟩:=aAe (v:=v) (k:=i) Ow;have s2:=s2 (by omega);have Wf:v / W^(i+1)%d<4294967296:=(by have :=De (v / W^(i+1)) Ow;omega);have wO:bA v i<4294967296:=gE v i;have SO:=aIp Wf wO;have lx:=iL (.aW (v / d / W^(i+1)*W^(i+1)));generalize hr:v / W^(i+1)%d=r at *;generalize hx:bA v i=x at *;have wx:IntKind.u64.wrap (x:Int)=(x:Int):=qH (by omega) (.inl rfl);have wd:IntKind.u64.wrap (d:Int)=(d:Int):=qH (by omega) (.inl rfl);refine aH ?_;simp only[↓zP,zJ,Nat.reduceLT,Nat.reduceEqDiff,Int.reduceLT,e1,fP,f2,g0,aB,hi,la,kJ hi,hx,show i+1<=16 by omega,wx];have hdz:((d:Nat):Int)≠0:=by omega
   have t1:(((r*4294967296+x:Nat):Int)).tdiv (d:Int)=((bA (v / d) i:Nat):Int):=by rw[<-s2,hW];rfl
   have t2:(((r*4294967296+x:Nat):Int)).tmod (d:Int)=((v / W^i%d:Nat):Int):=by rw[<-s1,hW];rfl
   have hlq:bA (v / d) i<W:=gE _ _;have wq:IntKind.u64.wrap ((bA (v / d) i:Nat):Int)=((bA (v / d) i:Nat):Int):=qH (by omega) (.inl rfl);have rU:=pd hi hX;simp only[↓zP,zJ,Nat.reduceEqDiff,SO,f1,wd,hdz,t1,wq,Uz,Cn hlq,f4,hi,g1,lx,show i+1<=16 by omega,t2];refine⟨trivial,g0,?_⟩;have :=yE (l:=aW 16 (v / d / W^(i+1)*W^(i+1))) (i:=i) (by rw[bW];exact hi) (bA (v / d) i);rw[rU] at this;exact Ao (fun l=>some (dY.cells l false)) this
 rintro f H1 hk ⟨fP,g0,g1⟩;simp only[zM] at fP;have f4:f 4=.ref 1 0:=by rw[hk 4 rfl];simp only[↓zP,zG,Nat.reduceEqDiff]
 have lx:=iL (.aW (v / d));have hvd:v%d<W:=Cg (De _ Ow) hd;rw[Kd,Ku,Dl] at g1;rw[Kd,Ku] at fP;simp only[↓zP,zJ,fP,f4,g1,lx,Uz,Cn hvd];refine⟨rfl,_,by simp only[↓zP,zR,Nat.reduceEqDiff,lx,f4];rfl,?_⟩;rfl
end Go.Proofs.YtbndcmnnbiiobaaGreatDoor
namespace Go.Proofs.YtbndcmnnbiiobaaGreatDoor
open Go Go.Av
attribute [local congr] aU aO aP aN aY aR aQ aI aZ
attribute [local irreducible] FC bL eU
def NS:Nat->Nat->List UInt8
 |0,_=>[]
 |k+1,r=>NS k (r / 10)++[UInt8.ofNat (48+r%10)]
theorem oP {u:Nat} (h:u<10):Lib.decDigits u=[UInt8.ofNat (48+u)]:=by rw[Lib.decDigits,dif_pos h]
theorem vH {u:Nat} (h:10<=u):Lib.decDigits u=Lib.decDigits (u / 10)++[UInt8.ofNat (48+u%10)]:=by rw[Lib.decDigits,dif_neg (by omega)]
theorem Rm:∀(k q r:Nat),0<q->r<10^k->Lib.decDigits (q*10^k+r)=Lib.decDigits q++NS k r
 |0,q,r,hq,hr=>by
  have :r=0:=by simpa using hr
  subst this;simp[NS]
 |k+1,q,r,hq,hr=>by
  have e:q*10^(k+1)=10*(q*10^k):=by rw[Dd];ac_rfl
  have hp:0<q*10^k:=Nat.mul_pos hq (Kr (by decide));have hr':r / 10<10^k:=by rw[Dd] at hr;omega
  rw[vH (by omega),show(q*10^(k+1)+r) / 10=q*10^k+r / 10 by omega,show(q*10^(k+1)+r)%10=r%10 by omega,Rm k q (r / 10) hq hr',NS,Cw]
theorem Sl:∀k,NS k 0=List.replicate k 48
 |0=>rfl
 |k+1=>by rw[NS,Nat.zero_div,Sl k,List.replicate_succ'];rfl
theorem yO {k:Nat}:∀{r:Nat},0<k->r<10^k->(Lib.decDigits r).length<=k:=by
 induction k with
 |zero=>intro r h;omega
 |succ k ih=>
  intro r _ hr;by_cases h:r<10
  · rw[oP h];simp
  rw[vH (by omega),An]
  have hk:0<k:=by
   rcases Gi k with rfl|hk
   · simp at hr;omega
   exact hk
  have :=ih (r:=r / 10) hk (by rw[Dd] at hr;omega);simp only[Ah,Ay];omega
theorem jq:∀{k r:Nat},0<k->r<10^k->NS k r=List.replicate (k -(Lib.decDigits r).length) 48++Lib.decDigits r
 |k+1,r,_,hr=>by
  by_cases h:r<10
  · rw[NS,show r / 10=0 by omega,Sl,oP h,show r%10=r by omega];rfl
  have hk:0<k:=by
   rcases Gi k with rfl|hk
   · simp at hr;omega
   exact hk
  rw[NS,jq hk (by rw[Dd] at hr;omega),vH (by omega:10<=r),Cw,An];congr 2;simp only[Ah,Ay];omega
def lC (xs:List (List UInt8)):List AV:=xs.map AV.str
theorem yA (xs:List (List UInt8)):(lC xs).length=xs.length:=Ad _
theorem ME {xs:List (List UInt8)} {i:Nat} (h:i<xs.length):(lC xs).getD i aD=.str (xs.getD i []):=by unfold lC;rw[List.getD,Bo,Ab h,List.getD,Ab h];rfl
theorem CP {xs:List (List UInt8)} {i:Nat} (h:i<xs.length) (x:List UInt8):(lC xs).take i++[.str x]++(lC xs).drop (i+1)=lC (xs.set i x):=by unfold lC;rw[List.map_set,Ir,if_pos (by rw[Ad];exact h)];simp
theorem YV {xs:List (List UInt8)} {id:Nat} {H:aA} (hx:xs.length<2^30) (hg:H.get id=some (.cells (lC xs) true)):
 ∃H',St 136 [.sl id 1 0 xs.length xs.length] H (.ret (.gP [])) H'/\H'.get id=some (.cells (lC xs.reverse) true)/\H'.next=H.next/\∀j,j≠id->H'.get j=H.get j:=by
 suffices h:∃out H',(out=.ret (.gP [])/\H'.get id=some (.cells (lC xs.reverse) true)/\H'.next=H.next/\∀j,j≠id->H'.get j=H.get j)/\
  St 136 [.sl id 1 0 xs.length xs.length] H out H' by
  obtain⟨_,H',⟨rfl,h⟩,hS⟩:=h;exact⟨H',hS,h⟩
 refine gA sN aBt (Af rfl) ?_ (by rfl);unfold dj;dsimp only;have hw:IntKind.i64.wrap ((xs.length:Int) -1)=(xs.length:Int) -1:=wrap_i64 (by omega) (by omega);simp only[↓zP,zJ,seval,hw]
 refine aH (fK [2,3] (fun m vs H'=>∃(i:Nat) (ys:List (List UInt8)),vs=[.int .i64 i,.int .i64 ((xs.length:Int) -1 -i)]/\i<=xs.length/\m=xs.length -i/\ys.length=xs.length/\
  (∀k,k<xs.length->ys.getD k []=if k<i\/xs.length<=k+i then xs.getD (xs.length -1 -k) [] else xs.getD k [])/\
  H'.get id=some (.cells (lC ys) true)/\H'.next=H.next/\∀j,j≠id->H'.get j=H.get j) xs.length (by rfl) ?_ ?_)
 · refine⟨0,xs,by simp only[sm,zB,seval];simp,Bb _,by omega,rfl,fun k hk=>by rw[if_neg (by omega)],hg,rfl,fun _ _=>rfl⟩
 rintro m f H1 hk ⟨i,ys,hv,hi,hm,hy,hs,g,hn,ho⟩;simp only[zM] at hv;obtain⟨v2,v3⟩:=hv;have f0:f 0=.sl id 1 0 xs.length xs.length:=by rw[hk 0 rfl];simp only[↓zP,zG,seval]
 refine aJ fun K hK=>?_;refine bS ?_;simp only[↓zP,zG,seval,v2,v3];refine bT ?_;by_cases eQ:(i:Int)<(xs.length:Int) -1 -i
 · simp only[↓zP,zG,seval,eQ,Gp];apply hK;clear hK K;refine bS ?_;refine aH ?_;refine Dz ?_;obtain⟨j,hj⟩:∃j:Nat,(xs.length:Int) -1 -i=j:=⟨xs.length -1 -i,by omega⟩;rw[hj] at v3;have Mh:j<xs.length:=by omega
   have BN:i<xs.length:=(by omega);have c1:=CP (xs:=ys) (i:=i) (by omega) (ys.getD j []);have c2:=CP (xs:=ys.set i (ys.getD j [])) (i:=j) (by rw[Eg];omega) (ys.getD i []);simp only[↓zP,zJ,seval,zD,f0,v2,v3,aB,g,Mh,BN,yA,hy,ME (show i<ys.length by omega),ME (show j<ys.length by omega),show j+1<=xs.length by omega,show i+1<=xs.length by omega,c1,Eg,c2];refine bT ?_;have w1:IntKind.i64.wrap ((i:Int)+1)=((i+1:Nat):Int):=wI (by omega);have w2:IntKind.i64.wrap ((j:Int) -1)=(xs.length:Int) -1 -(i+1:Nat):=wI (by omega);simp only[↓zP,zJ,seval,v2,v3,w1,w2];refine⟨xs.length -(i+1),by omega,i+1,(ys.set i (ys.getD j [])).set j (ys.getD i []),rfl,by omega,rfl,by rw[Eg,Eg];exact hy,fun k dA=>?_,rfl,hn,fun q hq=>by rw[if_neg hq,if_neg hq];exact ho q hq⟩;have hs1:=hs k dA;have hsi:=hs i BN;have hsj:=hs j Mh;rw[if_neg (by omega)] at hsi hsj;by_cases k1:k=j
   · subst k1;rw[List.getD,Hj (by rw[Eg];omega),Bc,hsi,if_pos (by omega),show xs.length -1 -k=i by omega]
   rw[List.getD,Gs (Ne.symm k1)];by_cases k2:k=i
   · subst k2;rw[Hj (by omega),Bc,hsj,if_pos (by omega),show xs.length -1 -k=j by omega]
   rw[Gs (Ne.symm k2),<-List.getD,hs1];by_cases hc:k<i\/xs.length<=k+i
   · rw[if_pos hc,if_pos (by omega)]
   rw[if_neg hc,if_neg (by omega)]
 simp only[↓zP,zG,seval,eQ,Fm];refine⟨rfl,_,by simp only[zR,seval];rfl,?_⟩;refine⟨rfl,?_,hn,ho⟩;rw[g];congr 2;refine Ao _ (Ge (by rw[hy,Ld]) fun k h1 h2=>?_);have dA:k<xs.length:=by omega
 have h3:=hs k dA;rw[List.getD,Ab h1,Bc] at h3;rw[h3,List.getElem_reverse];by_cases hc:k<i\/xs.length<=k+i
 · rw[if_pos hc,List.getD,Ab (by omega)];rfl
 rw[if_neg hc,List.getD,Ab dA];have :k=xs.length -1 -k:=by omega
 simp only[Bc];congr 1
end Go.Proofs.YtbndcmnnbiiobaaGreatDoor
namespace Go.Proofs.YtbndcmnnbiiobaaGreatDoor
open Go Go.Av Go.mO Go.Shelf
attribute [local congr] aU aO aP aN aY aR aQ aI aZ
attribute [local irreducible] FC bL eU
def aQm:{x // wP Tryz.prog hU true Tryz.f73=some x}:=⟨_,cT⟩
theorem bBp:fN Tryz.prog hU true 73 aQm.1:=dG Tryz.func73 (by kernel_rfl) aQm.2
theorem aCr:tZ Tryz.prog 33:=⟨_,Tryz.func33,by kernel_rfl,by kernel_rfl⟩
theorem aBy {xs:List (List UInt8)} {sep:List UInt8} (bN:xs≠[]) (hN:xs.length<=2^40) (hlen:(Lib.join xs sep).length<=2^40) {nF:Nat} {opn:Bool} {H:aA} (hg:H.get nF=some (.cells (lC xs) opn)):
 St 33 [.sl nF 1 0 xs.length xs.length,.str sep] H (.ret (.str (Lib.join xs sep))) H:=
 Vg aCr moT bN (by omega) (by omega) (fun bk o c ys w h1 h2 h3 h4 h5=>Any.strings_Join Tryz.UK Tryz.pB bk o c ys ⟨sep.toArray⟩ w h1 h2 h3 h4 h5) hg
def OD (H:aA) (v:AV) (ps:List (List UInt8)):Prop:=(ps=[]/\v=.aS)\/∃nF,ps≠[]/\v=.sl nF 1 0 ps.length ps.length/\H.get nF=some (.cells (lC ps) true)/\1<=nF/\nF<H.next
theorem OD.push {H:aA} {v:AV} {ps:List (List UInt8)} (h:OD H v ps) (h1:1<=H.next) (hl:ps.length<2^30) (x:List UInt8):
 ∃v' H',dU H 1 16 true v [[.str x]]=some (v',H')/\OD H' v' (ps++[x])/\H.next<H'.next/\(∀j,j<H.next->(∀a b c d,v≠ .sl j a b c d)->H'.get j=H.get j)/\∀j,j<H.next->∀a b c d,v'≠ .sl j a b c d:=by
 rcases h with ⟨rfl,rfl⟩|⟨nF,hp,rfl,hg,hr1,Zb⟩
 · refine⟨_,_,vE rfl (by simp),.inr ⟨H.next,by simp,by simp,?_,h1,by simp⟩,by simp,fun j hj _=>by rw[aA.aF,if_neg (by omega)],fun j hj a b c d e=>by cases e;omega⟩;rw[aA.aF,if_pos rfl];rfl
 refine⟨_,_,rL hg (by rw[yA,Dl]) rfl (by simp only[Ah,Ay];omega) (by decide),.inr ⟨H.next,by simp,by simp,?_,h1,by simp⟩,by simp,fun j hj hn=>?_,fun j hj a b c d e=>by cases e;simp at hj⟩
 · rw[aA.aF,if_pos (by simp)];simp[lC]
 rw[aA.aF,if_neg (by simp;omega),aA.aC,if_neg (fun e=>hn _ _ _ _ (by rw[e]))]
theorem OD.mono {H H':aA} {v:AV} {ps:List (List UInt8)} (h:OD H v ps) (hn:H.next<=H'.next) (ho:∀j,j<H.next->H'.get j=H.get j):OD H' v ps:=by
 rcases h with h|⟨nF,h1,h2,h3,h4,h5⟩
 · exact .inl h
 exact .inr ⟨nF,h1,h2,by rw[ho _ h5];exact h3,h4,by omega⟩
theorem OD.jb {H H':aA} {v:AV} {ps:List (List UInt8)} {p:Nat} (h:OD H v ps) (hn:H.next<=H'.next) (ho:∀j,j<H.next->j≠p->H'.get j=H.get j) (hp:∀a b c d,v≠ .sl p a b c d):OD H' v ps:=by
 rcases h with h|⟨nF,h1,h2,h3,h4,h5⟩
 · exact .inl h
 exact .inr ⟨nF,h1,h2,by rw[ho _ h5 (fun e=>hp _ _ _ _ (by rw[h2,e]))];exact h3,h4,by omega⟩
theorem oQ (h:aA) (x:AV):dM h 1 (.aV 1 1 [[x]])=some [[x]]:=rfl
theorem join_nil:∀xs:List (List UInt8),Lib.join xs []=xs.flatten
 |[]=>rfl
 |[x]=>by simp[Lib.join]
 |x::y::r=>by
  have ih:=join_nil (y::r);simp only[Lib.join,Bp] at ih ⊢
  first|rw[ih]|(simp[ih])
theorem aVe {v:Nat} (hv:v<W^16) (H:aA):St 133 [.agg (wC (aW 16 v)),.int .u32 1000000000] H (.ret (.gP [.agg (wC (aW 16 (v / 1000000000))),.int .u32 ((v%1000000000:Nat):Int)])) H:=
 aEf (d:=1000000000) hv (by decide) (by decide) H
theorem aJw {z:Int} (hz:z.natAbs<W^16) (H:aA):St 73 [.agg (cI z)] H (.ret (.str (Lib.itoa z))) H:=by
 refine gH sN gY bBp (Af rfl) (by simp only[sf,cH]) (by simp only[sf]) ?_ H;unfold aQm;dsimp only;have ET:=fun H=>toT (by simp only[sf,cH]) rfl (rP (fZ.enc hz)) H;have la:=iL (.aW z.natAbs);refine bS ?_;simp only[↓zP,zJ,seval];refine fL ?_;simp only[↓zP,zJ,seval];refine bK (ET _) ?_;simp only[↓zP,zJ,seval,Bd];refine fL ?_;simp only[↓zP,zG,seval];refine bT ?_;refine aJ fun K hK=>?_;have ZP:(cI z).drop 2=wC (aW 16 z.natAbs):=rfl;simp only[↓zP,zJ,seval,ZP,la]
 refine aH (fK [3,4] (fun m vs H'=>∃(u p:Nat) (v3:AV) (ps:List (List UInt8)),vs=[v3,.ref p 0]/\u<(10^9)^(m+1)/\u<W^16/\(ps=[]\/0<u)/\ps.length+m<=18/\
  Lib.decDigits z.natAbs=Lib.decDigits u++ps.reverse.flatten/\OD H' v3 ps/\1<=p/\p<H'.next/\(∀a b c d,v3≠ .sl p a b c d)/\H'.get p=some (.cells (wC (aW 16 u)) false)/\H'.get 0=some (.cells (cI z) false)) 18 (by rfl) ?_ ?_)
 · refine⟨z.natAbs,1,.aS,[],by simp only[sm,zB,seval],Cf hz (by decide+kernel),hz,.inl rfl,by decide,by simp,.inl ⟨rfl,rfl⟩,Ak _,by simp only[zI,seval],fun _ _ _ _ h=>(by cases h),by simp only[zI,seval],by simp only[zI,seval]⟩
 rintro m f H1 hk ⟨u,p,v3,ps,hv,hum,huW,oZ,nP,ZQ,kY,hp1,ZZ,JB,gp,g0⟩;simp only[zM] at hv;obtain⟨f3,f4⟩:=hv;have f1:f 1=.ref 0 0:=by rw[hk 1 rfl];simp only[↓zP,zG,seval]
 have lu:=iL (.aW u);have lq:=iL (.aW (u / 1000000000));have hr:u%1000000000<1000000000:=De _ (by decide);refine aJ fun K2 cK=>?_;refine aH ?_;refine bS ?_;simp only[↓zP,zJ,seval,f4,gp,lu];refine bK (aVe huW _) ?_;simp only[↓zP,zJ,seval,lq];refine bT ?_;generalize hrr:u%1000000000=r at *;generalize hqq:u / 1000000000=q at *;have wr:IntKind.i64.wrap ((r:Nat):Int)=(r:Int):=wrap_i64 (by omega) (by omega);have hit:=aHn (n:=(r:Int)) (by omega) (by omega);have hdr:Lib.itoa (r:Int)=Lib.decDigits r:=by unfold Lib.itoa;rw[if_neg (by omega)];rfl
 rw[hdr] at hit;have gq:((H1.alloc (dY.cells (wC zs) false)).set H1.next (dY.cells (wC (aW 16 q)) false)).get H1.next=some (.cells (wC (aW 16 q)) false):=by rw[aA.aC,if_pos rfl]
 refine bS ?_;simp only[↓zP,zJ,seval,wr];refine bK (hit _) ?_;simp only[↓zP,zG,seval];refine bT ?_;obtain⟨H2,ZO⟩:∃H2,H2=(H1.alloc (dY.cells (wC zs) false)).set H1.next (dY.cells (wC (aW 16 q)) false):=⟨_,rfl⟩;rw[<-ZO] at gq ⊢;have n2:H2.next=H1.next+1:=by rw[ZO];simp
 have o2:∀j,j<H1.next->H2.get j=H1.get j:=fun j hj=>by rw[ZO,aA.aC,if_neg (by omega),aA.aF,if_neg (by omega)]
 clear ZO;have hqW:q<W^16:=by omega
 have aLl:=kY.mono (by omega) o2;refine aJ fun K3 EB=>?_;simp only[↓zP,zJ,seval,gq,lq,rW hqW,f3,oQ];have hqr:u=q*10^9+r:=by rw[<-hqq,<-hrr];omega
 have v3p:∀j,(∀a b c d,v3≠ .sl j a b c d)->∀(H3:aA),(∀j,j<H2.next->(∀a b c d,v3≠ .sl j a b c d)->H3.get j=H2.get j)->j<H1.next->H3.get j=H1.get j:=fun j h1 H3 h2 h3=>(h2 j (by omega) h1).trans (o2 j h3)
 have v30:∀a b c d,v3≠ .sl 0 a b c d:=fun a b c d e=>by
  rcases kY with ⟨_,h⟩|⟨nF,_,h,_,h4,_⟩
  · rw[h] at e;cases e
  rw[h] at e;cases e;omega
 refine⟨fun hq0=>?_,fun hq0=>?_⟩
 · obtain⟨v',H3,ha,Zc,RL,ZX,_⟩:=aLl.push (by omega) (by omega) (Lib.decDigits r);rw[ha];simp only[↓zP,seval];apply hK;clear EB K3 cK K2 hK K;have g03:=(v3p 0 v30 H3 ZX (by omega)).trans g0
   have wE:Lib.decDigits z.natAbs=(ps++[Lib.decDigits r]).reverse.flatten:=by rw[ZQ,hqr,hq0,Ic,Df,Lc];rfl
   have bN:ps++[Lib.decDigits r]≠[]:=(by simp);have bFv:(ps++[Lib.decDigits r]).length<=19:=(by rw[An];simp only[Ah,Ay];omega);generalize bKc:ps++[Lib.decDigits r]=ps' at Zc wE bN bFv
   have hlen:(Lib.itoa z).length<=200:=by
    have h1:=yO (k:=155) (r:=z.natAbs) (by decide) (Cf hz (by decide+kernel));unfold Lib.itoa;split
    · simp only[Ah];omega
    rw[show z.toNat=z.natAbs by omega];omega
   refine aJ fun K4 SJ=>?_
   have tail:∀(f':cU) (Hx:aA) (v:AV) (qs:List (List UInt8)),f' 3=v->OD Hx v qs->qs≠[]->qs.length<=30->qs.reverse.flatten=Lib.itoa z->K4 f' [] Hx:=by
    intro f' Hx v qs e3 hr hq hl he
    rcases hr with ⟨h,_⟩|⟨nF,_,rfl,hg,_,_⟩
    · exact absurd h hq
    obtain⟨Hy,hS,hg',_,_⟩:=YV (by omega) hg;have hj:=aBy (xs:=qs.reverse) (sep:=[]) (by simpa using hq) (by rw[Ld];omega) (by rw[join_nil,he];omega) hg';rw[Ld,join_nil,he] at hj;apply SJ;clear SJ K4;simp only[↓zP,zG,seval,e3];refine bK (hS) ?_;simp only[↓zP,zG,seval,e3];refine bK (hj) ?_;simp only[↓zP,zG,seval];refine Rx ?_;rfl
   have z1:(cI z).getD 1 aD=.bool (decide (z<0)):=rfl;simp only[↓zP,zJ,seval,f1,g03,z1];refine⟨fun hn=>?_,fun hn=>?_⟩
   · obtain⟨v2,H4,ha2,hr4,_,_,_⟩:=Zc.push (by omega) (by omega) [45];simp only[oQ,ha2];simp only[↓zP,seval];refine tail _ _ _ _ (by simp only[↓zP,seval]) hr4 (by simp) (by rw[An];simp only[Ah,Ay];omega) ?_;unfold Lib.itoa;rw[if_pos hn,Lc,Ez,<-wE];rfl
   refine tail _ _ _ _ (by simp only[↓zP,zG,seval]) Zc bN (by omega) ?_;rw[<-wE];unfold Lib.itoa;rw[if_neg hn,show z.toNat=z.natAbs by omega]
 apply EB;clear EB K3;have hl:=yO (k:=9) (r:=r) (by decide) hr;have xE:1<=(Lib.decDigits r).length:=by rw[Lib.decDigits];split<;>simp
 have w9:IntKind.i64.wrap (9 -((Lib.decDigits r).length:Int))=((9 -(Lib.decDigits r).length:Nat):Int):=wI (by omega);have aSk:=tv (s:=[48]) (c:=9 -(Lib.decDigits r).length) (by decide) (by simp;omega)
 have bFs:Lib.repeatL [48] (9 -(Lib.decDigits r).length)++Lib.decDigits r=NS 9 r:=by
  rw[jq (by decide) hr];congr 1;generalize 9 -(Lib.decDigits r).length=c
  induction c with
  |zero=>rfl
  |succ c ih=>rw[Lib.repeatL,ih,Dv];rfl
 obtain⟨v',H3,ha,Zc,RL,ZX,SU⟩:=aLl.push (by omega) (by omega) (NS 9 r);have g03:=(v3p 0 v30 H3 ZX (by omega)).trans g0;have gp3:=(v3p p JB H3 ZX (by omega)).trans gp
 have v3q:∀a b c d,v3≠ .sl H1.next a b c d:=fun a b c d e=>by
  rcases kY with ⟨_,h⟩|⟨nF,_,h,_,_,h5⟩
  · rw[h] at e;cases e
  rw[h] at e;cases e;omega
 have gq3:=(ZX H1.next (by omega) v3q).trans gq
 have hb:qL .add (Lib.repeatL [48] (9 -(Lib.decDigits r).length)) (Lib.decDigits r)=some (.str (Lib.repeatL [48] (9 -(Lib.decDigits r).length)++Lib.decDigits r)):=by unfold qL;rw[if_pos (by rw[Lib.repeatL_length];simp only[Ah,Ay];omega)]
 refine bS ?_;simp only[↓zP,zJ,seval,f3,w9];refine bK (aSk _) ?_;simp only[↓zP,zJ,seval,hb,bFs,oQ,ha];refine bT ?_;simp only[↓zP,zJ,seval,gq3,lq,f4,gp3,lu];apply cK;clear cK K2;simp only[↓zP,zJ,seval,f4,lq]
 cases m with
 |zero=>rw[show(10^9:Nat)^(0+1)=1000000000 by decide] at hum;omega
 |succ m=>
  have hqm:q<(10^9)^(m+1):=by rw[Dd (10^9) (m+1)] at hum;rw[<-hqq];exact Nat.div_lt_of_lt_mul (by rw[Da];exact hum)
  refine⟨m,by omega,q,H3.next,v',ps++[NS 9 r],rfl,hqm,hqW,.inr (by omega),by rw[An];simp only[Ah,Ay];omega,?_,Zc.jb (p:=p) (by simp) (fun j hj hjp=>?_) (SU p (by omega)),by omega,by simp,?_,?_,?_⟩
  · rw[ZQ,hqr,Rm 9 q r (by omega) hr,Lc,Cw];rfl
  · rw[aA.aC,if_neg (by omega),aA.aF,if_neg (by simp;omega),aA.aC,if_neg hjp]
  · intro a b c d e
    rcases Zc with ⟨h,_⟩|⟨nF,_,h,_,_,h5⟩
    · simp at h
    rw[h] at e;cases e;omega
  · rw[if_pos rfl]
  rw[if_neg (by omega),if_neg (by omega),if_neg (by omega)];exact g03
theorem xS {n:Int} (h0: -2^63<=n) (h1:n<2^63) (H:aA):St 34 [.int .i64 n] H (.ret (.str (Lib.itoa n))) H:=by refine gH sN gY aMd (Af rfl) (by simp only[sf]) (by simp only[sf]) ?_ H;unfold aFz;dsimp only;have hof:=fun H=>toT (by simp only[sf]) (by simp only[sf,cH]) (wT h0 h1) H;have hW:n.natAbs<W^16:=Er (show n.natAbs<=2^63 by omega) (by decide+kernel);simp only[↓zP,zJ,seval];refine bK (hof _) ?_;refine bK (aJw hW _) ?_;simp only[↓zP,zG,seval];refine Rx ?_;rfl
def LI (H:aA) (lo sz:Nat) (v:AV) (els:List (List AV)):Prop:=v=.aV 1 sz els\/∃k,v=.aV (k+2) sz els/\lo<=k/\k<H.next/\H.get k=some .tok
theorem LI.push {H:aA} {lo sz bytes:Nat} {v:AV} {els ys:List (List AV)} (h:LI H lo sz v els) (AK:lo<=H.next) (hy:ys.isEmpty=false) (hb:(els.length+ys.length)*bytes<=2^40):
 ∃v' H',dU H sz bytes false v ys=some (v',H')/\LI H' lo sz v' (els++ys)/\H'.next=H.next+1/\∀id,id<lo->H'.get id=H.get id:=by
 rcases h with rfl|⟨k,rfl,h1,h2,h3⟩
 · exact⟨.aV (H.next+2) sz (els++ys),H.alloc .tok,by simp[dU,hy,hb,iO],.inr ⟨H.next,rfl,AK,by simp,by rw[aA.aF,if_pos rfl]⟩,by simp,fun id hid=>by rw[aA.aF,if_neg (by omega)]⟩
 exact⟨.aV (H.next+2) sz (els++ys),(H.set k .dead).alloc .tok,by simp[dU,hy,hb,h3],.inr ⟨H.next,rfl,AK,by simp,by rw[aA.aF,if_pos (by simp)]⟩,by simp,fun id hid=>by rw[aA.aF,if_neg (by simp;omega),aA.aC,if_neg (by omega)]⟩
theorem LI.mono {H H':aA} {lo sz:Nat} {v:AV} {els:List (List AV)} (h:LI H lo sz v els) (hn:H.next<=H'.next) (ho:∀j,j<H.next->H'.get j=H.get j):LI H' lo sz v els:=by
 rcases h with h|⟨k,h1,h2,h3,h4⟩
 · exact .inl h
 exact .inr ⟨k,h1,h2,by omega,by rw[ho _ h3];exact h4⟩
theorem LI.join {H:aA} {lo:Nat} {v:AV} {xs:List (List UInt8)} (h:LI H lo 1 v (cD xs)) {sep:List UInt8} (bN:xs≠[]) (hN:xs.length<=2^40) (hlen:(Lib.join xs sep).length<=2^40):
 St 33 [v,.str sep] H (.ret (.str (Lib.join xs sep))) H:=by
 have key:∀tag,St 33 [.aV tag 1 (cD xs),.str sep] H (.ret (.str (Lib.join xs sep))) H:=fun tag=>OG aCr moT bN (by omega) (by omega) (fun bk o c ys w h1 h2 h3 h4 h5=>Any.strings_Join Tryz.UK Tryz.pB bk o c ys ⟨sep.toArray⟩ w h1 h2 h3 h4 h5) tag H
 rcases h with rfl|⟨k,rfl,_⟩
 · exact key _
 exact key _
def lD (v:aG.V):List (List UInt8):=[Lib.itoa v.x,Lib.itoa v.y,Lib.itoa v.z]
def qC (l:List aG.V):List (List UInt8):=[112,97,114,116]::l.flatMap lD
def kZ (l:List aG.V):List UInt8:=Lib.join (qC l) [32]
def iC (name:List UInt8) (m0 m1 r0 r1:Int):List (List UInt8):=[[98,111,100,121],name,[109,97,115,115],Lib.itoa m0,Lib.itoa m1,[114,111,117,103,104],Lib.itoa r0,Lib.itoa r1]
def QZ (name:List UInt8) (ls:List (List aG.V)) (m0 m1 r0 r1:Int):List UInt8:=Lib.join (Lib.join (iC name m0 m1 r0 r1) [32]::ls.map kZ) [10]++[10]
theorem eV {n:Int} (h0: -2^63<=n) (h1:n<2^63):(Lib.itoa n).length<=20:=by
 have h:=yO (k:=19) (r:=n.natAbs) (by decide) (Er (show n.natAbs<=2^63 by omega) (by decide));unfold Lib.itoa;split
 · simp only[Ah];omega
 rw[show n.toNat=n.natAbs by omega];omega
theorem join_le {B:Nat} {sep:List UInt8}:∀{xs:List (List UInt8)},(∀x∈xs,x.length<=B)->(Lib.join xs sep).length<=xs.length*(B+sep.length)
 |[],_=>by simp[Lib.join]
 |[x],h=>by have :=h x (by simp);simp[Lib.join];omega
 |x::y::r,h=>by
  have ih:=join_le (sep:=sep) (fun z hz=>h z (Aw _ hz):∀z∈y::r,z.length<=B);have hx:=h x (by simp);have e:Lib.join (x::y::r) sep=x++sep++Lib.join (y::r) sep:=by simp[Lib.join,List.intercalate,List.intersperse]
  rw[e,An,An,Ah (a:=x),Ce,Gq];omega
def yl (v:aG.V):Prop:=(-2^63<=v.x/\v.x<2^63)/\(-2^63<=v.y/\v.y<2^63)/\(-2^63<=v.z/\v.z<2^63)
theorem Qj {l:List aG.V} (hv:∀v∈l,yl v):(∀x∈qC l,x.length<=20)/\(qC l).length=3*l.length+1:=by
 constructor
 · intro x hx
   rcases Aq.1 hx with rfl|hx
   · decide
   obtain⟨v,p9,hx⟩:=En.1 hx;obtain⟨⟨a,b⟩,⟨c,d⟩,e,f⟩:=hv v p9;simp only[lD,Aq,Bx,Em] at hx
   rcases hx with rfl|rfl|rfl
   · exact eV a b
   · exact eV c d
   exact eV e f
 unfold qC;rw[Ah];congr 1
 induction l with
 |nil=>rfl
 |cons v r ih=>rw[Cl,An,ih fun w hw=>hv w (Aw _ hw)];simp only[lD,Ah,Ay];omega
theorem Nh {l:List aG.V} (hv:∀v∈l,yl v) (hl:l.length<=64):(kZ l).length<=5000:=by obtain⟨h1,h2⟩:=Qj hv;have :=join_le (sep:=[32]) h1;rw[h2] at this;unfold kZ;simp only[Ah,Ay] at this;omega
theorem QY (xs:List (List UInt8)) (x:List UInt8):cD xs++[[.str x]]=cD (xs++[x]):=by simp[cD]
theorem TE (xs:List (List UInt8)):(cD xs).length=xs.length:=Ad _
theorem Qi (v:aG.V) {k:Nat} (hk:k<3):(lD v).take (k+1)=(lD v).take k++[Lib.itoa (v.at k)]:=by
 match k,hk with
 |0,_=>rfl
 |1,_=>rfl
 |2,_=>rfl
theorem yl.at {v:aG.V} (h:yl v) {k:Nat} (hk:k<3): -2^63<=v.at k/\v.at k<2^63:=by
 match k,hk with
 |0,_=>exact h.1
 |1,_=>exact h.2.1
 |2,_=>exact h.2.2
theorem Vi {name:List UInt8} (mC:name.length<=100) {ps:List (AV×List aG.V)} (oZ:∀p∈ps,mP p) (hlen:∀p∈ps,p.2.length<=64) (nP:ps.length<=8) (hv:∀p∈ps,∀v∈p.2,yl v)
 {m0 m1 r0 r1:Int} (a0: -2^63<=m0/\m0<2^63) (a1: -2^63<=m1/\m1<2^63) (a2: -2^63<=r0/\r0<2^63) (a3: -2^63<=r1/\r1<2^63) (H:aA):
 St 9 [.agg (bX name (.aV 0 1 (jF ps)) m0 m1 r0 r1)] H (.ret (.str (QZ name (ps.map (·.2)) m0 m1 r0 r1))) H:=by
 have DI:bU [AV.agg (bX name (.aV 0 1 (jF ps)) m0 m1 r0 r1)]=true:=by simp only[sf,bX,CG oZ]
 refine gH sN gY bBx (Af rfl) DI (by simp only[sf]) ?_ H;unfold W9T;dsimp only;have n0:=xS a0.1 a0.2;have n1:=xS a1.1 a1.2;have n2:=xS a2.1 a2.2;have n3:=xS a3.1 a3.2;have GG:(jF ps).length=ps.length:=Ad _
 have aRx:(Lib.join (iC name m0 m1 r0 r1) [32]).length<=1000:=by
  have :=join_le (B:=100) (sep:=[32]) (xs:=iC name m0 m1 r0 r1) (by
   intro x hx;simp only[iC,Aq,Bx,Em] at hx
   rcases hx with rfl|rfl|rfl|rfl|rfl|rfl|rfl|rfl
   · decide
   · exact mC
   · decide
   · exact Br (eV a0.1 a0.2) (by decide)
   · exact Br (eV a1.1 a1.2) (by decide)
   · decide
   · exact Br (eV a2.1 a2.2) (by decide)
   exact Br (eV a3.1 a3.2) (by decide))
  simp only[iC,Ah,Ay] at this ⊢;omega
 have aWp:∀H,St 33 [.aV 1 1 (cD (iC name m0 m1 r0 r1)),.str [32]] H (.ret (.str (Lib.join (iC name m0 m1 r0 r1) [32]))) H:=fun H=>by exact LI.join (lo:=0) (.inl rfl) (by simp[iC]) (by simp[iC]) (by omega)
 have hhd:∀H,St 33 [.aV 1 1 [[.str [98,111,100,121]],[.str name],[.str [109,97,115,115]],[.str (Lib.itoa m0)],[.str (Lib.itoa m1)],[.str [114,111,117,103,104]],[.str (Lib.itoa r0)],[.str (Lib.itoa r1)]],.str [32]] H (.ret (.str (Lib.join (iC name m0 m1 r0 r1) [32]))) H:=aWp;refine bS ?_;simp only[↓zP,zJ,seval,bX];refine fL ?_;refine Dz ?_;simp only[↓zP,zJ,seval,zD,jI];refine eT (n0 _) ?_;simp only[↓zP,zJ,seval,zD,jI];refine eT (n1 _) ?_;simp only[↓zP,zJ,seval,zD,jI];refine eT (n2 _) ?_;simp only[↓zP,zJ,seval,zD,jI];refine eT (n3 _) ?_;simp only[↓zP,zJ,seval,zD];refine eT (hhd _) ?_;simp only[↓zP,zJ,seval,zD];refine bT ?_;generalize hJh:Lib.join (iC name m0 m1 r0 r1) [32]=hd;simp only[↓zP,zJ,seval,GG];refine bQ [3] (fun i vs H'=>∃v3,vs=[v3]/\LI H' 1 1 v3 (cD (hd::(ps.take i).map fun p=>kZ p.2))/\1<=H'.next) ps.length (by omega) (by decide) ?_ ?_ ?_ ?_ ?_
 · simp only[zB,seval]
 · simp only[zB,seval]
 · exact⟨.aV 1 1 [[.str hd]],by simp only[sm,zB,seval],.inl rfl,by simp⟩
 · rintro i f H1 hi hk e1 ⟨v3,fP,kY,DJ⟩;simp only[zM] at fP;have f33:f 33=.aV 0 1 (jF ps):=hk 33 rfl;obtain⟨p,hp⟩:∃p,ps[i]=p:=⟨_,rfl⟩;have hpm:p∈ps:=by rw[<-hp];exact Ai hi
   have hpg:(jF ps).getD i []=[p.1]:=(by unfold jF;rw[List.getD,Bo,Ab hi,hp];rfl);refine aH ?_;refine bS ?_;simp only[↓zP,zJ,seval,f33,e1,aB,GG,hi,hpg];refine fL ?_;simp only[↓zP,zJ,seval];refine bT ?_;refine aJ fun K hK=>?_;have hlw:=Nh (hv p hpm) (hlen p hpm);have hwl:=Qj (hv p hpm);have bJp:=hlen p hpm;have f3:f 3=v3:=fP
   have tail:∀(f':cU) (H':aA) (v6:AV),f' 3=v3->f' 6=v6->LI H' (H1.next+1) 1 v6 (cD (qC p.2))->(∀j,j<H1.next->H'.get j=H1.get j)->H1.next<=H'.next->K f' [] H':=by intro f' H' v6 e3 e6 hr6 ho hn;have hj:=hr6.join (sep:=[32]) (by simp[qC]) (by rw[hwl.2];omega) (by show(kZ p.2).length<=_;omega);have Zc:=kY.mono hn ho;obtain⟨v',H2,ha,hr,DK,_⟩:=Zc.push (bytes:=16) (ys:=[[.str (kZ p.2)]]) (by omega) rfl (by rw[TE];simp only[Ah,Ay,Ad,Cb];omega);apply hK;clear hK K;simp only[↓zP,zJ,seval,e3,e6];refine bK (hj) ?_;simp only[↓zP,zJ,seval,show Lib.join (qC p.2) [32]=kZ p.2 from rfl,oQ,ha];refine⟨_,rfl,?_,by omega⟩;rw[QY] at hr;rw[Ap,Ab hi,hp,Ec,Ch];exact hr
   rcases oZ p hpm with ⟨q1,q2⟩|q1
   · simp only[↓zP,zJ,seval,q1];refine bQ [6] (fun j vs H'=>vs=[.aV 1 1 [[.str [112,97,114,116]]]]/\H'=(H1.alloc (dY.cells [AV.aS] false)).set H1.next (dY.cells [AV.aS] false)) 0 (by decide) (by decide) ?_ ?_ ?_ ?_ ?_
     · simp only[zB,seval]
     · simp only[zB,seval]
     · exact⟨by simp only[sm,zB,seval],rfl⟩
     · intro j f2 H2 hj;omega
     rintro f2 H2 dA ⟨qT,rfl⟩;simp only[zM] at qT;refine tail f2 _ (.aV 1 1 [[.str [112,97,114,116]]]) ((dA 3 rfl).trans f3) qT (.inl (by rw[q2];rfl)) (fun j hj=>?_) (by simp);rw[aA.aC,if_neg (by omega),aA.aF,if_neg (by omega)]
   simp only[↓zP,zJ,seval,q1,aL];refine bQ [6] (fun j vs H'=>∃v6,vs=[v6]/\LI H' (H1.next+1) 1 v6 (cD ([112,97,114,116]::(p.2.take j).flatMap lD))/\(∀j,j<H1.next->H'.get j=H1.get j)/\H1.next+1<=H'.next) p.2.length (by omega) (by decide) ?_ ?_ ?_ ?_ ?_
   · simp only[zB,seval]
   · simp only[zB,seval]
   · refine⟨_,by simp only[sm,zB,seval];rfl,.inl rfl,fun j hj=>?_,by simp⟩;rw[aA.aC,if_neg (by omega),aA.aF,if_neg (by omega)]
   · rintro j f2 H2 hj dA e2 ⟨v6,qT,Zb,RO,DK⟩;simp only[zM] at qT;have g41:f2 41=.aV 0 3 (bF p.2):=dA 41 rfl;have hvv:=hv p hpm _ (Ai hj);refine aH ?_;refine bS ?_;simp only[↓zP,zJ,seval,g41,e2,aB,aL,hj,bY hj,oL (aM p.2[j])];refine bT ?_;generalize hvj:p.2[j]=w at *;have c3z:[AV.int .i64 0,.int .i64 0,.int .i64 0].length=3:=rfl;simp only[↓zP,zJ,seval,oL (aM w)]
     have AK:∀j,j<H2.next->((H2.alloc (dY.cells [AV.int IntKind.i64 0,AV.int IntKind.i64 0,AV.int IntKind.i64 0] false)).set H2.next (dY.cells (bZ w) false)).get j=H2.get j:=fun j hj=>by rw[aA.aC,if_neg (by omega),aA.aF,if_neg (by omega)]
     refine iR [6] (fun k vs H'=>∃v6,vs=[v6]/\LI H' (H1.next+1) 1 v6 (cD (([112,97,114,116]::(p.2.take j).flatMap lD)++(lD w).take k))/\(∀j,j<H1.next->H'.get j=H1.get j)/\H1.next+1<=H'.next) 3 (by decide) rfl (by decide) ?_ ?_ ?_ ?_
     · simp only[zB,seval]
     · refine⟨v6,by simp only[sm,zB,seval,qT],?_,fun j hj=>?_,by simp;omega⟩
       · rw[Eb,Bz];exact Zb.mono (by simp) AK
       rw[AK j (by omega)];exact RO j hj
     · rintro k f3' H3 aBf kR e3 ⟨v6',PG,Zc,ZX,RL⟩;simp only[zM] at PG;have g47:f3' 47=.agg (bZ w):=kR 47 rfl;have NO:=xS (hvv.at aBf).1 (hvv.at aBf).2
       obtain⟨v',H4,ha,hr4,hn4,ho4⟩:=Zc.push (bytes:=16) (ys:=[[.str (Lib.itoa (w.at k))]]) (by omega) rfl (by
        have h1:((p.2.take j).flatMap lD).length<=3*64:=by have :=(Qj (l:=p.2.take j) (fun v lP=>hv p hpm v (Cx lP))).2;simp only[qC,Ah,Cb] at this;omega
        have h2:((lD w).take k).length<=3:=by rw[Cb];omega
        rw[TE,An,Ah];simp only[Ah,Ay];omega)
       refine aH ?_;refine bS ?_;simp only[↓zP,zJ,seval,g47,e3,aB,aBf,aM,iM w aBf,show k<=2 by omega];refine bT ?_;simp only[↓zP,zJ,seval,PG];refine bK (NO _) ?_;simp only[↓zP,zJ,seval,oQ,ha];refine⟨v',rfl,?_,fun j hj=>by rw[ho4 j (by omega)];exact ZX j hj,by omega⟩;rw[QY,Cw,<-Qi w aBf] at hr4;exact hr4
     rintro f3' H3 kR ⟨v6',PG,Zc,ZX,RL⟩;simp only[zM] at PG;refine⟨v6',by simp only[PG],?_,ZX,RL⟩;rw[Ap,Ab hj,hvj,Ec,Fa];simpa [lD] using Zc
   rintro f2 H2 dA ⟨v6,qT,Zb,RO,DK⟩;simp only[zM] at qT;refine tail f2 H2 v6 ((dA 3 rfl).trans f3) qT ?_ RO (by omega);rw[Ar] at Zb;exact Zb
 rintro f H1 hk ⟨v3,fP,kY,DJ⟩;simp only[zM] at fP;rw[Ar] at kY;have hhl:hd.length<=1000:=by rw[<-hJh];exact aRx
 have hlb:(Lib.join (hd::ps.map fun p=>kZ p.2) [10]).length<=2^39:=by
  have :=join_le (B:=5000) (sep:=[10]) (xs:=hd::ps.map fun p=>kZ p.2) (by
   intro x hx
   rcases Aq.1 hx with rfl|hx
   · omega
   obtain⟨p,hp,rfl⟩:=Bf.1 hx
   exact Nh (hv p hp) (hlen p hp))
  simp only[Ah,Ay,Ad] at this;omega
 have hj:=kY.join (sep:=[10]) (by simp) (by simp;omega) (by omega)
 have hb:qL .add (Lib.join (hd::ps.map fun p=>kZ p.2) [10]) [10]=some (.str (Lib.join (hd::ps.map fun p=>kZ p.2) [10]++[10])):=by unfold qL;rw[if_pos (by simp only[Ah,Ay];omega)]
 simp only[↓zP,seval,fP];refine bK (hj) ?_;simp only[↓zP,zG,seval,hb];refine Rx ?_;unfold QZ;rw[hJh,Dp];rfl
end Go.Proofs.YtbndcmnnbiiobaaGreatDoor
namespace Go.Proofs.YtbndcmnnbiiobaaGreatDoor
open Go Go.Av Go.mO
attribute [local congr] aU aO aP aN aY aR aQ aI aZ
attribute [local irreducible] FC bL eU
def rM (c:UInt8):Bool:=decide (48<=c.toNat)&&decide (c.toNat<=57)
def kQ (l:List UInt8):Nat:=l.foldl (fun n c=>10*n+(c.toNat -48)) 0
def Vx (l:List UInt8):Option Int:=l.foldl (fun x c=>IB (GL x (some 10)) (some ((c.toNat:Int) -48))) (some 0)
theorem yD (l:List UInt8) (c:UInt8):kQ (l++[c])=10*kQ l+(c.toNat -48):=by simp[kQ,Gt]
theorem LR (l:List UInt8) (c:UInt8):Vx (l++[c])=IB (GL (Vx l) (some 10)) (some ((c.toNat:Int) -48)):=by simp[Vx,Gt]
theorem ee:∀(n:Nat) (l:List UInt8),l.length=n->l.all rM=true->Vx l=norm (kQ l)
 |0,l,h,_=>by have :l=[]:=Fy.1 h;subst this;rfl
 |n+1,l,h,ha=>by
  obtain⟨r,c,rfl⟩:∃r c,l=r++[c]:=by
   rcases Ja l with rfl|⟨r,c,rfl⟩
   · simp at h
   exact⟨r,c,by simp⟩
  rw[Hn,Am] at ha;have hc:48<=c.toNat:=by have :=ha.2;simp[rM] at this;omega
  rw[LR,yD,ee n r (by simpa using h) ha.1];generalize kQ r=v;have e:((c.toNat:Int) -48)=((c.toNat -48:Nat):Int):=by omega
  rw[e];generalize c.toNat -48=d;unfold norm;by_cases h1:(v:Int).natAbs<W^16
  · rw[if_pos h1];simp only[GL,norm];by_cases h2:((v:Int)*10).natAbs<W^16
    · rw[if_pos h2];simp only[IB,norm];have e2:(v:Int)*10+(d:Int)=((10*v+d:Nat):Int):=(by omega);rw[e2]
    rw[if_neg h2,if_neg (by omega)];rfl
  rw[if_neg h1,if_neg (by omega)];rfl
def cX (s:List UInt8):List UInt8:=if s.head?=some 45 then s.drop 1 else s
def kV (s:List UInt8):Bool:= !(cX s).isEmpty&&((cX s).head? != some 48||s==[48])&&(cX s).all rM
def jw (s:List UInt8):Int:=if s.head?=some 45 then -(kQ (cX s):Int) else kQ (cX s)
def pZ (s:List UInt8):Option Int:=if kV s=true/\(cX s).length<=512 then norm (jw s) else none
def eZ (s:List UInt8):Int:=if kV s=false then 281 else if(pZ s).isSome then 0 else 30
theorem DT (s:List UInt8):(jw s).natAbs=kQ (cX s):=by unfold jw;split<;>omega
theorem yh {s:List UInt8} (hs:s.length<2^62) (H:aA):Sg 37 [.str s] H (.ret (.gP [.agg (cO (pZ s)),.int .i64 (eZ s)])) H:=by
 refine Sp bBg (by simp only[sf]) (by simp only[sf,tG]) ?_ H;unfold W37;dsimp only;have wD:wU.length=18:=rfl;refine bS ?_;simp only[↓zP,zJ,seval];refine fL ?_;simp only[↓zP,zJ,seval];refine bT ?_;obtain⟨H0,oo⟩:∃H0,H0=({next:=0,tr:=Tr.nil}:aA).alloc (dY.cells (AV.bool false::AV.bool false::wC zs) false):=⟨_,rfl⟩;have g0:H0.get 0=some (.cells (AV.bool false::AV.bool false::wC zs) false):=by rw[oo];rfl
 have UR:H0.next=1:=by rw[oo];rfl
 rw[<-oo];clear oo;refine aJ fun K hK=>?_
 have ph2:∀f':cU,f' 0=.str s->f' 2=.ref 0 0->f' 3=.int .i64 0->f' 4=.str (cX s)->K f' [] H0:=by
  intro f' f0 f2 f3 f4;apply hK;clear hK K;refine aJ fun K hK=>?_;have b1:∀x y:List UInt8,qL .eql x y=some (.bool (x==y)):=fun _ _=>rfl;have b2:∀x y:List UInt8,qL .neq x y=some (.bool (!(x==y))):=fun _ _=>rfl
  have bad:kV s=false->pZ s=none/\eZ s=281:=fun h=>by unfold pZ eZ;rw[if_neg (by rw[h];simp),if_pos h];exact⟨rfl,rfl⟩
  have ph3:∀f':cU,f' 0=.str s->f' 2=.ref 0 0->f' 3=.int .i64 0->f' 4=.str (cX s)->(cX s).isEmpty=false->((cX s).head? != some 48||s==[48])=true->K f' [] H0:=by
   clear f0 f2 f3 f4 f';intro f' f0 f2 f3 f4 bN h48;apply hK;clear hK K;refine aJ fun K hK=>?_;have Nc:(cX s).length<=s.length:=by unfold cX;split<;>simp
   have ph4:∀f':cU,f' 0=.str s->f' 2=.ref 0 0->f' 3=.int .i64 0->f' 4=.str (cX s)->(cX s).all rM=true->K f' [] (H0.alloc .tok):=by
    clear f0 f2 f3 f4 f';intro f' f0 f2 f3 f4 dB;have BM:kV s=true:=(by unfold kV;rw[bN,h48,dB];rfl);apply hK;clear hK K;refine aJ fun K hK=>?_;have nx1:(H0.alloc .tok).next=2:=(by simp[UR]);have g01:(H0.alloc .tok).get 0=some (.cells (AV.bool false::AV.bool false::wC zs) false):=(by rw[aA.aF,if_neg (by omega)];exact g0);generalize H0.alloc .tok=H1 at nx1 g01;simp only[↓zP,zG,seval,f4];refine⟨fun h=>?_,fun h=>?_⟩
    · refine bK (sI _) ?_;simp only[↓zP,zJ,seval,f2,g01,wD];refine⟨rfl,_,by simp only[↓zP,zR,seval,f2,oL wD];rfl,?_⟩;have hp:pZ s=none:=(by unfold pZ;rw[if_neg (by omega)]);have he:eZ s=30:=(by unfold eZ;rw[if_neg (by rw[BM];decide),hp];rfl);rw[hp,he];rfl
    have aLf:(cX s).length<=512:=(by omega);apply hK;clear hK K;refine bS ?_;simp only[↓zP,seval,zI];refine bK (wT (z:=0) (by decide) (by decide) _) ?_;refine bK (wT (z:=10) (by decide) (by decide) _) ?_;simp only[↓zP,zJ,seval,nx1];refine bT ?_;refine aJ fun K hK=>?_;simp only[↓zP,zJ,seval,f4,rE,nx1];have ten:fZ (cI 10) (some 10):=fZ.enc (by decide)
    have isF:∀l,fZ (cO (Vx l)) (Vx l):=fun l=>by
     rcases Ja l with rfl|⟨r,c,rfl⟩
     · exact fZ.enc (by decide)
     rw[List.concat_eq_append,LR];exact fZ.add
    refine bQ [] (fun i vs H'=>H'.get 2=some (.cells (cO (Vx ((cX s).take i))) false)/\H'.get 3=some (.cells (cI 10) false)/\H'.get 0=some (.cells (AV.bool false::AV.bool false::wC zs) false)) (cX s).length (by omega) (by decide) ?_ ?_ ?_ ?_ ?_
    · simp only[zB,seval]
    · simp only[zB,seval]
    · refine⟨?_,?_,?_⟩<;>simp only[zI,seval,nx1,g01]<;>rfl
    · rintro i f H2 hi hk e1 ⟨h2,h3,h0⟩;have q56:f 56=.aV 6 1 (Qs (cX s)):=hk 56 rfl;have q7:f 7=.ref 2 0:=hk 7 rfl;have q8:f 8=.ref 3 0:=hk 8 rfl;have hg:=Qb hi
      have AJ:(cX s)[i]?=some ((cX s).getD i 0):=(by rw[List.getD,Ab hi];rfl);have hdc:rM ((cX s).getD i 0)=true:=Ba.1 dB _ (Jg AJ);have hsn:(cX s).take (i+1)=(cX s).take i++[(cX s).getD i 0]:=(by rw[Ap,AJ,Ec]);have lF:=oL (isF ((cX s).take i)).len;have lF2:=oL (isF ((cX s).take (i+1))).len;have HJ:=LR ((cX s).take i) ((cX s).getD i 0);rw[<-hsn] at HJ;generalize wc:(cX s).getD i 0=c at *;have wb:48<=c.toNat/\c.toNat<=57:=by simp[rM] at hdc;omega
      have w1:IntKind.u8.wrap ((c.toNat:Int) -48)=((c.toNat -48:Nat):Int):=by rw[show(c.toNat:Int) -48=((c.toNat -48:Nat):Int) by omega];exact wu8 (by omega)
      have w2:IntKind.i64.wrap ((c.toNat -48:Nat):Int)=(c.toNat:Int) -48:=wI (by omega);have isD:fZ (cI ((c.toNat:Int) -48)) (some ((c.toNat:Int) -48)):=fZ.enc (Er (show((c.toNat:Int) -48).natAbs<=10 by omega) (by decide));refine aH ?_;refine bS ?_;simp only[↓zP,zJ,seval,q56,e1,aB,rE,hi,hg];refine bT ?_;simp only[↓zP,zJ,seval,q7,q8,h2,h3,lF];refine bK (OA (isF ((cX s).take i)) ten _) ?_;simp only[↓zP,zG,seval,w1,w2];refine bK (wT (z:=(c.toNat:Int) -48) (by omega) (by omega) _) ?_;refine bK (TK (fZ.mul (x:=Vx ((cX s).take i)) (y:=some 10)) isD _) ?_;rw[<-HJ];simp only[↓zP,zJ,seval,q7,h2,lF,lF2];exact⟨trivial,h3,h0⟩
    rintro f H2 hk ⟨h2,h3,h0⟩;have q7:f 7=.ref 2 0:=hk 7 rfl;have q0:f 0=.str s:=(by rw[hk 0 rfl];simp only[↓zP,zG,seval,f0]);have q2:f 2=.ref 0 0:=(by rw[hk 2 rfl];simp only[↓zP,zG,seval,f2]);have q3:f 3=.int .i64 0:=(by rw[hk 3 rfl];simp only[↓zP,zG,seval,f3]);have q4:f 4=.str (cX s):=(by rw[hk 4 rfl];simp only[↓zP,zG,seval,f4]);rw[Ar,ee _ _ rfl dB] at h2;have lF:=oL (fZ.norm (kQ (cX s))).len;apply hK;clear hK K;refine aJ fun K hK=>?_;by_cases hv:(kQ (cX s):Int).natAbs<W^16
    · have hn:norm (kQ (cX s):Int)=some (kQ (cX s):Int):=(by unfold norm;rw[if_pos hv]);rw[hn] at h2 lF;have c0:(cO (some (kQ (cX s):Int))).getD 0 aD=.bool false:=rfl;simp only[↓zP,zJ,seval,q7,h2,lF,c0];apply hK;clear hK K;have hvW:kQ (cX s)<W^16:=(by omega);have hd2:(cO (some (kQ (cX s):Int))).drop 2=wC (aW 16 (kQ (cX s))):=rfl;have lv:=iL (.aW (kQ (cX s)));simp only[↓zP,zJ,seval,q4,q0,b2,q7,h2,lF,hd2,lv];refine bK (DV (!cX s==s) (.aW (kQ (cX s))) _) ?_;simp only[↓zP,zJ,seval,q2,h0,lv];refine⟨rfl,_,by simp only[↓zP,zR,seval,q2,lv];rfl,?_⟩;have hp:pZ s=some (jw s):=(by unfold pZ;rw[if_pos ⟨BM,aLf⟩];unfold norm;rw[if_pos (by rw[DT];omega)]);have he:eZ s=0:=by unfold eZ;rw[if_neg (by rw[BM];decide),hp];rfl
      have hsg:((!cX s==s)&& !decide (aW 16 (kQ (cX s))=zs))=decide (jw s<0):=by
       have hz:=rW hvW;rw[Az.2 hz];unfold jw;by_cases h45:s.head?=some 45
       · rw[if_pos h45]
         have RN:(cX s==s)=false:=by
          rw[Ca];intro e;have h1:cX s=s.drop 1:=(by unfold cX;rw[if_pos h45]);have h2:=Ao List.length (h1.symm.trans e)
          cases s with
          |nil=>cases h45
          |cons a b=>simp at h2
         rw[RN];simp only[Fv,Cq];rw[<-Hd,Az];omega
       rw[if_neg h45];have h1:cX s=s:=(by unfold cX;rw[if_neg h45]);rw[show(cX s==s)=true by rw[h1];simp];simp only[Hq,Jt];exact(Ae (by omega)).symm
      rw[hp,he,hsg];show Out.ret _=Out.ret _;simp only[cO,cI,DT];rfl
    have hn:norm (kQ (cX s):Int)=none:=(by unfold norm;rw[if_neg hv]);rw[hn] at h2 lF;have c0:(cO none).getD 0 aD=.bool true:=rfl;simp only[↓zP,zJ,seval,q7,q2,h2,h0,lF,c0];refine⟨rfl,_,by simp only[↓zP,zR,seval,q2,lF];rfl,?_⟩;have hp:pZ s=none:=(by unfold pZ;rw[if_pos ⟨BM,aLf⟩];unfold norm;rw[if_neg (by rw[DT];omega)]);have he:eZ s=30:=(by unfold eZ;rw[if_neg (by rw[BM];decide),hp];rfl);rw[hp,he];rfl
   clear hK;simp only[↓zP,zJ,seval,f4,rE];refine bQ [3] (fun i vs H'=>vs=[.int .i64 0]/\H'=H0.alloc .tok/\((cX s).take i).all rM=true) (cX s).length (by omega) (by decide) ?_ ?_ ?_ ?_ ?_
   · simp only[zB,seval]
   · simp only[zB,seval]
   · exact⟨by simp only[sm,zB,seval,f3],rfl,rfl⟩
   · rintro i f H1 hi hk e1 ⟨fP,rfl,hJ⟩;simp only[zM] at fP;have q35:f 35=.aV (H0.next+2) 1 (Qs (cX s)):=hk 35 rfl;have q2:f 2=.ref 0 0:=(by rw[hk 2 rfl];simp only[↓zP,zG,seval,f2]);have hg:=Qb hi
     have AJ:(cX s)[i]?=some ((cX s).getD i 0):=(by rw[List.getD,Ab hi];rfl);generalize wc:(cX s).getD i 0=c at *;have d1:decide ((c.toNat:Int)<48)= !decide (48<=c.toNat):=(by rw[<-Hd,Az];omega);have d2:decide ((c.toNat:Int)>57)= !decide (c.toNat<=57):=(by rw[<-Hd,Az];omega);have AA:(H0.alloc .tok).get 0=some (.cells (AV.bool false::AV.bool false::wC zs) false):=by rw[aA.aF,if_neg (by omega)];exact g0
     have vJ:rM c=false->kV s=false:=fun h=>by
      have :(cX s).all rM=false:=by rw[Hu];exact⟨c,Jg AJ,by rw[h];decide⟩
      unfold kV;rw[this];simp
     refine aH ?_;refine bS ?_;simp only[↓zP,zJ,seval,q35,e1,aB,rE,hi,hg];refine bT ?_;simp only[↓zP,zJ,seval,d1,d2]
     cases k1:decide (48<=c.toNat) with
     |false=>have hf:=vJ (by unfold rM;rw[k1];rfl);simp only[zJ,seval];refine bK (sI _) ?_;simp only[↓zP,zJ,seval,q2,AA,wD];refine⟨rfl,_,by simp only[↓zP,zR,seval,q2,oL wD];rfl,?_⟩;rw[(bad hf).1,(bad hf).2];rfl
     |true=>
      cases k2:decide (c.toNat<=57) with
      |false=>have hf:=vJ (by unfold rM;rw[k1,k2];rfl);simp only[zJ,seval];refine bK (sI _) ?_;simp only[↓zP,zJ,seval,q2,AA,wD];refine⟨rfl,_,by simp only[↓zP,zR,seval,q2,oL wD];rfl,?_⟩;rw[(bad hf).1,(bad hf).2];rfl
      |true=>simp only[zJ,seval];refine⟨by simp only[seval,fP],trivial,?_⟩;rw[Ap,AJ,Ec,Hn,hJ];simp only[Ik,List.all_nil,rM,k1,k2];rfl
   rintro f H1 hk ⟨fP,rfl,hJ⟩;simp only[zM] at fP;rw[Ar] at hJ;exact ph4 f (by rw[hk 0 rfl];simp only[↓zP,zG,seval,f0]) (by rw[hk 2 rfl];simp only[↓zP,zG,seval,f2]) fP (by rw[hk 4 rfl];simp only[↓zP,zG,seval,f4]) hJ
  clear hK
  cases VF:cX s with
  |nil=>have hf:kV s=false:=(by unfold kV;rw[VF];rfl);rw[VF] at f4;simp only[↓zP,zG,seval,f4,b1,show(([]:List UInt8)==[])=true from rfl,yR];refine bK (sI _) ?_;simp only[↓zP,zJ,seval,f2,g0,wD];refine⟨rfl,_,by simp only[↓zP,zR,seval,f2,oL wD];rfl,?_⟩;rw[(bad hf).1,(bad hf).2];rfl
  |cons d r=>
   have hq:(((d.toNat:Nat):Int)==48)=decide (d=48):=by rw[Gm,Az];refine⟨fun h=>UInt8.toNat_inj.1 (by have :(48:UInt8).toNat=48:=rfl;omega),fun h=>by rw[h];rfl⟩
   rw[VF] at f4;by_cases h48:d=48
   · rw[Al h48] at hq;simp only[↓zP,zG,seval,f4,f0,b1,b2,show((d::r)==[])=false from rfl,jI,Ep,hq]
     cases jA:s==[48] with
     |true=>simp only[yL,Hq];exact ph3 _ (by simp only[↓zP,zG,seval,f0]) (by simp only[↓zP,zG,seval,f2]) (by simp only[↓zP,zG,seval,f3]) (by simp only[↓zP,zG,seval,f4,VF]) (by rw[VF];rfl) (by rw[jA];simp)
     |false=>have hf:kV s=false:=(by unfold kV;rw[VF,jA,h48];rfl);simp only[vG,Fv];refine bK (sI _) ?_;simp only[↓zP,zJ,seval,f2,g0,wD];refine⟨rfl,_,by simp only[↓zP,zR,seval,f2,oL wD];rfl,?_⟩;rw[(bad hf).1,(bad hf).2];rfl
   rw[Ae h48] at hq;simp only[↓zP,zG,seval,f4,b1,show((d::r)==[])=false from rfl,jI,Ep,hq];exact ph3 _ (by simp only[↓zP,zG,seval,f0]) (by simp only[↓zP,zG,seval,f2]) (by simp only[↓zP,zG,seval,f3]) (by simp only[↓zP,zG,seval,f4,VF]) (by rw[VF];rfl) (by rw[VF];simp[h48])
 clear hK
 match s,hs,ph2 with
 |[],_,ph2=>simp only[↓zP,zJ,seval];refine ph2 _ (by simp only[↓zP,zG,seval]) (by simp only[↓zP,zG,seval]) (by simp only[↓zP,zG,seval]) (by simp only[↓zP,zG,seval];rfl)
 |c::r,hs,ph2=>
  have h1:decide ((((r.length+1:Nat)):Int)>0)=true:=by simp
  have hq:(((c.toNat:Nat):Int)==45)=decide (c=45):=by rw[Gm,Az];refine⟨fun h=>UInt8.toNat_inj.1 (by have :(45:UInt8).toNat=45:=rfl;omega),fun h=>by rw[h];rfl⟩
  simp only[Ah] at hs;simp only[↓zP,zJ,seval,h1,jI,Ep,hq];refine⟨fun hc=>?_,fun hc=>?_⟩
  · subst hc;simp only[↓zP,zG,seval,cZ,jI,Bc,Dg,Nat.le_add_left,List.drop_one,List.tail_cons,Jq,Ar];refine ph2 _ (by simp only[↓zP,zG,seval]) (by simp only[↓zP,zG,seval]) (by simp only[↓zP,zG,seval]) (by simp only[↓zP,seval];rfl)
  refine ph2 _ (by simp only[↓zP,zG,seval]) (by simp only[↓zP,zG,seval]) (by simp only[↓zP,zG,seval]) ?_;simp only[↓zP,zG,seval];unfold cX;rw[if_neg (by simpa using hc)]
end Go.Proofs.YtbndcmnnbiiobaaGreatDoor
namespace Go.Proofs.YtbndcmnnbiiobaaGreatDoor
open Go Go.Av Go.Shelf
attribute [local congr] aU aO aP aN aY aR aQ aI aZ
attribute [local irreducible] FC bL eU
def cL (c:UInt8):List UInt8->List (List UInt8)
 |[]=>[[]]
 |b::r=>if b==c then []::cL c r else match cL c r with
  |x::xs=>(b::x)::xs
  |[]=>[[b]]
theorem xX (c:UInt8):∀s,cL c s≠[]
 |[]=>by simp[cL]
 |b::r=>by
  unfold cL;split
  · simp
  split<;>simp
theorem CM {c:UInt8}:∀{s:List UInt8},s.count c=0->cL c s=[s]
 |[],_=>rfl
 |b::r,h=>by
  rw[Il] at h;have hb:(b==c)=false:=by cases hb:b==c<;>simp[hb] at h ⊢
  have :=CM (c:=c) (s:=r) (by omega);unfold cL;rw[hb,this];rfl
theorem QT {c:UInt8}:∀{s:List UInt8},0<s.count c->∃m:Nat,Lib.indexByte s c=(m:Int)/\m<s.length/\cL c s=s.take m::cL c (s.drop (m+1))/\(s.drop (m+1)).count c+1=s.count c
 |[],h=>by simp at h
 |b::r,h=>by
  by_cases hb:(b==c)=true
  · refine⟨0,by unfold Lib.indexByte;rw[if_pos hb];rfl,by simp,?_,?_⟩
    · conv=>lhs;unfold cL
      rw[if_pos hb];simp
    rw[Il,if_pos hb];simp
  have wN:(b==c)=false:=by simpa using hb
  rw[Il,wN] at h;obtain⟨m,h1,h2,h3,h4⟩:=QT (c:=c) (s:=r) (by simpa using h);refine⟨m+1,?_,by simp;omega,?_,?_⟩
  · unfold Lib.indexByte;rw[wN,h1];have :((m:Int)== -1)=false:=by simp
    rw[this];simp
  · conv=>lhs;unfold cL
    rw[wN,h3];simp
  rw[Il,wN];simpa using h4
theorem zx (s:List UInt8) (c:UInt8) (H:aA):St 75 [.str s,.str [c]] H (.ret (.int .i64 (s.count c:Nat))) H:=
 yI aCp (fun w=>Any.strings_Count_one Tryz.ik ⟨s.toArray⟩ c w) H
theorem aBq (s:List UInt8) (c:UInt8) (H:aA):St 76 [.str s,.str [c]] H (.ret (.int .i64 (Lib.indexByte s c))) H:=
 yI aCq (fun w=>Any.strings_Index_one Tryz.il ⟨s.toArray⟩ c w) H
theorem fo (xs:List (List UInt8)):(AV.aV 0 1 (cD xs)).free=true:=by
 have :dJ (cD xs)=true:=by
  induction xs with
  |nil=>rfl
  |cons x r ih=>simp only[cD,By,dJ,bU,AV.free,Ds,Cq] at ih ⊢;exact ih
 simp only[AV.free,this];rfl
theorem WS {s:List UInt8} (c:UInt8) (hs:s.length<2^30) (H:aA):
 St 35 [.str s,.str [c],.int .i64 0,.int .i64 (-1)] H (.ret (.aV 0 1 (cD (cL c s)))) H:=by
 refine dH sN gY aMe (Af rfl) (by simp only[sf]) ?_ H;unfold aGa;dsimp only;have b1:qL .eql [c] []=some (.bool false):=rfl;have IW:s.count c<=s.length:=List.count_le_length;have w1:IntKind.i64.wrap (((s.count c:Nat):Int)+1)=((s.count c+1:Nat):Int):=wI (by omega);have w2:IntKind.i64.wrap (((s.length:Nat):Int)+1)=((s.length+1:Nat):Int):=wI (by omega);have d0:((-1:Int)==0)=false:=rfl;have d1:decide ((-1:Int)<0)=true:=rfl;refine bS ?_;simp only[↓zP,zG,Nat.reduceLT];refine fL ?_;simp only[↓zP,zJ,Nat.reduceLT,Nat.reduceEqDiff,d0];refine fL ?_;simp only[↓zP,zJ,Nat.reduceLT,Nat.reduceEqDiff,b1];refine fL ?_;simp only[↓zP,zJ,Nat.reduceLT,Nat.reduceEqDiff,Int.reduceLT];refine⟨fun _=>?_,fun h=>absurd trivial h⟩;refine bK (zx s c _) ?_;simp only[↓zP,zJ,Nat.reduceLT,w1];refine fL ?_;have aHh:(if((s.length+1:Nat):Int)<((s.count c+1:Nat):Int) then((s.length+1:Nat):Int) else((s.count c+1:Nat):Int))=((s.count c+1:Nat):Int):=if_neg (by omega);simp only[↓zP,zJ,Nat.reduceLT,Nat.reduceEqDiff,w2,aHh];refine bT ?_;obtain⟨N,hN⟩:∃N,N=s.count c:=⟨_,rfl⟩;rw[<-hN] at IW ⊢;have w3:IntKind.i64.wrap (((N+1:Nat):Int) -1)=(N:Int):=wI (by omega)
 have tS:(List.replicate (N+1) [AV.str []]).flatten=lC (List.replicate (N+1) []):=by
  unfold lC;generalize N+1=m
  induction m with
  |zero=>rfl
  |succ m ih=>rw[Dv,Bp,ih,Dv,By];rfl
 refine bS ?_;simp only[↓zP,zJ,Nat.reduceLT,aB,show 16*(N+1)<=2^40 by omega,tS];refine fL ?_;simp only[↓zP,zJ,Nat.reduceLT,Nat.reduceEqDiff,w3];refine fL ?_;simp only[↓zP,zG,Nat.reduceLT];refine bT ?_;refine aJ fun K hK=>?_
 refine aH (fK [0,10] (fun m vs H'=>∃(i:Nat) (t:List UInt8) (dn:List (List UInt8)),vs=[.str t,.int .i64 i]/\dn.length=i/\m=N -i/\t.count c+i=N/\t.length<=s.length/\cL c s=dn++cL c t/\
  H'.get 0=some (.cells (lC (dn++List.replicate (N+1 -i) [])) false)) N (by rfl) ?_ ?_)
 · exact⟨0,s,[],by simp only[sm,zB,Nat.reduceEqDiff,dW];rfl,rfl,by omega,by omega,Ak _,rfl,by simp only[zI]⟩
 rintro m f H1 hk ⟨i,t,dn,hv,Nc,hm,hct,htl,NP,g0⟩;simp only[zM] at hv;obtain⟨f0,f10⟩:=hv;have f3:f 3=.int .i64 N:=by rw[hk 3 rfl];simp only[↓zP,zG,Nat.reduceEqDiff]
 have f1:f 1=.str [c]:=by rw[hk 1 rfl];simp only[↓zP,zG,Nat.reduceEqDiff]
 have f2:f 2=.int .i64 0:=by rw[hk 2 rfl];simp only[↓zP,zG,Nat.reduceEqDiff]
 have f9:f 9=.sl 0 1 0 (N+1) (N+1):=by rw[hk 9 rfl];simp only[↓zP,zG,Nat.reduceEqDiff]
 refine aJ fun K2 cK=>?_;simp only[↓zP,zJ,Nat.reduceLT,Nat.reduceEqDiff,f3,f10];refine⟨fun eQ=>?_,fun Mg=>?_⟩
 · apply cK;clear cK K2;obtain⟨q,h1,h2,h3,h4⟩:=QT (c:=c) (s:=t) (by omega);have dq:decide ((q:Int)<0)=false:=Ae (by omega);have wq:IntKind.i64.wrap ((q:Int)+0)=(q:Int):=wI (by omega);have wq1:IntKind.i64.wrap ((q:Int)+((1:Nat):Int))=((q+1:Nat):Int):=wI (by omega);have wi:IntKind.i64.wrap ((i:Int)+1)=((i+1:Nat):Int):=wI (by omega);refine aH ?_;refine bS ?_;simp only[↓zP,zJ,Nat.reduceLT,Nat.reduceEqDiff,f0,f1];refine bK (aBq t c _) ?_;simp only[↓zP,zG,Nat.reduceLT,h1];refine fL ?_;simp only[↓zP,zJ,Nat.reduceLT,dq];refine bT ?_;have wO:(dn++List.replicate (N+1 -i) ([]:List UInt8)).length=N+1:=by rw[An,Gl];omega
   have rU:=CP (xs:=dn++List.replicate (N+1 -i) []) (i:=i) (by omega) (t.take q);have aRm:(lC (dn++List.replicate (N+1 -i) [])).length=N+1:=(by rw[yA,wO]);have Mk:((t.drop (q+1)).take (t.length -(q+1)))=t.drop (q+1):=Bk (by rw[Dy];omega);simp only[↓zP,zJ,Nat.reduceLT,Nat.reduceEqDiff,f9,f10,f0,f1,f2,wq,wq1,wi,cZ,aB,Bc,Dg,Bb,show q<=t.length by omega,show i<N+1 by omega,g0,aRm,rU,show i+1<=N+1 by omega,show q+1<=t.length by omega,Mk];refine⟨N -(i+1),by omega,i+1,t.drop (q+1),dn++[t.take q],rfl,by rw[An,Nc];rfl,rfl,by omega,by rw[Dy];omega,by rw[NP,h3,Cw];rfl,?_⟩;obtain⟨k,RI⟩:∃k,N+1 -i=k+1:=⟨N -i,by omega⟩;rw[RI,show N+1 -(i+1)=k by omega,Dv,List.set_append,if_neg (by omega),Nc,Kc,List.set_cons_zero,Cw];rfl
 have hiN:i=N:=by omega
 subst hiN;have Qp:t.count c=0:=by omega
 rw[CM Qp] at NP;have rU:=CP (xs:=dn++List.replicate (i+1 -i) []) (i:=i) (by rw[An,Gl];omega) t;have aRm:(lC (dn++List.replicate (i+1 -i) [])).length=i+1:=by rw[yA,An,Gl];omega
 have wE:(dn++List.replicate (i+1 -i) ([]:List UInt8)).set i t=cL c s:=by rw[NP,show i+1 -i=1 by omega,List.set_append,if_neg (by omega),Nc,Kc];rfl
 have wi:IntKind.i64.wrap ((i:Int)+1)=((i+1:Nat):Int):=wI (by omega);have hlen:(cL c s).length=i+1:=by rw[NP,An,Nc];rfl
 rw[wE] at rU;apply hK;clear cK K2 hK K;refine bS ?_;simp only[↓zP,zJ,Nat.reduceLT,Nat.reduceEqDiff,f9,f10,f0,aB,show i<i+1 by omega,g0,aRm,rU];refine bT ?_;have bGe:iY 1 (.sl 0 1 0 (i+1) (i+1)) none (some (i+1)) none=some (.sl 0 1 0 (i+1) (i+1)):=by simp[iY]
 simp only[↓zP,zJ,Nat.reduceLT,Nat.reduceEqDiff,f9,f10,wi,cZ,aB,Bu,Bd,bGe];refine⟨rfl,[.sl 0 1 0 (i+1) (i+1)],by simp only[↓zP,zR],.sl 0 1 0 (i+1) (i+1),0,rfl,fun nw=>?_⟩
 have hsr:=KI (H2:=H1.set 0 (dY.cells (lC (cL c s)) false)) (id:=0) (sz:=1) (cap:=i+1) (els:=cD (cL c s)) (opn:=false) (by rw[aA.aC,if_pos rfl,QX];rfl)
  (fun e he=>by obtain⟨x,_,rfl⟩:=Bf.1 he;rfl) (by generalize cL c s=xs;induction xs with
    |nil=>rfl
    |cons x r ih=>simp only[cD,By,dJ,bU,AV.free,Ds,Cq] at ih ⊢;exact ih) nw
 have Oy:(cD (cL c s)).length=i+1:=by rw[cD,Ad,hlen]
 rw[Oy] at hsr;exact hsr
theorem OH {s:List UInt8} (c:UInt8) (hs:s.length<2^30) (H:aA):St 11 [.str s,.str [c]] H (.ret (.aV 0 1 (cD (cL c s)))) H:=by refine gH sN gY aLp (Af rfl) (by simp only[sf]) (fo _) ?_ H;unfold aFl;dsimp only;simp only[↓zP,zJ,Nat.reduceLT,Nat.reduceEqDiff];refine bK (WS c hs _) ?_;simp only[↓zP,zG,Nat.reduceLT];refine Rx ?_;rfl
end Go.Proofs.YtbndcmnnbiiobaaGreatDoor
namespace Go.Proofs.YtbndcmnnbiiobaaGreatDoor
open Go Go.Av Go.mO Go.Shelf
attribute [local congr] aU aO aP aN aY aR aQ aI aZ
attribute [local irreducible] FC bL eU
theorem aUi:tZ Tryz.prog 12:=⟨_,Tryz.func12,by kernel_rfl,by kernel_rfl⟩
theorem aKf {s t:List UInt8} (G:Gh) (w:World) (vs:List Value) (h:gI G w [.str s,.str t] vs):vs=[.string ⟨s.toArray⟩,.string ⟨t.toArray⟩]:=by
 obtain⟨hl,hv⟩:=h
 match vs,hl with
 |[u0,u1],_=>have h0:=(hv 0 (by simp)).fB;have h1:=(hv 1 (by simp)).fB;simp only[Ci,Dw] at h0 h1;rw[h0,h1]
theorem aJy {s p:List UInt8} (hs:s.length<2^62) (H:aA):St 12 [.str s,.str p] H (.ret (.str (Lib.trimSuffix s p))) H:=
 FL aUi moT aKf (fun G H w hw=>(Any.strings_TrimSuffix Tryz.aHp ⟨s.toArray⟩ ⟨p.toArray⟩ w (by simp[ByteArray.size];omega)).mono fun e w' ⟨he,jS⟩=>⟨he,by rw[jS];exact .refl _ _⟩) H
theorem YW {mu:Bool} {k:FuncId} {F:DY} (hF:fN Tryz.prog hU mu k F) {args:List AV} {v:AV} (hl:args.length<=F.ntmps) (ha:bU args=true) (hv:v.free=true)
 (h:FC Tryz.prog hU F.ntmps F.body (dW args) [] ⟨0,.nil⟩ (MA F.results fun o _=>o=.CD v)) (H:aA):St k args H (.CD v) H:=by
 refine(yH sN hF (YL hl h)).frame gY ha H fun out H2 hR=>?_;subst hR;exact⟨none,0,v,fun k hk=>(by cases hk),oV hv,rfl,rfl⟩
def pI (s:List UInt8):Option Int:=match pZ s with
 |some z=>if -2^63<=z/\z<2^63 then some z else none
 |none=>none
theorem jo {s:List UInt8} {z:Int} (h:pI s=some z):eZ s=0/\eN (pZ s)=(z,true):=by
 unfold pI at h;split at h
 · rename_i y hy;split at h
   · rename_i hr;cases h;refine⟨?_,by rw[hy];simp only[eN,if_pos hr]⟩;unfold eZ;have hf:kV s≠false:=fun hf=>by unfold pZ at hy;rw[if_neg (by rw[hf];simp)] at hy;cases hy
     rw[if_neg hf,hy];rfl
   cases h
 cases h
theorem jn {s:List UInt8} (h:pI s=none):eZ s≠0\/(eN (pZ s)).2=false:=by
 unfold pI at h;split at h
 · rename_i y hy;split at h
   · cases h
   rename_i hr;exact .inr (by rw[hy];simp only[eN,if_neg hr])
 rename_i hy;left;unfold eZ;split
 · decide
 rw[hy];decide
theorem bBz (s:List UInt8):fZ (cO (pZ s)) (pZ s):=by
 unfold pZ;split
 · exact fZ.norm _
 exact fZ.bad
theorem isZ (s:List UInt8):(cO (pZ s)).length=18:=(bBz s).len
theorem pF.jb {H H':aA} {sz:Nat} {v:AV} {els:List (List AV)} (h:pF H sz v els) (hn:H.next<=H'.next) (ho:∀j,j<H.next->H'.get j=H.get j):pF H' sz v els:=by
 refine⟨?_,h.2⟩
 rcases h.1 with h1|⟨k,h1,h2,h3⟩
 · exact .inl h1
 exact .inr ⟨k,h1,by omega,by rw[ho _ h2];exact h3⟩
def ab:AV:=.iface 26 (.int .i64 3)
theorem zV {xs:List (List UInt8)} {i:Nat} (h:i<xs.length):(cD xs).getD i []=[.str xs[i]]:=dT h
theorem eI (xs:List (List UInt8)):(cD xs).length=xs.length:=Ad _
theorem ic {xs:List (List UInt8)} (hl:xs.length<2^30) (hs:∀x∈xs,x.length<2^62) {R:Out->aA->Prop}
 (HI:(∀x∈xs,(pI x).isSome=true)->∀v H',pF H' 1 v (eA (xs.filterMap pI))->R (.ret v) H') (aSd:(∃x∈xs,pI x=none)->∀H',R (.CD ab) H'):
 FC Tryz.prog hU (YY.1).ntmps (YY.1).body (dW [.aV 0 1 (cD xs)]) [] ⟨0,.nil⟩ (MA (YY.1).results R):=by
 unfold YY;dsimp only;simp only[↓zP,zJ,seval,eI];refine bQ [3] (fun i vs H'=>∃v,vs=[v]/\pF H' 1 v (eA ((xs.take i).filterMap pI))/\∀x∈xs.take i,(pI x).isSome=true) xs.length (by omega) (by decide) ?_ ?_ ?_ ?_ ?_
 · simp only[zB,seval]
 · simp only[zB,seval]
 · exact⟨.aS,by simp only[sm,zB,seval],.nil _ _,fun x hx=>by simp at hx⟩
 · rintro i f H1 hi hk e1 ⟨v,fP,ho,dB⟩;simp only[zM] at fP;have f10:f 10=.aV 0 1 (cD xs):=hk 10 rfl;have hP:=fun H=>toT (by simp only[sf]) (by simp only[sf,tG]) (yh (hs _ (Ai hi))) H;refine aH ?_;refine bS ?_;simp only[↓zP,zJ,seval,f10,e1,aB,eI,hi,zV hi];refine bT ?_;generalize hx:xs[i]=x at *;have hxm:x∈xs:=by rw[<-hx];exact Ai hi
   have AK:=oL (isZ x);have hsm:=fun H=>toT (by simp only[sf,tG]) (by simp only[sf]) (AT (bBz x)) H;refine bS ?_;simp only[↓zP,zJ,seval];refine bK (hP _) ?_;simp only[↓zP,zJ,seval,AK];refine fL ?_;simp only[↓zP,zJ,seval,AK];refine bK (hsm _) ?_;simp only[↓zP,zJ,seval];refine bT ?_;obtain⟨H2,ZO⟩:∃H2,H2=(H1.alloc (dY.cells (AV.bool false::AV.bool false::wC zs) false)).set H1.next (dY.cells (cO (pZ x)) false):=⟨_,rfl⟩;have RO:pF H2 1 v (eA ((xs.take i).filterMap pI)):=pF.jb ho (by rw[ZO];simp) fun j hj=>by rw[ZO,aA.aC,if_neg (by omega),aA.aF,if_neg (by omega)]
   rw[<-ZO];clear ZO ho;refine aJ fun K hK=>?_
   cases YG:pI x with
   |none=>
    have hR:=aSd ⟨x,hxm,YG⟩;have GC:=jn YG;by_cases he:eZ x=0
    · have hs2:(eN (pZ x)).2=false:=GC.resolve_left (fun h=>h he);have z0:((0:Int) != 0)=false:=rfl;simp only[↓zP,zJ,seval,he,hs2,z0];refine qJ (t:=26) (v:=.int .i64 3) (by simp only[↓zP,seval]) ?_;exact⟨rfl,hR _⟩
    have z0:(eZ x != 0)=true:=(by rw[El];exact he);simp only[↓zP,zJ,seval,z0];refine qJ (t:=26) (v:=.int .i64 3) (by simp only[↓zP,seval]) ?_;exact⟨rfl,hR _⟩
   |some z=>
    obtain⟨he,jA⟩:=jo YG;have z0:((0:Int) != 0)=false:=rfl;simp only[↓zP,zJ,seval,he,jA,z0];apply hK;clear hK K;have hzl:((xs.take i).filterMap pI).length<=xs.length:=Br (List.length_filterMap_le _ _) (by rw[Cb];omega);obtain⟨v',H3,ha,ZX,_⟩:=RO.append (bytes:=8) (e:=[.int .i64 z]) (by rw[dZ];omega);have f3:f 3=v:=fP;simp only[↓zP,zJ,seval,f3,eL,ha];refine⟨v',rfl,?_,fun y hy=>?_⟩
    · rw[Ap,Ab hi,hx,Ec,Iz,JC];simpa [YG,eA] using ZX
    rw[Ap,Ab hi,hx,Ec] at hy
    rcases As.1 hy with hy|hy
    · exact dB y hy
    simp at hy;subst hy;rw[YG];rfl
 rintro f H1 hk ⟨v,fP,ho,dB⟩;simp only[zM] at fP;rw[Ar] at ho dB;simp only[↓zP,seval,fP];refine⟨rfl,_,by simp only[↓zP,zR,seval];rfl,?_⟩;exact HI dB _ _ ho
theorem GI:∀l:List Int,dJ (eA l)=true
 |[]=>rfl
 |x::l=>by have :=GI l;simp only[eA,By,dJ,bU,AV.free,Ds,Cq] at this ⊢;exact this
def nH (ns:List Int):AV:=if ns=[] then .aS else .aV 0 1 (eA ns)
theorem ie {xs:List (List UInt8)} (hl:xs.length<2^30) (hs:∀x∈xs,x.length<2^62) (h:∀x∈xs,(pI x).isSome=true) (H:aA):
 St 13 [.aV 0 1 (cD xs)] H (.ret (nH (xs.filterMap pI))) H:=by
 refine dH sN gY aBu (Af rfl) (by simp only[bU,fo];rfl) (ic hl hs (fun _ v H' ho=>?_) (fun⟨x,hx,hn⟩=>absurd (h x hx) (by rw[hn];decide))) H;refine⟨v,0,rfl,fun nw=>?_⟩;unfold nH;by_cases bN:xs.filterMap pI=[]
 · rw[if_pos bN,ho.2 (by rw[bN];rfl)];rfl
 rw[if_neg bN];have RN:eA (xs.filterMap pI)≠[]:=fun e=>bN (Ee.1 e);refine Has.shut (.inr ho.1) RN (fun e=>?_) (GI _) nw
 rcases ho.1 with ⟨h1,h2⟩|⟨k,h1,_⟩
 · exact RN h2
 rw[h1] at e;cases e
theorem Wn {xs:List (List UInt8)} (hl:xs.length<2^30) (hs:∀x∈xs,x.length<2^62) (h:∃x∈xs,pI x=none) (H:aA):
 St 13 [.aV 0 1 (cD xs)] H (.CD ab) H:=by
 refine YW aBu (Af rfl) (by simp only[bU,fo];rfl) rfl (ic hl hs (fun dB=>?_) (fun _ H'=>rfl)) H;obtain⟨x,hx,hn⟩:=h;exact absurd (dB x hx) (by rw[hn];decide)
structure BD where
 name:List UInt8
 ls:List (List aG.V)
 m0:Int
 m1:Int
 r0:Int
 r1:Int
noncomputable def BD.VC (b:BD):Int:=kS b.name b.ls b.m0 b.m1 b.r0 b.r1
def BD.text (b:BD):List UInt8:=QZ b.name b.ls b.m0 b.m1 b.r0 b.r1
def mS:List Int->List aG.V
 |x::y::z::r=>⟨x,y,z⟩::mS r
 |_=>[]
def pT (xs:List (List UInt8)):Option (List Int):=if xs.all (fun x=>(pI x).isSome)=true then some (xs.filterMap pI) else none
def uI (l:List UInt8):Option (List aG.V):=match pT ((cL 32 l).drop 1) with
 |some v=>if v.length%3=0 then some (mS v) else none
 |none=>none
def mZ:List (List UInt8)->Option (List (List aG.V))
 |[]=>some []
 |l::r=>match uI l,mZ r with
  |some a,some b=>some (a::b)
  |_,_=>none
def Ox (w:List (List UInt8)):Option (List UInt8×List Int):=if w.length=8 then(pT [w.getD 3 [],w.getD 4 [],w.getD 6 [],w.getD 7 []]).map fun n=>(w.getD 1 [],n) else none
def xP:List (List UInt8)->Option BD
 |[]=>none
 |l0::r=>match Ox (cL 32 l0),mZ r with
  |some (nm,n),some ps=>some ⟨nm,ps,n.getD 0 0,n.getD 1 0,n.getD 2 0,n.getD 3 0⟩
  |_,_=>none
open Classical in
noncomputable def qV (s:List UInt8) (ls:List (List UInt8)):Option BD:=match xP ls with
 |some b=>if b.VC=0/\b.text=s then some b else none
 |none=>none
theorem aAc (u:Nat):Lib.decDigits u≠[]:=by
 by_cases h:u<10
 · rw[oP h];simp
 rw[vH (by omega)];simp
theorem ek {k:Nat} (h:k<10):rM (UInt8.ofNat (48+k))=true:=by
 have :(UInt8.ofNat (48+k)).toNat=48+k:=by rw[Jp];omega
 unfold rM;rw[this];simp;omega
theorem Nb:∀u:Nat,(Lib.decDigits u).all rM=true:=by
 intro u
 induction u using Nat.strongRecOn with
 |_ u ih=>
  by_cases h:u<10
  · rw[oP h];simp only[Ik,List.all_nil,Gd,ek h]
  rw[vH (by omega),Hn,ih _ (by omega)];simp only[Ik,List.all_nil,Gd,ek (De u (by decide:0<10))]
theorem aGv:∀u:Nat,kQ (Lib.decDigits u)=u:=by
 intro u
 induction u using Nat.strongRecOn with
 |_ u ih=>
  have hd:∀k,k<10->(UInt8.ofNat (48+k)).toNat -48=k:=fun k hk=>by rw[Jp];omega
  by_cases h:u<10
  · rw[oP h];simp only[kQ,Jm,List.foldl_nil,hd u h];omega
  rw[vH (by omega),yD,ih _ (by omega),hd _ (De u (by decide))];omega
theorem aAa:∀u:Nat,0<u->(Lib.decDigits u).head?≠some 48:=by
 intro u
 induction u using Nat.strongRecOn with
 |_ u ih=>
  intro hu;by_cases h:u<10
  · rw[oP h];intro e;have e:=Ao UInt8.toNat (Aa e);rw[Jp] at e;have :(48:UInt8).toNat=48:=rfl;omega
  rw[vH (by omega)];have h1:=ih (u / 10) (by omega) (by omega);have h2:=aAc (u / 10)
  cases hq:Lib.decDigits (u / 10) with
  |nil=>exact absurd hq h2
  |cons a r=>rw[hq] at h1;exact h1
theorem aKr:Lib.decDigits 0=[48]:=oP (by decide)
theorem aKs {l:List UInt8} (h:l.all rM=true):l.head?≠some 45:=by
 cases l with
 |nil=>simp
 |cons a r=>intro e;have e:=Aa e;subst e;simp at h;exact absurd h.1 (by decide)
theorem er (n:Int):cX (Lib.itoa n)=Lib.decDigits n.natAbs:=by
 unfold cX Lib.itoa;by_cases h:n<0
 · rw[if_pos h];rfl
 rw[if_neg h,if_neg (aKs (Nb _)),show n.toNat=n.natAbs by omega]
theorem od (n:Int):kV (Lib.itoa n)=true:=by
 unfold kV;rw[er,Nb,Gd,Am];refine⟨by simp[aAc],?_⟩;by_cases h:n=0
 · subst h;have h1:Lib.itoa 0=[48]:=by unfold Lib.itoa;rw[if_neg (by decide)];exact aKr
   rw[h1];simp
 have :=aAa n.natAbs (by omega);simp[this]
theorem aJq (n:Int):jw (Lib.itoa n)=n:=by
 unfold jw;rw[er,aGv];unfold Lib.itoa;by_cases h:n<0
 · rw[if_pos h,if_pos (show(45::Lib.decDigits n.natAbs).head?=some 45 from rfl)];omega
 rw[if_neg h,if_neg (aKs (Nb _))];omega
theorem zK {n:Int} (h0: -2^63<=n) (h1:n<2^63):pI (Lib.itoa n)=some n:=by
 have hl:=eV h0 h1
 have hd:(cX (Lib.itoa n)).length<=512:=by
  unfold cX;split
  · simp only[Dy];omega
  omega
 have hz:pZ (Lib.itoa n)=some n:=by
  unfold pZ;rw[if_pos ⟨od n,hd⟩,aJq];unfold norm;have :(2:Nat)^63<W^16:=by decide
  rw[if_pos (by omega)]
 unfold pI;rw[hz];simp only[if_pos (show -2^63<=n/\n<2^63 from ⟨h0,h1⟩)]
theorem tJ (n:Int) (c:UInt8) (hc:c=10\/c=32):(Lib.itoa n).count c=0:=by
 have h1:∀u:Nat,(Lib.decDigits u).count c=0:=fun u=>by
  rw[List.count_eq_zero];intro hm;have :=Ba.1 (Nb u) c hm
  rcases hc with rfl|rfl<;>exact absurd this (by decide)
 unfold Lib.itoa;split
 · rw[Il,h1];rcases hc with rfl|rfl<;>rfl
 exact h1 _
theorem QS {c:UInt8}:∀{a:List UInt8} (b:List UInt8),a.count c=0->cL c (a++c::b)=a::cL c b
 |[],b,_=>by simp[cL]
 |x::a,b,h=>by
  rw[Il] at h;have hx:x≠c:=fun e=>by subst e;simp at h
  have :=QS (c:=c) (a:=a) b (by omega);simp only[Ei,cL,this];simp[hx]
theorem sE {c:UInt8}:∀{xs:List (List UInt8)},xs≠[]->(∀x∈xs,x.count c=0)->cL c (Lib.join xs [c])=xs
 |[],h,_=>absurd rfl h
 |[x],_,hx=>by simp only[Lib.join,List.intercalate_singleton];exact CM (hx x Au)
 |x::y::r,_,hx=>by
  have e:Lib.join (x::y::r) [c]=x++c::Lib.join (y::r) [c]:=by simp[Lib.join,List.intercalate,List.intersperse]
  rw[e,QS _ (hx x Au),sE (by simp) fun z hz=>hx z (Aw _ hz)]
theorem UH {c:UInt8} {sep:List UInt8} (hs:sep.count c=0):∀{xs:List (List UInt8)},(∀x∈xs,x.count c=0)->(Lib.join xs sep).count c=0
 |[],_=>by simp[Lib.join]
 |[x],hx=>by simpa [Lib.join] using hx x Au
 |x::y::r,hx=>by
  have e:Lib.join (x::y::r) sep=x++(sep++Lib.join (y::r) sep):=by simp[Lib.join,List.intercalate,List.intersperse]
  rw[e,List.count_append,List.count_append,hs,hx x Au,UH hs fun z hz=>hx z (Aw _ hz)]
theorem vf (a:List UInt8) (c:UInt8):Lib.trimSuffix (a++[c]) [c]=a:=by unfold Lib.trimSuffix;rw[if_pos (by simp[Lib.hasSuffix])];simp
theorem MM:∀{l:List aG.V},mS (l.flatMap fun v=>[v.x,v.y,v.z])=l
 |[]=>rfl
 |v::r=>by simp[mS,MM (l:=r)]
theorem PM:∀{l:List aG.V},(∀v∈l,yl v)->(∀x∈l.flatMap lD,(pI x).isSome=true)/\(l.flatMap lD).filterMap pI=l.flatMap fun v=>[v.x,v.y,v.z]
 |[],_=>⟨fun x hx=>by simp at hx,rfl⟩
 |v::r,h=>by
  obtain⟨h1,h2⟩:=PM (l:=r) fun w hw=>h w (Aw _ hw)
  have hv:=h v Au;have ex:=zK hv.1.1 hv.1.2;have ey:=zK hv.2.1.1 hv.2.1.2;have ez:=zK hv.2.2.1 hv.2.2.2;constructor
  · intro x hx;simp only[Cl,lD,As,Aq,Bx,Em] at hx
    rcases hx with (rfl|rfl|rfl)|hx
    · rw[ex];rfl
    · rw[ey];rfl
    · rw[ez];rfl
    exact h1 x hx
  rw[Cl,Iz,h2];simp[lD,ex,ey,ez]
theorem oa (l:List aG.V):(l.flatMap fun v=>[v.x,v.y,v.z]).length=3*l.length:=by
 induction l with
 |nil=>rfl
 |cons v r ih=>simp only[Cl,An,ih,Ah,Ay];omega
theorem Xu {l:List aG.V} {c:UInt8} (hc:c=10\/c=32):∀x∈qC l,x.count c=0:=by
 intro x hx;simp only[qC,Aq,En,lD,Bx,Em] at hx
 rcases hx with rfl|⟨v,_,rfl|rfl|rfl⟩
 · rcases hc with rfl|rfl<;>rfl
 all_goals exact tJ _ c hc
theorem Zn {l:List aG.V} (h:∀v∈l,yl v):uI (kZ l)=some l:=by obtain⟨h1,h2⟩:=PM h;have hs:cL 32 (kZ l)=qC l:=sE (by simp[qC]) (Xu (.inr rfl));unfold uI pT;rw[hs];simp only[qC,List.drop_one,List.tail_cons];rw[if_pos (Ba.2 h1),h2];simp only[oa,Nat.mul_mod_right,if_true,MM]
theorem Mt:∀{ls:List (List aG.V)},(∀l∈ls,∀v∈l,yl v)->mZ (ls.map kZ)=some ls
 |[],_=>rfl
 |l::r,h=>by simp only[By,mZ,Zn (h l Au),Mt fun q hq=>h q (Aw _ hq)]
structure BD.Fit (b:BD):Prop where
 nm:∀c∈b.name,c≠10/\c≠32
 nl:b.name.length<=32
 pl:b.ls.length<=8
 pv:∀l∈b.ls,l≠[]/\l.length<=64/\∀v∈l,yl v
 pn:b.ls≠[]
 n0: -2^63<=b.m0/\b.m0<2^63
 n1: -2^63<=b.m1/\b.m1<2^63
 n2: -2^63<=b.r0/\b.r0<2^63
 n3: -2^63<=b.r1/\b.r1<2^63
theorem BD.fit {b:BD} (h:b.VC=0):b.Fit:=by
 unfold BD.VC kS at h;by_cases h1:mJ b.name=false
 · rw[if_pos h1] at h;cases h
 rw[if_neg h1] at h;by_cases h2:b.ls.length<1\/8<b.ls.length
 · rw[if_pos h2] at h;cases h
 rw[if_neg h2] at h;by_cases h3:TZ b.m0 b.m1 b.r0 b.r1=true
 · rw[if_pos h3] at h;cases h
 rw[if_neg h3] at h;simp only[Bool.not_eq_false] at h1;unfold mJ at h1;simp only[Am,Bh,Ba,Bi] at h1;simp only[TZ,Dt,Bh] at h3
 have hp:∀l∈b.ls,fA l=0:=by
  unfold uP at h;split at h
  · rename_i l hl;have :=List.find?_some hl;simp[h] at this
  rename_i hn;intro l hl;have :=Io.1 hn l hl;simpa using this
 refine⟨fun c hc=>?_,h1.2.2,by omega,fun l hl=>?_,fun e=>by rw[e] at h2;simp at h2,by omega,by omega,by omega,by omega⟩
 · obtain⟨i,hi,rfl⟩:=Cv hc;have :=h1.1 i hi;rw[show b.name.getD i 0=b.name[i] by simp[List.getD,hi]] at this;constructor
   · intro e;rw[e] at this;cases i<;>simp[BA,UN] at this
   intro e;rw[e] at this;cases i<;>simp[BA,UN] at this
 obtain⟨h4,h5⟩:=Uc (hp l hl);obtain⟨_,_,_,_,h6,h7,h8⟩:=vW h4;refine⟨h7,h6,fun v hv=>?_⟩;obtain⟨q1,q2,q3⟩:=h8 v hv;simp only[aG.bM] at h8;unfold yl;omega
theorem qm {b:BD} (h:b.Fit):xP (Lib.join (iC b.name b.m0 b.m1 b.r0 b.r1) [32]::b.ls.map kZ)=some b:=by
 have vJ:∀x∈iC b.name b.m0 b.m1 b.r0 b.r1,x.count 32=0:=by
  intro x hx;simp only[iC,Aq,Bx,Em] at hx
  rcases hx with rfl|rfl|rfl|rfl|rfl|rfl|rfl|rfl
  · rfl
  · exact List.count_eq_zero.2 fun hm=>(h.nm _ hm).2 rfl
  · rfl
  · exact tJ _ _ (.inr rfl)
  · exact tJ _ _ (.inr rfl)
  · rfl
  · exact tJ _ _ (.inr rfl)
  exact tJ _ _ (.inr rfl)
 have hs:cL 32 (Lib.join (iC b.name b.m0 b.m1 b.r0 b.r1) [32])=iC b.name b.m0 b.m1 b.r0 b.r1:=sE (by simp[iC]) vJ;simp only[xP];rw[hs,Mt fun l hl=>(h.pv l hl).2.2]
 have hh:Ox (iC b.name b.m0 b.m1 b.r0 b.r1)=some (b.name,[b.m0,b.m1,b.r0,b.r1]):=by simp[Ox,iC,pT,zK h.n0.1 h.n0.2,zK h.n1.1 h.n1.2,zK h.n2.1 h.n2.2,zK h.n3.1 h.n3.2]
 rw[hh];rfl
theorem PV {b:BD} (h:b.Fit):(∀x∈Lib.join (iC b.name b.m0 b.m1 b.r0 b.r1) [32]::b.ls.map kZ,x.count 10=0):=by
 intro x hx
 rcases Aq.1 hx with rfl|hx
 · refine UH rfl fun x hx=>?_;simp only[iC,Aq,Bx,Em] at hx
   rcases hx with rfl|rfl|rfl|rfl|rfl|rfl|rfl|rfl
   · rfl
   · exact List.count_eq_zero.2 fun hm=>(h.nm _ hm).1 rfl
   · rfl
   · exact tJ _ _ (.inl rfl)
   · exact tJ _ _ (.inl rfl)
   · rfl
   · exact tJ _ _ (.inl rfl)
   exact tJ _ _ (.inl rfl)
 obtain⟨l,hl,rfl⟩:=Bf.1 hx;exact UH rfl (Xu (.inl rfl))
def iX (s:List UInt8):List (List UInt8):=cL 10 (Lib.trimSuffix s [10])
theorem BU {b:BD} (h:b.Fit):iX b.text=Lib.join (iC b.name b.m0 b.m1 b.r0 b.r1) [32]::b.ls.map kZ:=by unfold iX BD.text QZ;rw[vf,sE (by simp) (PV h)]
theorem JW {s:List UInt8} {ls:List (List UInt8)} (hl:∀b:BD,b.Fit->b.text=s->ls=Lib.join (iC b.name b.m0 b.m1 b.r0 b.r1) [32]::b.ls.map kZ) {b:BD}:qV s ls=some b↔b.VC=0/\b.text=s:=by
 unfold qV;constructor
 · intro h;split at h
   · rename_i b' hb;split at h
     · rename_i hc;cases h;exact hc
     cases h
   cases h
 rintro⟨h1,h2⟩;rw[hl b (BD.fit h1) h2,qm (BD.fit h1)];simp only[if_pos (show b.VC=0/\b.text=s from ⟨h1,h2⟩)]
theorem Ms {a:List (List UInt8)} {x:List UInt8} {p:List (List aG.V)} {q:List aG.V} (h:mZ a=some p) (hx:uI x=some q):mZ (a++[x])=some (p++[q]):=by
 induction a generalizing p with
 |nil=>cases h;simp[mZ,hx]
 |cons l r ih=>
  simp only[Ei,mZ] at h ⊢
  cases hl:uI l with
  |none=>rw[hl] at h;cases h
  |some u=>
   cases hr:mZ r with
   |none=>rw[hl,hr] at h;cases h
   |some w=>rw[hl,hr] at h;cases h;rw[ih hr];rfl
theorem yZ:∀{r:List (List UInt8)} {x:List UInt8},x∈r->uI x=none->mZ r=none
 |l::r,x,hx,h=>by
  rcases Aq.1 hx with rfl|hx
  · simp[mZ,h]
  simp only[mZ,yZ hx h];split
  · rename_i h1;cases h1
  rfl
def AP (p:AV×List aG.V):Prop:=(p.1=.aS/\p.2=[])\/∃k,p.1=.aV k 3 (bF p.2)
def nr (ps:List (AV×List aG.V)):List (AV×List aG.V):=ps.map fun p=>(wB p.1,p.2)
theorem Lk:∀l:List aG.V,rO (bF l)=bF l
 |[]=>by simp[bF,rO]
 |v::r=>by have :=Lk r;simp only[bF,By,rO] at this ⊢;rw[this];simp[bZ,nY,wB]
theorem AP.fg {p:AV×List aG.V} (h:AP p):mP (wB p.1,p.2):=by
 rcases h with ⟨h1,h2⟩|⟨k,h1⟩
 · exact .inl ⟨by rw[h1];simp[wB],h2⟩
 exact .inr (by simp only[h1,wB,Lk])
theorem Ry:∀ps:List (AV×List aG.V),rO (jF ps)=jF (nr ps)
 |[]=>by simp[jF,nr,rO]
 |p::r=>by have :=Ry r;simp only[jF,nr,By,rO,Dp] at this ⊢;rw[this];simp[nY]
theorem II (ps:List (AV×List aG.V)):(nr ps).map (·.2)=ps.map (·.2):=by simp[nr]
theorem LZ {ps:List (AV×List aG.V)} (h:∀p∈ps,AP p):∀p∈nr ps,mP p:=by intro p hp;obtain⟨q,hq,rfl⟩:=Bf.1 hp;exact(h q hq).fg
theorem Np {H:aA} {v:AV} {ps:List (AV×List aG.V)} (h:pF H 1 v (jF ps)):vU (wB v) (nr ps):=by
 rcases h.1 with ⟨rfl,h2⟩|⟨k,rfl,_⟩
 · refine .inl ⟨by simp[wB],?_⟩;have :ps=[]:=Ee.1 h2;subst this;rfl
 exact .inr (by simp only[wB,Ry])
theorem IJ (name:List UInt8) (v:AV) (m0 m1 r0 r1:Int):nY [.agg (bX name v m0 m1 r0 r1)]=[.agg (bX name (wB v) m0 m1 r0 r1)]:=by simp[nY,wB,bX]
theorem kj {name:List UInt8} (mC:name.length<2^63) {H0:aA} {v:AV} {ps:List (AV×List aG.V)} (hv:pF H0 1 v (jF ps)) (oZ:∀p∈ps,AP p) (hlen:∀p∈ps,p.2.length<2^30) (nP:ps.length<2^30) (m0 m1 r0 r1:Int) (H:aA):
 St 14 [.agg (bX name v m0 m1 r0 r1)] H (.ret (.int .i64 (kS name (ps.map (·.2)) m0 m1 r0 r1))) H:=by
 apply Sound.wB;have hR:=Np hv;have hP:=LZ oZ;rw[IJ,<-II];refine toT (by simp only[sf,bX,hR.free hP]) rfl (fun H=>xl mC hR hP (fun p hp=>?_) (by simp[nr];omega) m0 m1 r0 r1 H) H;obtain⟨q,hq,rfl⟩:=Bf.1 hp;exact hlen q hq
theorem yk {b:BD} (hb:b.Fit) {H0:aA} {v:AV} {ps:List (AV×List aG.V)} (hv:pF H0 1 v (jF ps)) (oZ:∀p∈ps,AP p) (gg:ps.map (·.2)=b.ls) (H:aA):
 St 9 [.agg (bX b.name v b.m0 b.m1 b.r0 b.r1)] H (.ret (.str b.text)) H:=by
 apply Sound.wB;have hP:=LZ oZ
 have hR:wB v=.aV 0 1 (jF (nr ps)):=by
  rcases Np hv with ⟨_,h⟩|h
  · have :ps.map (·.2)=[]:=by rw[<-II,h];rfl
    exact absurd (gg.symm.trans this) hb.pn
  exact h
 rw[IJ,hR];unfold BD.text;rw[<-gg,<-II]
 have gD:∀p∈nr ps,p.2∈b.ls:=fun p hp=>by rw[<-gg,<-II];exact Bf.2 ⟨p,hp,rfl⟩
 exact Vi (Br hb.nl (by decide)) hP (fun p hp=>(hb.pv _ (gD p hp)).2.1) (by
  have :=hb.pl;rw[<-gg] at this
  simpa [nr] using this) (fun p hp=>(hb.pv _ (gD p hp)).2.2) hb.n0 hb.n1 hb.n2 hb.n3 H
theorem _root_.Go.Av.Sound.bJa {P:Program} {g:bB} {f:FuncId} {args:List AV} {H H':aA} {a a' b:AV} (h:Sound P g f args H (.ret (.gP [a,b])) H') (hw:Wk a a'):Sound P g f args H (.ret (.gP [a',b])) H':=by
 refine⟨h.1,fun G w vs hG hv=>(h.2 G w vs hG hv).mono fun e w' ⟨G',h1,h2,h3⟩=>⟨G',h1,h2,?_⟩⟩
 cases e with
 |returned u=>
  have h3:VR G' w' (.gP [a,b]) u:=h3;show VR G' w' (.gP [a',b]) u
  cases h3 with
  |gP _ us hl hu=>
   refine .gP _ us hl fun j hj=>?_
   match j,hj with
   |0,_=>exact VR.wk hw (hu 0 (by simp))
   |1,_=>exact hu 1 (by simp)
 |_=>exact h3.elim
def iG:List AV:=bX [] .aS 0 0 0 0
def xg (ls:List (List aG.V)):List (List AV):=ls.map fun l=>[.aV 0 3 (bF l)]
def YA (b:BD):List AV:=bX b.name (.aV 0 1 (xg b.ls)) b.m0 b.m1 b.r0 b.r1
def zf:Option BD->AV
 |none=>.gP [.agg iG,.int .i64 3]
 |some b=>.gP [.agg (YA b),.int .i64 0]
abbrev bDy:List fY:=[.call 10 [.ref 0 0,.ref 1 0]]
theorem so {H:aA} {cb ce:List AV} (g0:H.get 0=some (.cells cb false)) (g1:H.get 1=some (.cells ce false)) (lb:cb.length=6) (le:ce.length=1):
 AU Tryz.prog hU 10 [.ref 0 0,.ref 1 0] (some ab) H ((H.set 0 (.cells iG false)).set 1 (.cells [.int .i64 3] false)):=by
 refine HY sN bBy (by simp) ?_;show bL Tryz.prog hU 9 [⟨(some 2),.Ni (.tmp 3),none⟩] (jG (dW _) 3 ab) [] H (gC (fun f ds H'=>FC Tryz.prog hU 9 RPw.1.2.2 f ds H' _) _);unfold RPw ab;dsimp only;have n2:BS .ifc (.iface 26 (.int .i64 3))=some false:=rfl;simp only[↓zP,zG,seval,n2,Bool.or_true,Fx,Bool.false_or,Gd];refine Dz ?_;have hz:[AV.str [],.aS,.int .i64 0,.int .i64 0,.int .i64 0,.int .i64 0]=iG:=rfl;have hzl:iG.length=6:=rfl;rw[hz];simp only[↓zP,zJ,seval,zD,g0,g1,lb,le,hzl];rw[Bl (by omega),Bl (by omega),Bz]
def yc (s:List UInt8) (o:Out) (_:aA):Prop:=∃a e,o=.ret (.gP [a,.int .i64 e])/\AV.gP [wB a,.int .i64 e]=zf (qV s (iX s))
theorem nt:wB (.agg iG)=.agg iG:=by simp[wB,nY,iG,bX]
theorem qW {s:List UInt8} (hr:qV s (iX s)=none) {f:cU} {H:aA} {cb ce:List AV} (h2:f 2=.ref 0 0) (h3:f 3=.ref 1 0) (g0:H.get 0=some (.cells cb false)) (g1:H.get 1=some (.cells ce false)) (lb:cb.length=6) (le:ce.length=1):
 jv Tryz.prog hU [.cell 2 true 6,.cell 3 false 1] (yc s) (.panic ab) f bDy H:=by
 refine⟨_,so g0 g1 lb le,?_⟩;refine⟨[.agg iG,.int .i64 3],?_,?_⟩
 · have hzl:iG.length=6:=rfl;simp only[↓zP,zR,seval,h2,h3,hzl];rfl
 exact⟨_,_,rfl,by rw[hr,nt];rfl⟩
def HV (H:aA) (lo sz:Nat) (v:AV) (els:List (List AV)):Prop:=(v=.aS/\els=[])\/∃k,v=.aV (k+2) sz els/\els≠[]/\lo<=k/\k<H.next/\H.get k=some .tok
theorem HV.push {H:aA} {lo sz bytes:Nat} {v:AV} {els:List (List AV)} {e:List AV} (h:HV H lo sz v els) (AK:lo<=H.next) (hb:(els.length+1)*bytes<=2^40):
 ∃H',dU H sz bytes false v [e]=some (.aV (H.next+2) sz (els++[e]),H')/\HV H' lo sz (.aV (H.next+2) sz (els++[e])) (els++[e])/\H'.next=H.next+1/\∀id,id<lo->H'.get id=H.get id:=by
 rcases h with ⟨rfl,rfl⟩|⟨k,rfl,_,h1,h2,h3⟩
 · have wN:bytes<=2^40:=by simpa using hb
   exact⟨H.alloc .tok,by simp[dU,wN,iO],.inr ⟨H.next,by simp,by simp,AK,by simp,by rw[aA.aF,if_pos rfl]⟩,by simp,fun id hid=>by rw[aA.aF,if_neg (by omega)]⟩
 exact⟨(H.set k .dead).alloc .tok,by simp[dU,hb,h3],.inr ⟨H.next,by simp,by simp,AK,by simp,by rw[aA.aF,if_pos (by simp)]⟩,by simp,fun id hid=>by rw[aA.aF,if_neg (by simp;omega),aA.aC,if_neg (by omega)]⟩
theorem HV.mono {H H':aA} {lo sz:Nat} {v:AV} {els:List (List AV)} (h:HV H lo sz v els) (hn:H.next<=H'.next) (ho:∀j,lo<=j->j<H.next->H'.get j=H.get j):HV H' lo sz v els:=by
 rcases h with h|⟨k,h1,h5,h2,h3,h4⟩
 · exact .inl h
 exact .inr ⟨k,h1,h5,h2,by omega,by rw[ho _ h2 h3];exact h4⟩
theorem HV.ry {H:aA} {lo sz:Nat} {v:AV} {els:List (List AV)} (h:HV H lo sz v els):pF H sz v els:=by
 rcases h with h|⟨k,h1,h5,h2,h3,h4⟩
 · exact⟨.inl h,fun _=>h.1⟩
 exact⟨.inr ⟨k,h1,h3,h4⟩,fun e=>absurd e h5⟩
theorem HV.aMi {H:aA} {lo:Nat} {v:AV} {l:List aG.V} (h:HV H lo 3 v (bF l)):AP (v,l):=by
 rcases h with ⟨h1,h2⟩|⟨k,h1,_⟩
 · exact .inl ⟨h1,Ee.1 h2⟩
 exact .inr ⟨_,h1⟩
theorem ZF {H:aA} {v:AV} {ps:List (AV×List aG.V)} (hv:pF H 1 v (jF ps)) (oZ:∀p∈ps,AP p) (bN:ps≠[]) (hp:∀p∈ps,p.2≠[]):wB v=.aV 0 1 (xg (ps.map (·.2))):=by
 rcases Np hv with ⟨_,h⟩|h
 · exact absurd (Ee.1 h) bN
 rw[h];congr 1;unfold jF nr xg;rw[Dp,Dp];refine Ef fun p hpm=>?_
 rcases oZ p hpm with ⟨_,h2⟩|⟨k,h1⟩
 · exact absurd h2 (hp p hpm)
 simp only[Function.comp_apply,h1,wB,Lk]
theorem oJ (c:UInt8):∀s,(cL c s).length<=s.length+1/\∀x∈cL c s,x.length<=s.length
 |[]=>by simp[cL]
 |b::r=>by
  obtain⟨h1,h2⟩:=oJ c r;unfold cL;split
  · refine⟨by simp;omega,fun x hx=>?_⟩
    rcases Aq.1 hx with rfl|hx
    · simp
    have :=h2 x hx;simp;omega
  split
  · rename_i y ys hy;rw[hy] at h1 h2;refine⟨by simp at h1 ⊢;omega,fun x hx=>?_⟩
    rcases Aq.1 hx with rfl|hx
    · have :=h2 y Au;simp;omega
    have :=h2 x (Aw _ hx);simp;omega
  simp
theorem aEw (s:List UInt8):(Lib.trimSuffix s [10]).length<=s.length:=by unfold Lib.trimSuffix;split<;>simp
theorem Wm:∀{xs:List (List UInt8)},(∀x∈xs,(pI x).isSome=true)->(xs.filterMap pI).length=xs.length
 |[],_=>rfl
 |x::r,ha=>by obtain⟨z,hz⟩:=Option.isSome_iff_exists.1 (ha x Au);rw[List.filterMap_cons,hz,Ah,Ah,Wm fun y hy=>ha y (Aw _ hy)]
theorem yV {xs:List (List UInt8)} {ns:List Int} (h:pT xs=some ns):(∀x∈xs,(pI x).isSome=true)/\ns=xs.filterMap pI/\ns.length=xs.length:=by
 unfold pT at h;split at h
 · rename_i ha;have ha:=Ba.1 ha;cases h;exact⟨ha,rfl,Wm ha⟩
 cases h
theorem PL {xs:List (List UInt8)} (h:pT xs=none):∃x∈xs,pI x=none:=by
 unfold pT at h;split at h
 · cases h
 rename_i ha;refine Cp fun hn=>ha (Ba.2 fun x hx=>?_)
 cases hp:pI x with
 |none=>exact absurd ⟨x,hx,hp⟩ hn
 |some z=>rfl
theorem LO:∀{v:List Int},v.length%3=0->v.length=3*(mS v).length
 |[],_=>rfl
 |[_],h=>by simp at h
 |[_,_],h=>by simp at h
 |x::y::z::r,h=>by have :=LO (v:=r) (by simp only[Ah] at h;omega);simp only[mS,Ah];omega
theorem OT:∀{v:List Int} {k:Nat} (hk:k<(mS v).length),(v.drop (3*k)).take 3=[(mS v)[k].x,(mS v)[k].y,(mS v)[k].z]
 |x::y::z::r,0,_=>rfl
 |x::y::z::r,k+1,h=>by have :=OT (v:=r) (k:=k) (by simpa [mS] using h);rw[show 3*(k+1)=3*k+1+1+1 by omega];simpa [mS] using this
theorem oU {s:List UInt8} {ls:List (List UInt8)} (h:xP ls=none):qV s ls=none:=by unfold qV;rw[h]
theorem JX {s:List UInt8} {ls:List (List UInt8)} {b:BD} (h:xP ls=some b) (hn:¬(b.VC=0/\b.text=s)):qV s ls=none:=by unfold qV;rw[h];simp only[if_neg hn]
theorem XI {s:List UInt8} {ls:List (List UInt8)} {b:BD} (h:xP ls=some b) (hn:b.VC=0/\b.text=s):qV s ls=some b:=by unfold qV;rw[h];simp only[if_pos hn]
theorem aVz {ns:List Int} {a:Nat} (h:a+3<=ns.length) {x y z:Int} (ht:(ns.drop a).take 3=[x,y,z]):
 iY 1 (.aV 0 1 (eA (ns.drop a))) none (some 3) none=some (.aV 0 1 [[.int .i64 x],[.int .i64 y],[.int .i64 z]])/\iY 1 (.aV 0 1 (eA (ns.drop a))) (some 3) none none=some (.aV 0 1 (eA (ns.drop (a+3)))):=by
 have hl:(eA (ns.drop a)).length=ns.length -a:=by rw[dZ,Dy]
 have hd:(eA (ns.drop a)).drop 3=eA (ns.drop (a+3)):=by simp[eA,Ix]
 have hk:(eA (ns.drop a)).take 3=[[.int .i64 x],[.int .i64 y],[.int .i64 z]]:=by unfold eA at *;rw[<-List.map_take,ht];rfl
 simp only[iY,Dg,Bc];rw[hl];constructor
 · rw[if_pos ⟨trivial,by omega,by omega⟩];split
   · rename_i h3;rw[Cy,<-hk,Bk (by omega)]
   rw[Cy,Ie,hk]
 rw[if_pos ⟨trivial,by omega,by omega⟩,if_pos ⟨trivial,.inr (by decide)⟩,hd]
theorem yd {s:List UInt8} (hs:s.length<2^28):
 FC Tryz.prog hU (W4T.1).ntmps (W4T.1).body (dW [.str s]) [] ⟨0,.nil⟩ (jv Tryz.prog hU (W4T.1).results (yc s)):=by
 unfold W4T;dsimp only;have hz:[AV.str [],.aS,.int .i64 0,.int .i64 0,.int .i64 0,.int .i64 0]=iG:=rfl;have hzl:iG.length=6:=rfl;refine bS ?_;simp only[↓zP,zJ,seval];refine fL ?_;simp only[↓zP,zJ,seval];refine YS (fid:=10) (fs:=[]) (cs:=[.ref 0 0,.ref 1 0]) (by simp only[zB,seval]) (by simp only[Iw,Bz,Dk];rfl) ?_;simp only[↓zP,seval];refine bT ?_;rw[hz];obtain⟨A,hA⟩:∃A,(aA.alloc ⟨0,.nil⟩ (.cells iG false)).alloc (.cells [.int .i64 0] false)=A:=⟨_,rfl⟩;have hAn:A.next=2:=by rw[<-hA];rfl
 have a0:A.get 0=some (.cells iG false):=by rw[<-hA];simp only[zI,seval]
 have a1:A.get 1=some (.cells [.int .i64 0] false):=by rw[<-hA];simp only[zI,seval]
 rw[hA];clear hA;have htl:=aEw s;obtain⟨xE,VL⟩:=oJ 10 (Lib.trimSuffix s [10]);have NP:=fun H=>OH (s:=Lib.trimSuffix s [10]) 10 (by omega) H
 obtain⟨l0,r,hlr⟩:∃l0 r,cL 10 (Lib.trimSuffix s [10])=l0::r:=by
  cases h:cL 10 (Lib.trimSuffix s [10]) with
  |nil=>exact absurd h (xX _ _)
  |cons a b=>exact⟨a,b,rfl⟩
 have pg:iX s=l0::r:=hlr;rw[hlr] at xE VL NP;simp only[Ah] at xE;have hL0:(cD (l0::r)).getD 0 []=[.str l0]:=rfl;have vw:(cD (l0::r)).length=r.length+1:=by simp[cD]
 have wF:0<r.length+1:=Nat.succ_pos _;have BO:=VL l0 Au;obtain⟨Nd,uY⟩:=oJ 32 l0;have aSn:=fun H=>OH (s:=l0) 32 (by omega) H;refine bS ?_;simp only[↓zP,zJ,seval];refine bK (aJy (s:=s) (p:=[10]) (by omega) _) ?_;refine bK (NP _) ?_;simp only[↓zP,zG,seval];refine bT ?_;obtain⟨tg,htg,Mk⟩:=GY 0 1 (els:=cD (l0::r)) (a:=1) (by rw[vw];omega);rw[show(cD (l0::r)).drop 1=cD r from rfl] at Mk;generalize hLg:cD (l0::r)=L at *;refine bS ?_;simp only[↓zP,zJ,seval,jI,hL0,vw,wF];refine bK (aSn _) ?_;simp only[↓zP,zG,seval];refine bT ?_;generalize hw:cL 32 l0=w at *;have hwl:(cD w).length=w.length:=eI w;refine bS ?_;by_cases h8:w.length=8;rotate_left
 · have hr:qV s (iX s)=none:=by
    rw[pg];exact oU (by simp only[xP,hw,Ox,if_neg h8])
   have hb:((w.length:Int) != 8)=true:=(by rw[El];omega);simp only[↓zP,zG,seval,hwl,hb];refine qJ (t:=26) (v:=.int .i64 3) (by simp only[zB,seval]) ?_;exact qW hr (by simp only[zB,seval]) (by simp only[zB,seval]) a0 a1 rfl rfl
 have hb:((w.length:Int) != 8)=false:=by rw[h8];rfl
 simp only[↓zP,zG,seval,hwl,hb];refine bT ?_
 obtain⟨w0,w1,w2,w3,w4,w5,w6,w7,rfl⟩:∃w0 w1 w2 w3 w4 w5 w6 w7,w=[w0,w1,w2,w3,w4,w5,w6,w7]:=by
  match w,h8 with
  |[w0,w1,w2,w3,w4,w5,w6,w7],_=>exact⟨_,_,_,_,_,_,_,_,rfl⟩
 have i4:asNat (.int .i64 4)=some 4:=rfl;have i6:asNat (.int .i64 6)=some 6:=rfl;have i7:asNat (.int .i64 7)=some 7:=rfl;have hE:cD [w0,w1,w2,w3,w4,w5,w6,w7]=[[.str w0],[.str w1],[.str w2],[.str w3],[.str w4],[.str w5],[.str w6],[.str w7]]:=rfl
 have hwn:∀x∈[w3,w4,w6,w7],x.length<2^62:=fun x hx=>by have :=uY x (by simp only[Aq,Bx,Em] at hx ⊢;rcases hx with h|h|h|h<;>simp[h]);omega
 rw[hE];refine bS ?_;have hhd:Ox [w0,w1,w2,w3,w4,w5,w6,w7]=(pT [w3,w4,w6,w7]).map fun n=>(w1,n):=rfl
 cases hI:pT [w3,w4,w6,w7] with
 |none=>
  have hr:qV s (iX s)=none:=by rw[pg];exact oU (by simp only[xP,hw,hhd,hI];rfl)
  have aSd:=fun H=>(Wn (by simp) hwn (PL hI) H).yB 1;refine xq 13 0 (by rfl) (by decide) (by decide) (fun q hq=>⟨_,_,Bq.1 hq⟩) (by decide) (by rfl) fun H1 DJ VI=>?_;simp only[List.take,↓zP,zJ,seval,zD,jI,i4,i6,i7];refine⟨(13,[],[]),ab,H1,rfl,aSd H1,?_⟩;exact qW hr (by simp only[zB,seval]) (by simp only[zB,seval]) ((VI 0).trans a0) ((VI 1).trans a1) rfl rfl
 |some ns=>
 obtain⟨dB,pz,hnl⟩:=yV hI;have gD:=fun H=>(ie (by simp) hwn dB H).yB 1;rw[<-pz] at gD
 obtain⟨n0,n1,n2,n3,rfl⟩:∃n0 n1 n2 n3,ns=[n0,n1,n2,n3]:=by
  match ns,hnl with
  |[a,b,c,d],_=>exact⟨_,_,_,_,rfl⟩
 have hA:nH [n0,n1,n2,n3]=.aV 0 1 [[.int .i64 n0],[.int .i64 n1],[.int .i64 n2],[.int .i64 n3]]:=by unfold nH;rw[if_neg (by simp)];rfl
 rw[hA] at gD;have gD:∀H,St 13 [.aV 1 1 [[.str w3],[.str w4],[.str w6],[.str w7]]] H (.ret (.aV 0 1 [[.int .i64 n0],[.int .i64 n1],[.int .i64 n2],[.int .i64 n3]])) H:=gD;refine Dz ?_;simp only[↓zP,zJ,seval,zD,jI,i4,i6,i7];refine eT (gD _) ?_;simp only[↓zP,zJ,seval,zD];refine fL ?_;refine Dz ?_;simp only[↓zP,zJ,seval,zD,jI,a0,<-hz];refine bT ?_;obtain⟨B,hB⟩:∃B,A.set 0 (.cells (bX w1 .aS n0 n1 n2 n3) false)=B:=⟨_,rfl⟩;have hBn:B.next=2:=by rw[<-hB];exact hAn
 have b0:B.get 0=some (.cells (bX w1 .aS n0 n1 n2 n3) false):=by rw[<-hB];exact To _ _ _
 have b1:B.get 1=some (.cells [.int .i64 0] false):=by rw[<-hB,aA.aC,if_neg (by decide)];exact a1
 simp only[bX] at hB;rw[hB];clear hB a0 a1 hAn A;refine aJ fun K hK=>?_;refine bS ?_;simp only[↓zP,zJ,seval,jI,cZ,Mk,Bu];refine bT ?_
 refine bQ [] (fun i _ H'=>∃(ps:List (AV×List aG.V)) (v:AV),mZ (r.take i)=some (ps.map (·.2))/\H'.get 0=some (.cells (bX w1 v n0 n1 n2 n3) false)/\H'.get 1=some (.cells [.int .i64 0] false)/\2<=H'.next/\HV H' 2 1 v (jF ps)/\
  (∀p∈ps,AP p)/\ps.length=i/\∀p∈ps,p.2.length<2^30) r.length (by omega) (by decide) ?_ ?_ ?_ ?_ ?_
 · simp only[zB,seval]
 · simp only[zB,seval,eI]
 · exact⟨[],.aS,rfl,b0,b1,by omega,.inl ⟨rfl,rfl⟩,fun p hp=>by simp at hp,rfl,fun p hp=>by simp at hp⟩
 · rintro i f H1 hi hk e1 ⟨ps,v,RJ,g0,g1,hn,Lo,Wd,nP,ZZ⟩;have f56:f 56=.aV tg 1 (cD r):=hk 56 rfl;have f2:f 2=.ref 0 0:=hk 2 rfl;have f3:f 3=.ref 1 0:=hk 3 rfl;have hxm:r[i]∈r:=Ai hi
   have aSa:∀q,uI r[i]=some q->mZ (r.take (i+1))=some (ps.map (·.2)++[q]):=fun q hq=>by rw[Ap,Ab hi];exact Ms RJ hq
   have Wh:=VL _ (Aw l0 hxm);have AJ:=zV hi;generalize r[i]=x at *;obtain⟨hu1,hu2⟩:=oJ 32 x;have aSo:=fun H=>OH (s:=x) 32 (by omega) H;have aSt:=xX 32 x;have pq:uI x=_:=rfl
   conv at pq=>rhs;unfold uI
   generalize cL 32 x=u at *
   have hul:1<=u.length:=by
    cases u with
    |nil=>exact absurd rfl aSt
    |cons a b=>simp
   obtain⟨tg2,bGg,aBn⟩:=GY 0 1 (els:=cD u) (a:=1) (by rw[eI];omega);rw[show(cD u).drop 1=cD (u.drop 1) by simp[cD]] at aBn;have PE:∀y∈u.drop 1,y.length<2^62:=fun y hy=>by have :=hu2 y (Es hy);omega
   have aHm:(u.drop 1).length<2^30:=(by rw[Dy];omega);refine aH ?_;refine bS ?_;simp only[↓zP,zJ,seval,f56,e1,aB,eI,hi,AJ];refine fL ?_;simp only[↓zP,zG,seval];refine bK (aSo _) ?_;simp only[↓zP,zJ,seval,jI,cZ,aBn,Bu]
   cases RH:pT (u.drop 1) with
   |none=>
    have hr:qV s (iX s)=none:=by
     rw[pg];refine oU ?_;simp only[xP,yZ hxm (by rw[pq,RH])];split
     · rename_i h;cases h
     rfl
    refine Qu (by simp only[By,Iw,zB,seval]) ((Wn aHm PE (PL RH) H1).yB tg2) ?_;exact qW hr (by simp only[zB,seval];exact f2) (by simp only[zB,seval];exact f3) g0 g1 rfl rfl
   |some ns=>
   obtain⟨aKy,ZW,bFm⟩:=yV RH;have aBd:=fun H=>(ie aHm PE aKy H).yB tg2;rw[<-ZW] at aBd;refine bK (aBd _) ?_;simp only[↓zP,zG,seval];refine bT ?_;refine aJ fun K2 cK=>?_
   have tail:∀f':cU,f' 9=nH ns->f' 2=.ref 0 0->ns.length%3=0->K2 f' [.call 10 [.ref 0 0,.ref 1 0]] H1:=by
    intro f' q9 q2 h3;apply cK;clear cK K2;have hq:uI x=some (mS ns):=(by rw[pq,RH];simp only[if_pos h3]);have IW:=LO h3;have MZ:=fun k=>OT (v:=ns) (k:=k);generalize mS ns=cs at *;refine bS ?_;simp only[↓zP,zG,seval];refine bT ?_;refine aJ fun K2 cK=>?_
    refine aH (fK [9] (fun m vs H'=>∃(k:Nat) (cv:AV),k<=cs.length/\m=cs.length -k/\vs=[if ns=[] then .aS else .aV 0 1 (eA (ns.drop (3*k)))]/\H'.get H1.next=some (.cells [cv] false)/\
     HV H' (H1.next+1) 3 cv (bF (cs.take k))/\H1.next+1<=H'.next/\∀j,j<H1.next->H'.get j=H1.get j) cs.length (by rfl) ?_ ?_)
    · refine⟨0,.aS,Bb _,rfl,?_,by rw[aA.aF,if_pos rfl],.inl ⟨rfl,rfl⟩,by simp,fun j hj=>by rw[aA.aF,if_neg (by omega)]⟩;simp only[sm,zB,seval,q9,nH,Ke,Cy]
    rintro m f2 H2 dA ⟨k,cv,yG,hm,fP,gc,hoc,xG,hold⟩;simp only[zM] at fP;have q10:f2 10=.ref H1.next 0:=dA 10 rfl;have q2':f2 2=.ref 0 0:=(dA 2 rfl).trans q2;refine aJ fun K3 EB=>?_;refine aJ fun K4 SJ=>?_;by_cases hkc:k<cs.length
    · have bN:ns≠[]:=fun e=>by rw[e] at IW;simp at IW;omega
      rw[if_neg bN] at fP;have hlen:(ns.drop (3*k)).length=ns.length -3*k:=Dy;have hd:decide (((ns.length -3*k:Nat):Int)>0)=true:=Al (by omega);obtain⟨s1,s2⟩:=aVz (a:=3*k) (by omega) (MZ k hkc);obtain⟨H3,z1,z2,z3,z4⟩:=hoc.push (bytes:=24) (e:=bZ cs[k]) (by omega) (by rw[aL,Cb];omega);simp only[↓zP,zG,seval,fP,dZ,hlen,hd];apply SJ;clear SJ K4;simp only[↓zP,zG,seval];apply EB;clear EB K3;refine bS ?_;refine aH ?_;refine Dz ?_;have tS:[[AV.int .i64 cs[k].x],[.int .i64 cs[k].y],[.int .i64 cs[k].z]].flatten=bZ cs[k]:=rfl;have sH:(bZ cs[k]).take 3=bZ cs[k]:=rfl;have gc3:=(z4 _ (Ew _)).trans gc;simp only[↓zP,zJ,seval,zD,q10,gc,fP,jI,cZ,s1,Bu,Bd,tS,sH,aM,eL,z1,gc3];refine⟨by omega,?_⟩;refine bT ?_;simp only[↓zP,zJ,seval,fP,jI,cZ,s2,Bu];refine⟨cs.length -(k+1),by omega,k+1,_,by omega,rfl,by rw[if_neg bN];rfl,rfl,?_,by omega,fun j hj=>by rw[if_neg (by omega),z4 j (by omega),hold j hj]⟩;rw[Ap,Ab hkc,show bF (cs.take k++(some cs[k]).toList)=bF (cs.take k)++[bZ cs[k]] by unfold bF;rw[Ch];rfl];exact z2.mono (by simp) fun j h1 h2=>by rw[aA.aC,if_neg (by omega)]
    have hke:k=cs.length:=by omega
    have fin:∀f3:cU,f3 2=.ref 0 0->f3 10=.ref H1.next 0->K2 f3 [.call 10 [.ref 0 0,.ref 1 0]] H2:=by
     intro f3 p2 p10;apply cK;clear cK K2 EB K3 SJ K4;have k0:=(hold 0 (by omega)).trans g0;have k1:=(hold 1 (by omega)).trans g1;rw[hke,Ar] at hoc;have aSu:=Lo.mono (H':=H2) (by omega) fun j _ hj=>hold j hj;have GG:(jF ps).length=ps.length:=Ad _;obtain⟨H3,z1,z2,z3,z4⟩:=aSu.push (bytes:=24) (e:=[cv]) (by omega) (by rw[GG];omega);have e0:=(z4 0 (by omega)).trans k0;have vu:=(z4 1 (by omega)).trans k1;simp only[bX] at k0 e0;simp only[↓zP,zJ,seval,p2,p10,k0,gc,eL,z1,e0];refine⟨ps++[(cv,cs)],.aV (H2.next+2) 1 (jF ps++[[cv]]),by rw[aSa _ hq];simp,rfl,?_,by omega,?_,?_,by simp[nP],?_⟩
     · exact vu
     · rw[show jF (ps++[(cv,cs)])=jF ps++[[cv]] by simp[jF]];exact z2.mono (by simp) fun j h1 h2=>by rw[aA.aC,if_neg (by omega)]
     · intro p hp
       rcases As.1 hp with hp|hp
       · exact Wd p hp
       rw[Bq.1 hp];exact hoc.aMi
     intro p hp
     rcases As.1 hp with hp|hp
     · exact ZZ p hp
     rw[Bq.1 hp];show cs.length<_;omega
    by_cases bN:ns=[]
    · rw[if_pos bN] at fP;simp only[↓zP,zG,seval,fP,Fm];apply SJ;clear SJ K4;simp only[↓zP,zG,seval];exact fin _ (by simp only[zB,seval];exact q2') (by simp only[zB,seval];exact q10)
    rw[if_neg bN] at fP;have hlen:(ns.drop (3*k)).length=0:=(by rw[Dy];omega);simp only[↓zP,zG,seval,fP,dZ,hlen,Fm];apply SJ;clear SJ K4;simp only[↓zP,zG,seval];exact fin _ (by simp only[zB,seval];exact q2') (by simp only[zB,seval];exact q10)
   have q2f:∀f':cU,f' 2=f 2->f' 2=.ref 0 0:=fun f' h=>h.trans f2;by_cases h3:ns.length%3=0
   · by_cases bN:ns=[]
     · have hz:nH ns=.aS:=(by unfold nH;rw[if_pos bN]);rw[hz] at tail ⊢;simp only[↓zP,zG,seval];exact tail _ (by simp only[zB,seval]) (by simp only[zB,seval];exact f2) h3
     have hz:nH ns=.aV 0 1 (eA ns):=(by unfold nH;rw[if_neg bN]);rw[hz] at tail ⊢;have JA:(ns.length:Int).tmod 3=0:=(by rw[Cu (by omega)];omega);simp only[↓zP,zG,seval,dZ,JA];exact tail _ (by simp only[zB,seval]) (by simp only[zB,seval];exact f2) h3
   have bN:ns≠[]:=fun e=>by subst e;exact h3 rfl
   have hz:nH ns=.aV 0 1 (eA ns):=(by unfold nH;rw[if_neg bN]);rw[hz];have JA:((ns.length:Int).tmod 3 != 0)=true:=by rw[El,Cu (by omega)];omega
   have hr:qV s (iX s)=none:=by
    rw[pg];refine oU ?_;simp only[xP,yZ hxm (by rw[pq,RH];simp only[if_neg h3])];split
    · rename_i h;cases h
    rfl
   simp only[↓zP,zG,seval,dZ,JA];refine qJ (t:=26) (v:=.int .i64 3) (by simp only[zB,seval]) ?_;exact qW hr (by simp only[zB,seval];exact f2) (by simp only[zB,seval];exact f3) g0 g1 rfl rfl
 rintro f H1 hk ⟨ps,v,RJ,g0,g1,hn,Lo,Wd,nP,ZZ⟩;have f2:f 2=.ref 0 0:=hk 2 rfl;have f3:f 3=.ref 1 0:=hk 3 rfl;have f0:f 0=.str s:=hk 0 rfl;rw[Ar] at RJ
 have ZV:xP (iX s)=some ⟨w1,ps.map (·.2),n0,n1,n2,n3⟩:=by rw[pg];simp only[xP,hw,hhd,hI,RJ];rfl
 have hck:=fun H=>kj (name:=w1) (by have :=uY w1 (by simp);omega) Lo.ry Wd ZZ (by omega) n0 n1 n2 n3 H;generalize ER:(⟨w1,ps.map (·.2),n0,n1,n2,n3⟩:BD)=b at *;have hcb:kS w1 (ps.map (·.2)) n0 n1 n2 n3=b.VC:=by rw[<-ER];rfl
 rw[hcb] at hck;simp only[↓zP,seval];apply hK;clear hK K;have b6:(bX w1 v n0 n1 n2 n3).length=6:=rfl;refine bS ?_;by_cases hc:b.VC=0;rotate_left
 · have hr:qV s (iX s)=none:=JX ZV fun q=>hc q.1;have hb:(b.VC != 0)=true:=by rw[El];exact hc
   simp only[↓zP,zJ,seval,f2,g0,oL b6];refine bK (hck _) ?_;simp only[↓zP,zG,seval,hb];refine qJ (t:=26) (v:=.int .i64 3) (by simp only[zB,seval]) ?_;exact qW hr (by simp only[zB,seval];exact f2) (by simp only[zB,seval];exact f3) g0 g1 rfl rfl
 have hb:(b.VC != 0)=false:=by rw[hc];rfl
 have sO:=BD.fit hc
 have gw:∀H,St 9 [.agg (bX w1 v n0 n1 n2 n3)] H (.ret (.str b.text)) H:=fun H=>by subst ER;exact yk sO Lo.ry Wd rfl H
 have aBi:qL .neq b.text s=some (.bool (!(b.text==s))):=rfl;simp only[↓zP,zJ,seval,f2,g0,oL b6];refine bK (hck _) ?_;simp only[↓zP,zJ,seval,hb,f2,g0,oL b6];refine bK (gw _) ?_;by_cases ht:b.text=s;rotate_left
 · have hr:qV s (iX s)=none:=JX ZV fun q=>ht q.2;have Ma:(b.text==s)=false:=by rw[Ca];exact ht
   simp only[↓zP,zJ,seval,f0,aBi,Ma];refine qJ (t:=26) (v:=.int .i64 3) (by simp only[zB,seval]) ?_;exact qW hr (by simp only[zB,seval];exact f2) (by simp only[zB,seval];exact f3) g0 g1 rfl rfl
 have Ma:(b.text==s)=true:=by rw[Dc];exact ht
 simp only[↓zP,zJ,seval,f0,aBi,Ma];refine bT ?_;simp only[↓zP,zJ,seval,f2,f3,g0,g1,oL b6];refine⟨_,Sn _ rfl _,?_⟩;refine⟨[.agg (bX w1 v n0 n1 n2 n3),.int .i64 0],?_,?_⟩
 · simp only[↓zP,zR,seval,f2,f3,oL b6]
 refine⟨_,_,rfl,?_⟩
 have bN:ps≠[]:=fun e=>by subst ER;exact sO.pn (by rw[e];rfl)
 have hv:=ZF Lo.ry Wd bN fun p hp=>by subst ER;exact(sO.pv p.2 (Bf.2 ⟨p,hp,rfl⟩)).1
 rw[XI ZV ⟨hc,ht⟩,show wB (.agg (bX w1 v n0 n1 n2 n3))=.agg (bX w1 (wB v) n0 n1 n2 n3) by simp[wB,nY,bX],hv,<-ER];rfl
theorem lp (o:Option BD):(zf o).free=true:=by
 have h3:∀l:List aG.V,bU [AV.aV 0 3 (bF l)]=true:=fun l=>by rw[show bU [AV.aV 0 3 (bF l)]=((AV.aV 0 3 (bF l)).free&&bU []) from rfl,cE rfl l];rfl
 have hl:∀ls:List (List aG.V),dJ (xg ls)=true:=fun ls=>dF h3 ls
 cases o with
 |none=>rfl
 |some b=>simp only[zf,YA,bX,sf,hl]
theorem Rh {s:List UInt8} (hs:s.length<2^28) (H:aA):St 4 [.str s] H (.ret (zf (qV s (iX s)))) H:=by obtain⟨out,H',⟨a,e,rfl,he⟩,hS⟩:=tD sN bBj (args:=[.str s]) (Af rfl) (yd hs);refine(hS.bJa (Qh a)).frame gY (by simp only[sf]) (tk:=none) (fun k hk=>by cases hk) (n:=0) H ?_;show fT _ none _ 0 (AV.gP [wB a,.int .i64 e])=_;rw[he];exact oV (lp _)
theorem CN {c b:UInt8} {a:List UInt8}:∀{o:List (List UInt8)} {l:List UInt8},cL c a=o++[l]->cL c (a++[b])=if b==c then o++[l,[]] else o++[l++[b]]:=by
 induction a with
 |nil=>
  intro o l h
  match o,h with
  |[],h=>simp only[cL,Dk,Hl,Kq] at h;subst h;simp only[Dk,cL]
  |x::r,h=>simp[cL] at h
 |cons x a ih=>
  intro o l h;have bN:=xX c a;simp only[Ei,cL] at h ⊢;split at h
  · rename_i hx
    match o,h with
    |[],h=>simp at h;exact absurd h.2 bN
    |y::o,h=>simp only[Ei,Hl] at h;rw[if_pos hx,ih h.2,<-h.1];cases b==c<;>rfl
  rename_i hx;rw[if_neg hx]
  cases hs:cL c a with
  |nil=>exact absurd hs bN
  |cons y ys=>
   rw[hs] at h;simp only at h
   match o,h with
   |[],h=>simp only[Dk,Hl] at h;obtain⟨rfl,rfl⟩:=h;rw[ih (o:=[]) (l:=y) (by rw[hs];rfl)];cases b==c<;>rfl
   |z::o,h=>simp only[Ei,Hl] at h;obtain⟨rfl,rfl⟩:=h;rw[ih (o:=y::o) (l:=l) (by rw[hs];rfl)];cases b==c<;>rfl
def sT (s:List UInt8):List (List UInt8):=if(cL 10 s).getLast?=some [] then(cL 10 s).dropLast else []
theorem Sc {s:List UInt8} {o:List (List UInt8)} {l:List UInt8} (h:cL 10 s=o++[l]):sT s=if l=[] then o else []:=by unfold sT;rw[h];simp
theorem Ww {b:BD} (h:b.Fit):sT b.text=Lib.join (iC b.name b.m0 b.m1 b.r0 b.r1) [32]::b.ls.map kZ:=by
 have hs:=sE (c:=10) (xs:=Lib.join (iC b.name b.m0 b.m1 b.r0 b.r1) [32]::b.ls.map kZ) (by simp) (PV h);unfold BD.text QZ;generalize Lib.join (iC b.name b.m0 b.m1 b.r0 b.r1) [32]::b.ls.map kZ=xs at *
 rcases Ja xs with rfl|⟨o,l,rfl⟩
 · exact absurd hs (xX _ _)
 rw[List.concat_eq_append] at hs ⊢;have :=CN (b:=10) hs;rw[if_pos (show((10:UInt8)==10)=true from rfl),show o++[l,[]]=(o++[l])++[[]] by simp] at this;rw[Sc this,if_pos rfl]
theorem UI {c:UInt8}:∀(x:List UInt8) (xs:List (List UInt8)),Lib.join (x::xs) [c]=x++xs.flatMap (c:: ·)
 |x,[]=>by simp[Lib.join]
 |x,y::r=>by
  have e:Lib.join (x::y::r) [c]=x++c::Lib.join (y::r) [c]:=by simp[Lib.join,List.intercalate,List.intersperse]
  rw[e,UI y r];simp
theorem ig {c:UInt8}:∀(x:List UInt8) (xs:List (List UInt8)),Lib.join (x::xs) [c]++[c]=(x::xs).flatMap (· ++[c])
 |x,[]=>by simp[Lib.join]
 |x,y::r=>by
  have e:Lib.join (x::y::r) [c]=x++c::Lib.join (y::r) [c]:=by simp[Lib.join,List.intercalate,List.intersperse]
  rw[e,Cl,<-ig y r];simp
theorem Qc:∀{l:List Nat} {i:Nat} (h:i<l.length) (y:Nat),bR (l.set i y)+65536^i*l.getD i 0=bR l+65536^i*y
 |d::l,0,_,y=>by simp[bR];omega
 |d::l,i+1,h,y=>by have :=Qc (l:=l) (i:=i) (by simpa using h) y;simp only[List.set_cons_succ,bR,Dw,Dd];rw[Da (65536^i) 65536,Ev,Ev];generalize 65536^i*l.getD i 0=p at *;generalize 65536^i*y=q at *;omega
theorem Yf {o:List Nat} {k c T:Nat} (hk:k<o.length) (h:bR o+65536^k*c=T):
 bR (o.set k ((o.getD k 0+c)%65536))+65536^(k+1)*((o.getD k 0+c) / 65536)=T:=by
 have h1:=Qc hk ((o.getD k 0+c)%65536)
 have h2:65536^k*((o.getD k 0+c)%65536)+65536^k*(65536*((o.getD k 0+c) / 65536))=65536^k*o.getD k 0+65536^k*c:=by rw[<-Ej,<-Ej,Nat.mod_add_div]
 rw[Dd,Ev];omega
theorem Xl {d q:List Nat} {k rest:Nat} (hk:k<d.length) (hl:q.length=d.length) (h:10*bR (q.drop (k+1))+rest=bR (d.drop (k+1))):
 10*bR ((q.set k ((65536*rest+d.getD k 0) / 10)).drop k)+(65536*rest+d.getD k 0)%10=bR (d.drop k):=by
 have h1:(q.set k ((65536*rest+d.getD k 0) / 10)).drop k=(65536*rest+d.getD k 0) / 10::q.drop (k+1):=by rw[Dm (by rw[Eg];omega),List.getElem_set_self,List.drop_set_of_lt (by omega)]
 have h2:d.drop k=d.getD k 0::d.drop (k+1):=by rw[Dm hk];simp[List.getD,hk]
 rw[h1,h2];simp only[bR];rw[<-h];have :=Fh (65536*rest+d.getD k 0) 10;omega
theorem aAb {n v:Nat} {out:List UInt8} (h:if v=0 then Lib.decDigits n=out else Lib.decDigits n=Lib.decDigits v++out) (hv:v≠0):
 if v / 10=0 then Lib.decDigits n=UInt8.ofNat (48+v%10)::out else Lib.decDigits n=Lib.decDigits (v / 10)++UInt8.ofNat (48+v%10)::out:=by
 rw[if_neg hv] at h;by_cases h10:v<10
 · rw[oP h10] at h;rw[if_pos (by omega),h,Cn h10];rfl
 rw[vH (u:=v) (by omega)] at h;rw[if_neg (by omega),h];simp
theorem kc:∀(n:Nat) {l:List UInt8},l.length=n->l≠[]->l.all rM=true->l.head?≠some 48->10^(n -1)<=kQ l
 |0,l,h,bN,_,_=>absurd (Fy.1 h) bN
 |n+1,l,h,bN,ha,h48=>by
  obtain⟨r,c,rfl⟩:∃r c,l=r++[c]:=by
   rcases Ja l with rfl|⟨r,c,rfl⟩
   · exact absurd rfl bN
   exact⟨r,c,by simp⟩
  rw[Hn,Am] at ha;have hr:r.length=n:=by simpa using h
  rw[yD]
  cases r with
  |nil=>
   have hc:rM c=true:=(by simpa using ha.2);have bEc:c≠48:=(by simpa using h48);simp[rM] at hc
   have :c.toNat≠48:=fun e=>bEc (by
    have :=Ao UInt8.ofNat e
    simpa using this)
   simp at hr;subst hr;simp;omega
  |cons a r=>have ih:=kc n hr (by simp) ha.1 (by simpa using h48);rw[show n+1 -1=(n -1)+1 by simp at hr;omega,Dd];omega
theorem aIv {s:List UInt8} (h:kV s=true) (hl:¬(cX s).length<=512):norm (jw s)=none:=by
 unfold norm;have h':=h;unfold kV at h';simp only[Am,Dt,Ct,List.isEmpty_eq_false_iff,El,Dc] at h';obtain⟨⟨h1,h2⟩,h3⟩:=h';have bN:s≠[48]:=fun e=>by subst e;exact hl (by decide)
 have :=kc _ rfl h1 h3 (h2.resolve_right bN);have h5:W^16<=10^((cX s).length -1):=Br (Nat.pow_le_pow_left (show W<=10^10 by decide) 16) (by rw[<-Nat.pow_mul];exact Dq (by decide) (by omega));rw[if_neg (by rw[DT];omega)]
theorem aDg {s:List UInt8} (h:kV s=true):pZ s=norm (jw s):=by
 unfold pZ;by_cases hl:(cX s).length<=512
 · rw[if_pos ⟨h,hl⟩]
 rw[if_neg (fun q=>hl q.2),aIv h hl]
def QK (l:List aG.V):List UInt8:=[112,97,114,116]++(l.flatMap fun v=>(lD v).flatMap (32:: ·))++[10]
theorem Uk (l:List aG.V):kZ l++[10]=QK l:=by unfold kZ qC QK;rw[UI,List.flatMap_assoc]
def Mc (name:List UInt8) (m0 m1 r0 r1:Int):List UInt8:=
 [98,111,100,121,32]++name++[32,109,97,115,115,32]++Lib.itoa m0++[32]++Lib.itoa m1++[32,114,111,117,103,104,32]++Lib.itoa r0++[32]++Lib.itoa r1++[10]
theorem aAz (name:List UInt8) (m0 m1 r0 r1:Int):Lib.join (iC name m0 m1 r0 r1) [32]++[10]=Mc name m0 m1 r0 r1:=by unfold iC Mc;rw[UI];simp
theorem Xm (name:List UInt8) (ls:List (List aG.V)) (m0 m1 r0 r1:Int):QZ name ls m0 m1 r0 r1=Mc name m0 m1 r0 r1++ls.flatMap QK:=by
 unfold QZ;rw[ig,Cl,aAz,List.flatMap_map];congr 1
 induction ls with
 |nil=>rfl
 |cons l r ih=>rw[Cl,Cl,ih,Uk]
end Go.Proofs.YtbndcmnnbiiobaaGreatDoor
