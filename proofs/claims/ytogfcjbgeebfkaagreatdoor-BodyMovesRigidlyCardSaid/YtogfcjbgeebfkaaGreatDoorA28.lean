/-
  Part of the proof of statement 9
-/
import Derived.Test.YtogfcjbgeebfkaaGreatDoorA26
import Derived.Test.YtogfcjbgeebfkaaGreatDoorA27
import Derived.Test.YtogfcjbgeebfkaaGreatDoorA11
import Derived.Test.YtogfcjbgeebfkaaGreatDoorA13
set_option linter.unusedSimpArgs false
set_option linter.unusedVariables false
set_option maxRecDepth 100000
set_option maxHeartbeats 16000000
namespace Go.Proofs.YtogfcjbgeebfkaaGreatDoor
open Go Go.Av Go.jG
attribute [local congr] aX aQ aR aL bA aW aS aG bB
attribute [local irreducible] FC bT eI
variable{z:Int}
theorem Lx(h:z.natAbs<W^16):norm z=some z:=by unfold norm;rw[if_pos h]
theorem w63(h:z.natAbs<=2^63):z.natAbs<W^16:=by
 have :(2:Nat)^63<W^16:=by decide
 omega
theorem bLx(a b c d:Nat):[[AV.int .i64 (a:Int)],[.int .i64 (b:Int)],[.int .i64 (c:Int)],[.int .i64 (d:Int)]]=nE [a,b,c,d]:=rfl
theorem DD4{a b c d:Nat}(h:a<65536/\b<65536/\c<65536/\d<65536):DD [a,b,c,d]:=by
 intro x C;simp only[Bd,Ci,Fe] at C
 rcases C with rfl|rfl|rfl|rfl
 . exact h.1
 . exact h.2.1
 . exact h.2.2.1
 exact h.2.2.2
theorem yO(o: -2^63<=z)(O:z<2^63)(H:aA):Sg 59 [.int .i64 z] H (.ret (.agg (cI z))) H:=by
 refine So bQs Zac ?_ H;unfold W59;dsimp only
 have w:∀(n k:Nat),n<2^63->k≠0->IntKind.i64.wrap ((n:Int).tdiv k)=((n / k:Nat):Int):=fun n k A E=>by
  have Z:n / k<=n:=Fs n k;have e:(n:Int).tdiv k=((n / k:Nat):Int):=by rw[Gz A0];rfl
  rw[e];generalize n / k=q at *;exact wrap_i64 A0 A0
 have m:∀(n k:Nat),(n:Int).tmod k=((n%k:Nat):Int):=fun n k=>by rw[Fx A0];rfl
 have all:∀n:Nat,n<2^63->((n:Int).tmod 65536=((n%65536:Nat):Int))/\(IntKind.i64.wrap ((n:Int).tdiv 65536)=((n / 65536:Nat):Int))/\(((n / 65536:Nat):Int).tmod 65536=((n / 65536%65536:Nat):Int))/\(IntKind.i64.wrap ((n:Int).tdiv 4294967296)=((n / 4294967296:Nat):Int))/\
  (((n / 4294967296:Nat):Int).tmod 65536=((n / 4294967296%65536:Nat):Int))/\(IntKind.i64.wrap ((n:Int).tdiv 281474976710656)=((n / 281474976710656:Nat):Int)):=fun n A=>
  ⟨m n 65536,w n 65536 A A1,m (n / 65536) 65536,w n 4294967296 A A1,m (n / 4294967296) 65536,w n 281474976710656 A A1⟩
 by_cases s:0<=z
 . obtain⟨n,rfl⟩:∃n:Nat,z=n:=⟨z.toNat,by omega⟩;have A:n<2^63:=by omega
   have hd:decide ((n:Int)≥0)=true:=Ag A0;have b:DD [n%65536,n / 65536%65536,n / 4294967296%65536,n / 281474976710656]:=DD4 ⟨by omega,by omega,by omega,by omega⟩;have Q:cZ [n%65536,n / 65536%65536,n / 4294967296%65536,n / 281474976710656]=n:=(by simp only[cZ];omega);have a:=BW false 1 b A2;rw[Q,Lx (by rw[jY];exact w63 (z:=n) A0)] at a;simp only[↓zP,zJ,seval,hd,all n A];rw[bLx];refine fC (a _) ?_;simp only[cO,sg];refine Ty ?_;exact ZaD
 obtain⟨n,rfl⟩:∃n:Nat,z= -((n:Int)+1):=⟨(-z -1).toNat,by omega⟩;have A:n<2^63:=by omega
 have hd:decide (-((n:Int)+1)≥0)=false:=Ab A0;have R:IntKind.i64.wrap (-((n:Int)+1)+1)= -(n:Int):=wI A0;have L:IntKind.i64.wrap (0 - -(n:Int))=(n:Int):=wI A0;have b:DD [n%65536,n / 65536%65536,n / 4294967296%65536,n / 281474976710656]:=DD4 ⟨by omega,by omega,by omega,by omega⟩;have Q:cZ [n%65536,n / 65536%65536,n / 4294967296%65536,n / 281474976710656]=n:=by simp only[cZ];omega
 have c:DD [1]:=fun d hd=>by rw[Bw] at hd;subst hd;decide
 have f:=aJa b c A2 A2 1 1;rw[Q,show cZ [1]=1 from rfl] at f
 have a:=BW true 0 (KN (n+1)) (by
  have :=Sz (k:=5) (n:=n+1) (by
   have :(2:Nat)^63<65536^5:=by decide
   omega)
  omega)
 rw[CD,Lx (by rw[jY];exact w63 (z:=(n+1:Nat)) A0)] at a;simp only[↓zP,zJ,seval,hd,R,L,all n A];rw[bLx,show [[AV.int .i64 1]]=nE [1] from rfl];refine fC (f _) ?_;refine fC (a _) ?_;rw[show sg true (n+1)= -((n:Int)+1) by simp[sg]];simp only[cO];refine Ty ?_;exact ZaD
def tt:Option Int->Int×Bool
 |some z=>if z.natAbs<2^62 then(z,true) else(0,false)
 |none=>(0,false)
variable{n:Nat}
theorem ko(h:n<W^16)(O:aP n 1<1073741824)(Z:∀k,2<=k->k<16->aP n k=0):n<2^62/\n=aP n 1*4294967296+aP n 0:=by
 have hW:W=4294967296:=rfl;have a:=JP (m:=2) h Z;have T:aP n 1=n / 4294967296%4294967296:=by simp[aP,hW]
 have Y:aP n 0=n%4294967296:=by simp[aP,hW]
 have P:W^2=18446744073709551616:=rfl;rw[P] at a;omega
theorem aBw{k:Nat}(E:2<=k)(h:aP n k≠0):¬n<2^62:=by have O:=pg h;have Z:W^2<=W^k:=Bu A1 E;have P:W^2=18446744073709551616:=rfl;omega
theorem aKo(h:¬aP n 1<1073741824):¬n<2^62:=by
 have hW:W=4294967296:=rfl;have T:aP n 1=n / 4294967296%4294967296:=by simp[aP,hW]
 omega
theorem km{p q:Nat}(m:p<1073741824)(D:q<4294967296)(e:n=p*4294967296+q):IntKind.i64.wrap (p:Int)=p/\IntKind.i64.wrap ((p:Int)*4294967296)=(p:Int)*4294967296/\IntKind.i64.wrap (q:Int)=q/\IntKind.i64.wrap ((p:Int)*4294967296+(q:Int))=n/\IntKind.i64.wrap (0 -(n:Int))= -(n:Int):=by
 refine⟨wrap_i64 A0 A0,wrap_i64 A0 A0,wrap_i64 A0 A0,?_,?_⟩
 . rw[wrap_i64 A0 A0];omega
 rw[wrap_i64 A0 A0];omega
theorem jy(s:z.natAbs<W^16)(H:aA):Sg 142 [.agg (cI z)] H (.ret (.jS [.int .i64 (tt (some z)).1,.bool (tt (some z)).2])) H:=by
 refine So bHf Zaj ?_ H;unfold aVd;dsimp only;have c:=wL (dN.enc s);have U:=iL (.aV z.natAbs);simp only[tt];unfold cI at c ⊢;have S:decide (((aP z.natAbs 1:Nat):Int)≥1073741824)= !decide (aP z.natAbs 1<1073741824):=by rw[<-Ij,Aw];omega
 have t:∀k,k<16->(AV.bool false::.bool (decide (z<0))::wC (aV 16 z.natAbs)).getD (2+k) aB=.int .u32 (aP z.natAbs k:Nat):=fun k E=>by rw[Kc2,oK (by rw[cK];exact E),lA E]
 have q:(wC (aV 16 z.natAbs)).getD 1 aB=.int .u32 (aP z.natAbs 1:Nat):=t 1 A1;have C:(wC (aV 16 z.natAbs)).getD 0 aB=.int .u32 (aP z.natAbs 0:Nat):=t 0 A1;refine bP ?_;refine Ty ?_;refine bQ ?_;simp only[↓zP,zJ,seval,U];refine fC (c _) ?_;by_cases O:aP z.natAbs 1<1073741824
 . have a:decide (((aP z.natAbs 1:Nat):Int)≥1073741824)=false:=by rw[S];simp[O]
   simp only[Bi];simp only[↓zP,zJ,seval,AR,U,q,a];refine cL [] (fun k vs H'=>H'=((⟨0,.nil⟩:aA).alloc (.cells (.bool false::.bool (decide (z<0))::wC (aV 16 z.natAbs)) false))/\∀j,2<=j->j<k->aP z.natAbs j=0) 2 16 A1 A1 A1 ?_ ?_ ?_ ?_ ?_
   . exact zq
   . exact⟨rfl,fun j O Z=>by omega⟩
   . rintro i f H1 o F E T ⟨rfl,Y⟩;exact ZaK
   . rintro i f H1 o F E T ⟨rfl,Y⟩;have b:f 1=.ref 0 0:=E 1 rfl;have J:=t i F;have p:2+i<=17:=A0;refine aJ ?_;by_cases g:aP z.natAbs i=0
     . have X:(((aP z.natAbs i:Nat):Int) != 0)=false:=(by rw[g];rfl);simp only[↓zP,zJ,seval,b,T,aD,F,U,J,p,X]
       exact⟨trivial,fun j O Z=>by
        by_cases e:j=i
        . subst e;exact g
        exact Y j O A0⟩
     have X:(((aP z.natAbs i:Nat):Int) != 0)=true:=(by rw[Gc];omega);refine Wz ?_;refine Rx ?_;rw[if_neg (aBw o g)];rfl
   rintro f H1 E ⟨rfl,Y⟩;have b:f 1=.ref 0 0:=E 1 rfl;obtain⟨r,Q⟩:=ko s O Y;rw[if_pos r];have l:aP z.natAbs 0<4294967296:=dC z.natAbs 0;obtain⟨w1,w2,G,h,M⟩:=km O l Q;by_cases A:z<0
   . have d:decide (z<0)=true:=Ag A;simp only[↓zP,zJ,seval,b,U,q,C,w1,w2,G,h,M,d];refine Rx ?_;rw[show -(z.natAbs:Int)=z by omega];rfl
   have d:decide (z<0)=false:=Ab A;simp only[↓zP,zJ,seval,b,U,q,C,w1,w2,G,h,d];refine Rx ?_;rw[show(z.natAbs:Int)=z by omega];rfl
 have a:decide (((aP z.natAbs 1:Nat):Int)≥1073741824)=true:=by rw[S];simp[O]
 simp only[Bi];refine Wz ?_;refine Rx ?_;rw[if_neg (aKo O)];rfl
theorem tM(s:z.natAbs<2^62)(H:aA):Sg 142 [.agg (cI z)] H (.ret (.jS [.int .i64 z,.bool true])) H:=by
 have :=jy (z:=z) (w63 A0) H
 rwa [tt,if_pos s] at this
theorem aFb(h:z.natAbs<2^62):z.natAbs<W^16:=w63 A0
theorem aIx(x:Int)(H:aA):Sg 225 [.int .i64 x] H (.ret (.bool (decide (x<2147483648)&&decide (x> -2147483648)))) H:=by
 refine So bIv Zac ?_ H;unfold aWq;dsimp only
 cases h:decide (x<2147483648) with
 |true=>refine Wz ?_;exact⟨rfl,_,by simp only[↓zP,zR,seval];rfl,rfl⟩
 |false=>refine Wz ?_;exact⟨rfl,_,by simp only[↓zP,zR,seval];rfl,rfl⟩
variable{x:Int}
theorem OU(h:x.natAbs<2^31)(H:aA):Sg 225 [.int .i64 x] H (.ret (.bool true)) H:=by
 have :=aIx x H
 rwa [Ag (show x<2147483648 by omega),Ag (show x> -2147483648 by omega)] at this
variable{y:Int}
theorem wM(C:x.natAbs<2^31)(Q:y.natAbs<2^31)(H:aA):Sg 173 [.agg (cI x),.agg (cI y)] H (.ret (.agg (cI (x*y)))) H:=by
 refine Sp bHs Zaj Zav ?_ H;unfold aVo;dsimp only
 have X:(x*y).natAbs<2^62:=by
  exact ZcB
 have a:IntKind.i64.wrap (x*y)=x*y:=wrap_i64 A0 A0;have S:=yO (z:=x*y) A0 A0;refine bP ?_;refine Ty ?_;refine fW ?_;have :=tM (z:=x) A0;refine Wz ?_;refine fW ?_;have :=tM (z:=y) A0;refine Wz ?_;refine bQ ?_;refine aM fun K hK=>?_;have :=OU C;have :=OU Q;refine Wy ?_;exact ZaD
theorem JW(C:x.natAbs<2^62)(Q:y.natAbs<2^62)(H:aA):Sg 60 [.agg (cI x),.agg (cI y)] H (.ret (.agg (cI (x+y)))) H:=by refine Sp bQu Zaj Zav ?_ H;unfold W60;dsimp only;have a:IntKind.i64.wrap (x+y)=x+y:=wrap_i64 A0 A0;have S:=yO (z:=x+y) A0 A0;refine bP ?_;refine Ty ?_;refine fW ?_;have :=tM C;refine Wz ?_;refine fW ?_;have :=tM Q;refine Wz ?_;refine bQ ?_;refine aM fun K hK=>?_;refine Wy ?_;refine Rx ?_;rfl
theorem aQn(s:z.natAbs<W^16)(H:aA):Sg 219 [.agg (cI z)] H (.ret (.agg (cI (-z)))) H:=by refine Sp bIs Zaj Zav ?_ H;unfold aWn;dsimp only;have c:=wL (dN.enc s);have hd:=wN false (decide (z<0)) (.aV z.natAbs);have A:=BW (!decide (z<0)) 0 (KN z.natAbs) (by have :=vO.2 s;omega);rw[CD,Lx (by rw[jY];exact s),show sg (!decide (z<0)) z.natAbs= -z from by unfold sg;split<;>simp_all<;>omega] at A;rw[fS s] at hd;have B:AV.bool false::AV.bool (decide (z<0))::wC (aV 16 z.natAbs)=cI z:=rfl;rw[B] at hd;have O:(cI z).getD 1 aB=.bool (decide (z<0)):=rfl;refine bP ?_;refine Ty ?_;refine fW ?_;refine Ty ?_;refine fC (c _) ?_;simp only[Bi];refine Ty ?_;refine fW ?_;refine Dz ?_;refine Wz ?_;simp only[cO];refine Wz ?_;refine bQ ?_;refine Tx ?_;refine Rx ?_;rfl
theorem jl(C:x.natAbs<2^62)(Q:y.natAbs<2^62)(H:aA):Sg 163 [.agg (cI x),.agg (cI y)] H (.ret (.agg (cI (x -y)))) H:=by refine Sp bHo Zaj Zav ?_ H;unfold aVl;dsimp only;have I:=JW C (y:= -y) (by rwa [Jg]);rw[<-Jf] at I;refine bP ?_;refine Ty ?_;refine fW ?_;refine Dz ?_;have :=aQn (aFb Q);refine Wz ?_;refine bQ ?_;refine Tx ?_;refine Rx ?_;rfl
theorem aQj(s:z.natAbs<W^16)(H:aA):Sg 270 [.agg (cI z)] H (.ret (.agg (cI (z.natAbs:Int)))) H:=by refine Sp bJx Zaj Zav ?_ H;unfold aXs;dsimp only;have c:=wL (dN.enc s);have hd:=wN false (decide (z<0)) (.aV z.natAbs);have A:=BW false 0 (KN z.natAbs) (by have :=vO.2 s;omega);rw[CD,Lx (by rw[jY];exact s),show sg false z.natAbs=(z.natAbs:Int) from rfl] at A;rw[fS s] at hd;have B:AV.bool false::AV.bool (decide (z<0))::wC (aV 16 z.natAbs)=cI z:=rfl;rw[B] at hd;refine bP ?_;refine Ty ?_;refine fW ?_;refine Ty ?_;refine fC (c _) ?_;simp only[Bi];refine Ty ?_;refine bQ ?_;refine Ty ?_;refine fC (hd _) ?_;refine fC (A _) ?_;simp only[cO];refine Ty ?_;refine Rx ?_;rfl
def aJk(z:Int):Int:=if z=0 then 0 else if z<0 then -1 else 1
theorem aIt(s:z.natAbs<W^16)(H:aA):Sg 217 [.agg (cI z)] H (.ret (.int .i64 (aJk z))) H:=by
 refine So bIq Zaj ?_ H;unfold aWl;dsimp only;have c:=wL (dN.enc s);have hd:=wN false (decide (z<0)) (.aV z.natAbs);rw[fS s] at hd;have B:AV.bool false::AV.bool (decide (z<0))::wC (aV 16 z.natAbs)=cI z:=rfl;rw[B] at hd;have O:(cI z).getD 1 aB=.bool (decide (z<0)):=rfl;unfold aJk;refine bP ?_;refine Ty ?_;refine bQ ?_;refine aM fun K hK=>?_;refine Ty ?_;refine fC (c _) ?_;simp only[Bi];refine Wy ?_;by_cases o:z=0
 . have X:(((dg z.natAbs).length:Int)==0)=true:=by
    rw[Dl,Up.2 A0];rfl
   simp only[↓zP,zG,seval,eU,X];refine Rx ?_;rw[if_pos o];rfl
 have X:(((dg z.natAbs).length:Int)==0)=false:=by rw[Cy];intro h;have :=Up.1 (Cm (l:=dg z.natAbs) A0);omega
 simp only[↓zP,zG,seval,eU,X];apply hK;clear hK K
 cases A:decide (z<0) with
 |true=>rw[A] at O;simp only[↓zP,zJ,seval,O];refine Rx ?_;rw[if_neg o,if_pos (Dv A)];rfl
 |false=>rw[A] at O;simp only[↓zP,zJ,seval,O];refine Rx ?_;rw[if_neg o,if_neg (Ei A)];rfl
theorem GH(C:x.natAbs<W^16)(Q:y.natAbs<W^16)(H:aA):Sg 162 [.agg (cI x),.agg (cI y)] H (.ret (.int .i64 (lO (some x) (some y)))) H:=by
 refine So bHn Zaj ?_ H;unfold aVk;dsimp only;have a:=wL (dN.enc C);have b:=wL (dN.enc Q);have N:=wN false (decide (x<0)) (.aV x.natAbs);have v:=wN false (decide (y<0)) (.aV y.natAbs);rw[fS C] at N;rw[fS Q] at v;rw[show AV.bool false::AV.bool (decide (x<0))::wC (aV 16 x.natAbs)=cI x from rfl] at N;rw[show AV.bool false::AV.bool (decide (y<0))::wC (aV 16 y.natAbs)=cI y from rfl] at v;have h:(dg x.natAbs).length<2^29:=by have :=vO.2 C;omega
 have V:(dg y.natAbs).length<2^29:=by have :=vO.2 Q;omega
 have D:=Ym (KN x.natAbs) (KN y.natAbs) h V 0 0;have B:=Ym (KN y.natAbs) (KN x.natAbs) V h 0 0;rw[CD,CD] at D B;have c:(cI x).getD 1 aB=.bool (decide (x<0)):=rfl;have e:(cI y).getD 1 aB=.bool (decide (y<0)):=rfl;simp only[lO];refine bP ?_;refine Ty ?_;refine fW ?_;refine Ty ?_;refine fC (a _) ?_;simp only[Bi];refine Ty ?_;refine fW ?_;refine Ty ?_;refine fC (a _) ?_;simp only[Bi];refine Ty ?_;refine fW ?_;refine Ty ?_;refine fC (b _) ?_;simp only[Bi];refine Ty ?_;refine bQ ?_;have d:(true==false)=false:=rfl;have f:(false==true)=false:=rfl;by_cases s:x<0
 . rw[Ag s] at c;by_cases k:y<0
   . rw[Ag k] at e;refine bP ?_;refine Wz ?_;refine fW ?_;refine Wz ?_;refine fW ?_;refine Wz ?_;refine fW ?_;refine Wz ?_;refine fW ?_;refine Wz ?_;refine fW ?_;refine Wz ?_;refine bQ ?_;by_cases O:y.natAbs<x.natAbs
     . have T:=Ag O;simp only[↓zP,zG,seval,T];refine Rx ?_;rw[if_pos A0];rfl
     have T:=Ab O;by_cases Z:x.natAbs<y.natAbs
     . have P:=Ag Z;simp only[↓zP,zG,seval,T,P];refine Rx ?_;exact ZbU
     have P:=Ab Z;refine Wz ?_;refine Rx ?_;rw[if_neg A0,if_neg A0];rfl
   rw[Ab k] at e;refine Wz ?_;refine Rx ?_;rw[if_pos A0];rfl
 rw[Ab s] at c;by_cases k:y<0
 . rw[Ag k] at e;refine Wz ?_;refine Rx ?_;exact ZbU
 rw[Ab k] at e;refine bP ?_;refine Wz ?_;refine fW ?_;refine Wz ?_;refine fW ?_;refine Wz ?_;refine fW ?_;refine Wz ?_;refine fW ?_;refine Wz ?_;refine fW ?_;refine Wz ?_;refine bQ ?_;by_cases O:x.natAbs<y.natAbs
 . have T:=Ag O;simp only[↓zP,zG,seval,T];refine Rx ?_;rw[if_pos A0];rfl
 have T:=Ab O;by_cases Z:y.natAbs<x.natAbs
 . have P:=Ag Z;simp only[↓zP,zG,seval,T,P];refine Rx ?_;exact ZbU
 have P:=Ab Z;refine Wz ?_;refine Rx ?_;rw[if_neg A0,if_neg A0];rfl
end Go.Proofs.YtogfcjbgeebfkaaGreatDoor
namespace Go.Proofs.YtogfcjbgeebfkaaGreatDoor
open Go Go.Av Go.aC Go.jG
attribute [local congr] aX aQ aR aL bA aW aS aG bB
attribute [local irreducible] FC bT eI
variable{n:Nat}
theorem Yy{p q:Nat}(A:n<2^64)(e:n=p*4294967296+q)(D:q<4294967296):IntKind.u64.wrap (p:Int)=p/\IntKind.u64.wrap ((p:Int)*4294967296)=(p:Int)*4294967296/\IntKind.u64.wrap (q:Int)=q/\IntKind.u64.wrap ((p:Int)*4294967296+(q:Int))=n:=by refine⟨?_,?_,?_,?_⟩<;>rw[Rs (k:=.u64) rfl]<;>simp only[IntKind.bits]<;>omega
theorem bDf(h:n<2^64):n=aP n 1*4294967296+aP n 0/\aP n 0<4294967296:=by
 have hW:W=4294967296:=rfl;have T:aP n 1=n / 4294967296%4294967296:=by simp[aP,hW]
 have Y:aP n 0=n%4294967296:=by simp[aP,hW]
 omega
theorem Tw{z:Int}(o: -2^63<=z)(O:z<2^63)(H:aA):Sg 159 [.agg (cI z)] H (.ret (.jS [.int .i64 z,.bool true])) H:=by
 refine So bHl Zaj ?_ H;unfold aVi;dsimp only;have s:z.natAbs<W^16:=w63 A0;have a:=wL (dN.enc s);have lo:=yO (z:= -9223372036854775808) A1 A1;have F:=yO (z:=9223372036854775807) A1 A1;have c:=GH s (y:= -9223372036854775808) A1;have m:=GH s (y:=9223372036854775807) A1;have S:decide (lO (some z) (some (-9223372036854775808))<0)=false:=Ab (by simp only[lO];split<;>(try split)<;>omega);have e:decide (lO (some z) (some 9223372036854775807)>0)=false:=Ab (by simp only[lO];split<;>(try split)<;>omega);obtain⟨b,Z⟩:=bDf (n:=z.natAbs) A0;obtain⟨w1,w2,G,t⟩:=Yy A0 b Z
 have M:IntKind.i64.wrap (z.natAbs:Int)=if z<0/\z.natAbs=2^63 then z else(z.natAbs:Int):=by
  by_cases h:z.natAbs=2^63
  . rw[if_pos ⟨by omega,h⟩,h];have :z= -2^63:=by omega
    rw[this];rfl
  rw[if_neg (fun X=>h X.2)];exact wrap_i64 A0 A0
 have q:(wC (aV 16 z.natAbs)).getD 1 aB=.int .u32 (aP z.natAbs 1:Nat):=by rw[oK (by rw[cK];decide),lA A1]
 have C:(wC (aV 16 z.natAbs)).getD 0 aB=.int .u32 (aP z.natAbs 0:Nat):=by rw[oK (by rw[cK];decide),lA A1]
 have U:=iL (.aV z.natAbs);have R:∀z,(cI z).length=18:=fun z=>by simp[cI,cE,cK]
 have T:(cI z).getD 1 aB=.bool (decide (z<0)):=rfl;have P:(cI z).getD 2 aB=.int .u32 (aP z.natAbs 0:Nat):=C;have B:(cI z).getD 3 aB=.int .u32 (aP z.natAbs 1:Nat):=q;refine bP ?_;refine Ty ?_;refine fW ?_;refine Ty ?_;refine fC (a _) ?_;simp only[Bi];refine Ty ?_;refine fW ?_;have :=oL (R (-9223372036854775808));refine Wz ?_;refine fW ?_;have :=oL (R 9223372036854775807);refine Wz ?_;refine fW ?_;refine Wz ?_;refine fW ?_;simp only[↓zP,zJ,seval,AR,P,B,w1,w2,G,t,M];refine bQ ?_;by_cases A:z<0
 . rw[Ag A] at T
   have p:IntKind.i64.wrap (0 -(if z<0/\z.natAbs=2^63 then z else(z.natAbs:Int)))=z:=by
    by_cases h:z.natAbs=2^63
    . rw[if_pos ⟨A,h⟩];have :z= -2^63:=A0;rw[this];rfl
    rw[if_neg (fun X=>h X.2),wrap_i64 A0 A0];omega
   simp only[↓zP,zJ,seval,T,p];exact ZaD
 rw[Ab A] at T;simp only[↓zP,zJ,seval,T];refine Rx ?_;rw[if_neg (fun X=>A X.1),show(z.natAbs:Int)=z by omega];rfl
theorem jj{a b:Int}(I:a.natAbs<2^62)(X:b.natAbs<2^62)(H:aA):Sg 218 [.agg (cI a),.agg (cI b)] H (.ret (.agg (cI (Int.gcd a b)))) H:=by
 refine Sp bIr Zaj Zav ?_ H;unfold aWm;dsimp only;refine bP ?_;refine Ty ?_;refine fW ?_;have :=tM I;refine Wz ?_;refine fW ?_;have :=tM X;refine Wz ?_;refine bQ ?_;refine aM fun K hK=>?_;refine Tz ?_;refine aJ (kJ [5,7] (fun m vs H'=>H'=(((⟨0,.nil⟩:aA).alloc (.cells (cI a) false)).alloc (.cells (cI b) false)).alloc (.cells (.bool false::.bool false::wC zs) false)/\∃x y:Int,vs=[.int .i64 x,.int .i64 y]/\x.natAbs<2^62/\y.natAbs<2^62/\m=y.natAbs/\Int.gcd x y=Int.gcd a b) b.natAbs (by rfl) ?_ ?_)
 . exact⟨rfl,a,b,by simp only[sm,zB,seval],I,X,rfl,rfl⟩
 rintro m f H E ⟨rfl,x,y,J,C,Q,rfl,t⟩;simp only[zM] at J;obtain⟨o,O⟩:=J;have c:f 4=.ref 2 0:=E 4 rfl;by_cases k:y=0
 . subst k;have S:=yO (z:=x) A0 A0;have j:=aQj (z:=x) (aFb C);have g:(x.natAbs:Int)=Int.gcd a b:=by rw[<-t];simp[Int.gcd]
   rw[g] at j;have :((0:Int) != 0)=false:=rfl;refine Wy ?_;refine⟨rfl,_,by simp only[↓zP,zR,seval,c];rfl,?_⟩;rfl
 have p:(y != 0)=true:=by simpa using k
 have r:(x.tmod y).natAbs<y.natAbs:=by rw[natAbs_tmod];exact Bz _ A0
 refine Wy ?_;refine aJ ?_;simp only[↓zP,zG,seval,o,O];rw[if_neg k];simp only[zG,seval];exact⟨_,r,trivial,y,x.tmod y,by simp only[seval],Q,by omega,rfl,by rw[Xh,t]⟩
variable{n:Int}
theorem aAx{m:Int}(p:0<m)(hd:m∣n)(A:n.natAbs<2^62)(H:aA):Sg 221 [.int .i64 n,.int .i64 m] H (.ret (.int .i64 (n / m))) H:=by
 refine So bIu Zac ?_ H;unfold aWp;dsimp only;have T:n.tdiv m=n / m:=Hx hd;have P:n.tmod m=0:=Int.tmod_eq_zero_of_dvd hd
 have L:IntKind.i64.wrap (n / m)=n / m:=by
  obtain⟨k,rfl⟩:=hd;rw[Js _ A0]
  have :k.natAbs<=(m*k).natAbs:=by rw[El];exact Gr _ A0
  exact wrap_i64 A0 A0
 have y:¬m=0:=by omega
 have :((0:Int) != 0)=false:=rfl;refine Wz ?_;exact ZaD
theorem jk{m:Int}(p:0<m)(hd:m∣n)(A:n.natAbs<2^62)(c:m.natAbs<2^62)(H:aA):Sg 160 [.agg (cI n),.agg (cI m)] H (.ret (.agg (cI (n / m)))) H:=by
 refine Sp bHm Zaj Zav ?_ H;unfold aVj;dsimp only;have X:(m != 0)=true:=by rw[Gc];omega
 have N:=aAx p hd A
 have D:(n / m).natAbs<2^62:=by
  obtain⟨k,rfl⟩:=hd;rw[Js _ A0]
  have :k.natAbs<=(m*k).natAbs:=by rw[El];exact Gr _ A0
  omega
 have S:=yO (z:=n / m) A0 A0;refine bP ?_;refine Ty ?_;refine fW ?_;have :=tM A;refine Wz ?_;refine fW ?_;have :=tM c;refine Wz ?_;refine bQ ?_;refine aM fun K hK=>?_;refine Wy ?_;exact ZaD
end Go.Proofs.YtogfcjbgeebfkaaGreatDoor
