/-
  Part of the proof of statement 13
-/
import Derived.Test.YtogfcjbgeebfkaaGreatDoorB26
import Derived.Test.YtogfcjbgeebfkaaGreatDoorB27
import Derived.Test.YtogfcjbgeebfkaaGreatDoorB11
import Derived.Test.YtogfcjbgeebfkaaGreatDoorB13
set_option linter.unusedVariables false
set_option linter.unusedSimpArgs false
set_option maxRecDepth 100000
set_option maxHeartbeats 16000000
namespace Go.Proofs.YtogfcjbgeebfkaaGreatDoor
open Go Go.Av Go.iW
attribute [local congr] aZ aQ aR aL bD aU aS aG bE
attribute [local irreducible] FC bS eE
variable{z:Int}
theorem Lk(h:z.natAbs<W^16):norm z=some z:=by simp_all[norm]
theorem w63(h:z.natAbs<=2^63):z.natAbs<W^16:=by
 have :(2:Nat)^63<W^16:=by decide
 omega
theorem bMa(a b c d:Nat):[[AV.int .i64 (a:Int)],[.int .i64 (b:Int)],[.int .i64 (c:Int)],[.int .i64 (d:Int)]]=nE [a,b,c,d]:=rfl
theorem DD4{a b c d:Nat}(h:a<65536/\b<65536/\c<65536/\d<65536):DD [a,b,c,d]:=by
 intro x C
 grind
theorem xX(G: -2^63<=z)(O:z<2^63)(H:aB):Sg 59 [.int .i64 z] H (.ret (.agg (cI z))) H:=by
 refine So bRd Zad ?_ H;unfold W59;dsimp only
 have w:∀(n k:Nat),n<2^63->k≠0->IntKind.i64.wrap ((n:Int).tdiv k)=((n / k:Nat):Int):=fun n k A E=>by
  have Z:n / k<=n:=Fq n k;have e:(n:Int).tdiv k=((n / k:Nat):Int):=by rw[Hg A0];rfl
  rw[e];generalize n / k=q at *;exact wrap_i64 A0 A0
 have m:∀(n k:Nat),(n:Int).tmod k=((n%k:Nat):Int):=fun n k=>by rw[Fz A0];rfl
 have all:∀n:Nat,n<2^63->((n:Int).tmod 65536=((n%65536:Nat):Int))/\(IntKind.i64.wrap ((n:Int).tdiv 65536)=((n / 65536:Nat):Int))/\(((n / 65536:Nat):Int).tmod 65536=((n / 65536%65536:Nat):Int))/\(IntKind.i64.wrap ((n:Int).tdiv 4294967296)=((n / 4294967296:Nat):Int))/\
  (((n / 4294967296:Nat):Int).tmod 65536=((n / 4294967296%65536:Nat):Int))/\(IntKind.i64.wrap ((n:Int).tdiv 281474976710656)=((n / 281474976710656:Nat):Int)):=fun n A=>
  ⟨m n 65536,w n 65536 A A1,m (n / 65536) 65536,w n 4294967296 A A1,m (n / 4294967296) 65536,w n 281474976710656 A A1⟩
 by_cases s:0<=z
 . obtain⟨n,rfl⟩:∃n:Nat,z=n:=⟨z.toNat,by omega⟩;have A:n<2^63:=by omega
   have hd:decide ((n:Int)≥0)=true:=Af A0;have b:DD [n%65536,n / 65536%65536,n / 4294967296%65536,n / 281474976710656]:=DD4 ⟨by omega,by omega,by omega,by omega⟩;have c:cY [n%65536,n / 65536%65536,n / 4294967296%65536,n / 281474976710656]=n:=(by simp only[cY];omega);have a:=BE false 1 b A3;rw[c,Lk (by rw[jU];exact w63 (z:=n) A0)] at a;simp only[↓zP,zJ,seval,hd,all n A];rw[bMa];refine eI (a _) ?_;simp only[cO,sg];refine Ty ?_;exact ZaB
 obtain⟨n,rfl⟩:∃n:Nat,z= -((n:Int)+1):=⟨(-z -1).toNat,by omega⟩;have A:n<2^63:=by omega
 have hd:decide (-((n:Int)+1)≥0)=false:=Ac A0;have b1:IntKind.i64.wrap (-((n:Int)+1)+1)= -(n:Int):=wI A0;have b2:IntKind.i64.wrap (0 - -(n:Int))=(n:Int):=wI A0;have b:DD [n%65536,n / 65536%65536,n / 4294967296%65536,n / 281474976710656]:=DD4 ⟨by omega,by omega,by omega,by omega⟩;have c:cY [n%65536,n / 65536%65536,n / 4294967296%65536,n / 281474976710656]=n:=by simp only[cY];omega
 have f:DD [1]:=fun d hd=>by rw[Ca] at hd;subst hd;decide
 have g:=aIh b f A3 A3 1 1;rw[c,show cY [1]=1 from rfl] at g
 have a:=BE true 0 (KC (n+1)) (by
  have :=Si (k:=5) (n:=n+1) (by
   have :(2:Nat)^63<65536^5:=by decide
   omega)
  omega)
 rw[BK,Lk (by rw[jU];exact w63 (z:=(n+1:Nat)) A0)] at a;simp only[↓zP,zJ,seval,hd,b1,b2,all n A];rw[bMa,show [[AV.int .i64 1]]=nE [1] from rfl];refine eI (g _) ?_;refine eI (a _) ?_;rw[show sg true (n+1)= -((n:Int)+1) by simp[sg]];simp only[cO];refine Ty ?_;exact ZaB
def si:Option Int->Int×Bool
 |some z=>if z.natAbs<2^62 then(z,true) else(0,false)
 |none=>(0,false)
variable{n:Nat}
theorem ka(h:n<W^16)(O:aT n 1<1073741824)(Z:∀k,2<=k->k<16->aT n k=0):n<2^62/\n=aT n 1*4294967296+aT n 0:=by
 have hW:W=4294967296:=rfl;have B:=JE (m:=2) h Z;have T:aT n 1=n / 4294967296%4294967296:=by rfl
 have Y:aT n 0=n%4294967296:=by simp[aT,hW]
 grind
theorem aBe{k:Nat}(E:2<=k)(h:aT n k≠0):¬n<2^62:=by have O:=og h;have Z:W^2<=W^k:=Bu A1 E;have o:W^2=18446744073709551616:=rfl;omega
theorem aJv(h:¬aT n 1<1073741824):¬n<2^62:=by
 have T:aT n 1=n / 4294967296%4294967296:=by rfl
 omega
theorem j9{p q:Nat}(m:p<1073741824)(D:q<4294967296)(e:n=p*4294967296+q):IntKind.i64.wrap (p:Int)=p/\IntKind.i64.wrap ((p:Int)*4294967296)=(p:Int)*4294967296/\IntKind.i64.wrap (q:Int)=q/\IntKind.i64.wrap ((p:Int)*4294967296+(q:Int))=n/\IntKind.i64.wrap (0 -(n:Int))= -(n:Int):=by grind[wrap_i64]
theorem ji(s:z.natAbs<W^16)(H:aB):Sg 142 [.agg (cI z)] H (.ret (.iV [.int .i64 (si (some z)).1,.bool (si (some z)).2])) H:=by
 refine So bGy Zaj ?_ H;unfold aUq;dsimp only;have b:=vN (eJ.enc s);have U:=iL (.aV z.natAbs);simp only[si];unfold cI at b ⊢;have p:decide (((aT z.natAbs 1:Nat):Int)≥1073741824)= !decide (aT z.natAbs 1<1073741824):=by rw[<-Jr,Bj];omega
 have d:∀k,k<16->(AV.bool false::.bool (decide (z<0))::wC (aV 16 z.natAbs)).getD (2+k) aC=.int .u32 (aT z.natAbs k:Nat):=fun k E=>by rw[Kc2,oG (by rw[cW];exact E),kW E]
 have w:(wC (aV 16 z.natAbs)).getD 1 aC=.int .u32 (aT z.natAbs 1:Nat):=d 1 A1;have o:(wC (aV 16 z.natAbs)).getD 0 aC=.int .u32 (aT z.natAbs 0:Nat):=d 0 A1;refine bP ?_;refine Ty ?_;refine bQ ?_;simp only[↓zP,zJ,seval,U];refine eI (b _) ?_;by_cases O:aT z.natAbs 1<1073741824
 . have a:decide (((aT z.natAbs 1:Nat):Int)≥1073741824)=false:=by rw[p];simp[O]
   simp only[Bg];simp only[↓zP,zJ,seval,AH,U,w,a];refine cH [] (fun k vs H'=>H'=((⟨0,.nil⟩:aB).alloc (.cells (.bool false::.bool (decide (z<0))::wC (aV 16 z.natAbs)) false))/\∀j,2<=j->j<k->aT z.natAbs j=0) 2 16 A1 A1 A1 ?_ ?_ ?_ ?_ ?_
   . exact zq
   . exact⟨rfl,fun j O Z=>by omega⟩
   . rintro i f H1 G F E T ⟨rfl,Y⟩;exact ZaF
   . rintro i f H1 G F E T ⟨rfl,Y⟩;have u:f 1=.ref 0 0:=E 1 rfl;have l:=d i F;have I:2+i<=17:=A0;refine aM ?_;by_cases D:aT z.natAbs i=0
     . have X:(((aT z.natAbs i:Nat):Int) != 0)=false:=(by rw[D];rfl);simp only[↓zP,zJ,seval,u,T,aI,F,U,l,I,X]
       exact⟨trivial,fun j O Z=>by
        by_cases e:j=i
        . subst e;exact D
        exact Y j O A0⟩
     have X:(((aT z.natAbs i:Nat):Int) != 0)=true:=(by rw[Ge];omega);refine Wz ?_;refine Rx ?_;rw[if_neg (aBe G D)];rfl
   rintro f H1 E ⟨rfl,Y⟩;have u:f 1=.ref 0 0:=E 1 rfl;obtain⟨r,c⟩:=ka s O Y;rw[if_pos r];have v:aT z.natAbs 0<4294967296:=dC z.natAbs 0;obtain⟨w1,w2,R,C,m⟩:=j9 O v c;by_cases A:z<0
   . have q:decide (z<0)=true:=Af A;simp only[↓zP,zJ,seval,u,U,w,o,w1,w2,R,C,m,q];refine Rx ?_;rw[show -(z.natAbs:Int)=z by omega];rfl
   have q:decide (z<0)=false:=Ac A;simp only[↓zP,zJ,seval,u,U,w,o,w1,w2,R,C,q];refine Rx ?_;rw[show(z.natAbs:Int)=z by omega];rfl
 have a:decide (((aT z.natAbs 1:Nat):Int)≥1073741824)=true:=by rw[p];simp[O]
 simp only[Bg];refine Wz ?_;refine Rx ?_;rw[if_neg (aJv O)];rfl
theorem sU(s:z.natAbs<2^62)(H:aB):Sg 142 [.agg (cI z)] H (.ret (.iV [.int .i64 z,.bool true])) H:=by have :=ji (z:=z) (w63 A0) H;simp_all[si,if_pos,s]
theorem aEl(h:z.natAbs<2^62):z.natAbs<W^16:=w63 A0
theorem aIe(x:Int)(H:aB):Sg 225 [.int .i64 x] H (.ret (.bool (decide (x<2147483648)&&decide (x> -2147483648)))) H:=by
 refine So bIp Zad ?_ H;unfold aWg;dsimp only
 cases h:decide (x<2147483648) with
 |true=>refine Wz ?_;exact⟨rfl,_,by simp only[↓zP,zR,seval];rfl,rfl⟩
 |false=>refine Wz ?_;exact⟨rfl,_,by simp only[↓zP,zR,seval];rfl,rfl⟩
variable{x:Int}
theorem OA(h:x.natAbs<2^31)(H:aB):Sg 225 [.int .i64 x] H (.ret (.bool true)) H:=by
 have :=aIe x H
 rwa [Af (show x<2147483648 by omega),Af (show x> -2147483648 by omega)] at this
variable{y:Int}
theorem vO(C:x.natAbs<2^31)(Q:y.natAbs<2^31)(H:aB):Sg 173 [.agg (cI x),.agg (cI y)] H (.ret (.agg (cI (x*y)))) H:=by
 refine Sp bHl Zaj Zat ?_ H;unfold aVd;dsimp only
 have X:(x*y).natAbs<2^62:=by
  exact Zch
 have a:IntKind.i64.wrap (x*y)=x*y:=wrap_i64 A0 A0;have S:=xX (z:=x*y) A0 A0;refine bP ?_;refine Ty ?_;refine fQ ?_;have :=sU (z:=x) A0;refine Wz ?_;refine fQ ?_;have :=sU (z:=y) A0;refine Wz ?_;refine bQ ?_;refine aP fun K hK=>?_;have :=OA C;have :=OA Q;refine Wy ?_;exact ZaB
theorem JK(C:x.natAbs<2^62)(Q:y.natAbs<2^62)(H:aB):Sg 60 [.agg (cI x),.agg (cI y)] H (.ret (.agg (cI (x+y)))) H:=by refine Sp bRe Zaj Zat ?_ H;unfold W60;dsimp only;have a:IntKind.i64.wrap (x+y)=x+y:=wrap_i64 A0 A0;have S:=xX (z:=x+y) A0 A0;refine bP ?_;refine Ty ?_;refine fQ ?_;have :=sU C;refine Wz ?_;refine fQ ?_;have :=sU Q;refine Wz ?_;refine bQ ?_;refine aP fun K hK=>?_;refine Wy ?_;refine Rx ?_;rfl
theorem aPv(s:z.natAbs<W^16)(H:aB):Sg 219 [.agg (cI z)] H (.ret (.agg (cI (-z)))) H:=by refine Sp bIm Zaj Zat ?_ H;unfold aWd;dsimp only;have b:=vN (eJ.enc s);have hd:=vP false (decide (z<0)) (.aV z.natAbs);have A:=BE (!decide (z<0)) 0 (KC z.natAbs) (by have :=uU.2 s;omega);rw[BK,Lk (by rw[jU];exact s),show sg (!decide (z<0)) z.natAbs= -z from by unfold sg;split<;>simp_all<;>omega] at A;rw[fP s] at hd;have k:AV.bool false::AV.bool (decide (z<0))::wC (aV 16 z.natAbs)=cI z:=rfl;rw[k] at hd;have O:(cI z).getD 1 aC=.bool (decide (z<0)):=rfl;refine bP ?_;refine Ty ?_;refine fQ ?_;refine Ty ?_;refine eI (b _) ?_;simp only[Bg];refine Ty ?_;refine fQ ?_;refine Dz ?_;refine Wz ?_;simp only[cO];refine Wz ?_;refine bQ ?_;refine Tx ?_;refine Rx ?_;rfl
theorem ie(C:x.natAbs<2^62)(Q:y.natAbs<2^62)(H:aB):Sg 163 [.agg (cI x),.agg (cI y)] H (.ret (.agg (cI (x -y)))) H:=by refine Sp bHi Zaj Zat ?_ H;unfold aVa;dsimp only;have I:=JK C (y:= -y) (by rwa [Ja]);rw[<-Int.sub_eq_add_neg] at I;refine bP ?_;refine Ty ?_;refine fQ ?_;refine Dz ?_;have :=aPv (aEl Q);refine Wz ?_;refine bQ ?_;refine Tx ?_;refine Rx ?_;rfl
theorem aPr(s:z.natAbs<W^16)(H:aB):Sg 270 [.agg (cI z)] H (.ret (.agg (cI (z.natAbs:Int)))) H:=by refine Sp bJt Zaj Zat ?_ H;unfold aXk;dsimp only;have b:=vN (eJ.enc s);have hd:=vP false (decide (z<0)) (.aV z.natAbs);have A:=BE false 0 (KC z.natAbs) (by have :=uU.2 s;omega);rw[BK,Lk (by rw[jU];exact s),show sg false z.natAbs=(z.natAbs:Int) from rfl] at A;rw[fP s] at hd;have k:AV.bool false::AV.bool (decide (z<0))::wC (aV 16 z.natAbs)=cI z:=rfl;rw[k] at hd;refine bP ?_;refine Ty ?_;refine fQ ?_;refine Ty ?_;refine eI (b _) ?_;simp only[Bg];refine Ty ?_;refine bQ ?_;refine Ty ?_;refine eI (hd _) ?_;refine eI (A _) ?_;simp only[cO];refine Ty ?_;refine Rx ?_;rfl
def aIr(z:Int):Int:=if z=0 then 0 else if z<0 then -1 else 1
theorem aHz(s:z.natAbs<W^16)(H:aB):Sg 217 [.agg (cI z)] H (.ret (.int .i64 (aIr z))) H:=by
 refine So bIk Zaj ?_ H;unfold aWb;dsimp only;have b:=vN (eJ.enc s);have hd:=vP false (decide (z<0)) (.aV z.natAbs);rw[fP s] at hd;have k:AV.bool false::AV.bool (decide (z<0))::wC (aV 16 z.natAbs)=cI z:=rfl;rw[k] at hd;have O:(cI z).getD 1 aC=.bool (decide (z<0)):=rfl;unfold aIr;refine bP ?_;refine Ty ?_;refine bQ ?_;refine aP fun K hK=>?_;refine Ty ?_;refine eI (b _) ?_;simp only[Bg];refine Wy ?_;by_cases G:z=0
 . have X:(((dg z.natAbs).length:Int)==0)=true:=by
    rw[Dr,Ud.2 A0];rfl
   simp only[↓zP,zG,seval,fB,X];refine Rx ?_;rw[if_pos G];rfl
 have X:(((dg z.natAbs).length:Int)==0)=false:=by rw[Dc];intro h;have :=Ud.1 (Cl (l:=dg z.natAbs) A0);omega
 simp only[↓zP,zG,seval,fB,X];apply hK;clear hK K
 cases A:decide (z<0) with
 |true=>rw[A] at O;simp only[↓zP,zJ,seval,O];refine Rx ?_;rw[if_neg G,if_pos (Ek A)];rfl
 |false=>rw[A] at O;simp only[↓zP,zJ,seval,O];refine Rx ?_;rw[if_neg G,if_neg (Gp A)];rfl
theorem FO(C:x.natAbs<W^16)(Q:y.natAbs<W^16)(H:aB):Sg 162 [.agg (cI x),.agg (cI y)] H (.ret (.int .i64 (mH (some x) (some y)))) H:=by
 refine So bHh Zaj ?_ H;unfold aUz;dsimp only;have b:=vN (eJ.enc C);have c:=vN (eJ.enc Q);have X:=vP false (decide (x<0)) (.aV x.natAbs);have V:=vP false (decide (y<0)) (.aV y.natAbs);rw[fP C] at X;rw[fP Q] at V;rw[show AV.bool false::AV.bool (decide (x<0))::wC (aV 16 x.natAbs)=cI x from rfl] at X;rw[show AV.bool false::AV.bool (decide (y<0))::wC (aV 16 y.natAbs)=cI y from rfl] at V;have a:(dg x.natAbs).length<2^29:=by have :=uU.2 C;omega
 have s:(dg y.natAbs).length<2^29:=by have :=uU.2 Q;omega
 have L:=YX (KC x.natAbs) (KC y.natAbs) a s 0 0;have p:=YX (KC y.natAbs) (KC x.natAbs) s a 0 0;rw[BK,BK] at L p;have u:(cI x).getD 1 aC=.bool (decide (x<0)):=rfl;have e:(cI y).getD 1 aC=.bool (decide (y<0)):=rfl;simp only[mH];refine bP ?_;refine Ty ?_;refine fQ ?_;refine Ty ?_;refine eI (b _) ?_;simp only[Bg];refine Ty ?_;refine fQ ?_;refine Ty ?_;refine eI (b _) ?_;simp only[Bg];refine Ty ?_;refine fQ ?_;refine Ty ?_;refine eI (c _) ?_;simp only[Bg];refine Ty ?_;refine bQ ?_;have d:(true==false)=false:=rfl;have f:(false==true)=false:=rfl;by_cases m:x<0
 . rw[Af m] at u;by_cases h:y<0
   . rw[Af h] at e;refine bP ?_;refine Wz ?_;refine fQ ?_;refine Wz ?_;refine fQ ?_;refine Wz ?_;refine fQ ?_;refine Wz ?_;refine fQ ?_;refine Wz ?_;refine fQ ?_;refine Wz ?_;refine bQ ?_;by_cases O:y.natAbs<x.natAbs
     . have T:=Af O;simp only[↓zP,zG,seval,T];refine Rx ?_;rw[if_pos A0];rfl
     have T:=Ac O;by_cases Z:x.natAbs<y.natAbs
     . have o:=Af Z;simp only[↓zP,zG,seval,T,o];refine Rx ?_;exact ZbF
     have o:=Ac Z;refine Wz ?_;refine Rx ?_;rw[if_neg A0,if_neg A0];rfl
   rw[Ac h] at e;refine Wz ?_;refine Rx ?_;rw[if_pos A0];rfl
 rw[Ac m] at u;by_cases h:y<0
 . rw[Af h] at e;refine Wz ?_;refine Rx ?_;exact ZbF
 rw[Ac h] at e;refine bP ?_;refine Wz ?_;refine fQ ?_;refine Wz ?_;refine fQ ?_;refine Wz ?_;refine fQ ?_;refine Wz ?_;refine fQ ?_;refine Wz ?_;refine fQ ?_;refine Wz ?_;refine bQ ?_;by_cases O:x.natAbs<y.natAbs
 . have T:=Af O;simp only[↓zP,zG,seval,T];refine Rx ?_;rw[if_pos A0];rfl
 have T:=Ac O;by_cases Z:y.natAbs<x.natAbs
 . have o:=Af Z;simp only[↓zP,zG,seval,T,o];refine Rx ?_;exact ZbF
 have o:=Ac Z;refine Wz ?_;refine Rx ?_;rw[if_neg A0,if_neg A0];rfl
end Go.Proofs.YtogfcjbgeebfkaaGreatDoor
namespace Go.Proofs.YtogfcjbgeebfkaaGreatDoor
open Go Go.Av Go.aH Go.iW
attribute [local congr] aZ aQ aR aL bD aU aS aG bE
attribute [local irreducible] FC bS eE
variable{n:Nat}
theorem Yj{p q:Nat}(A:n<2^64)(e:n=p*4294967296+q)(D:q<4294967296):IntKind.u64.wrap (p:Int)=p/\IntKind.u64.wrap ((p:Int)*4294967296)=(p:Int)*4294967296/\IntKind.u64.wrap (q:Int)=q/\IntKind.u64.wrap ((p:Int)*4294967296+(q:Int))=n:=by refine⟨?_,?_,?_,?_⟩<;>rw[Tt (k:=.u64) rfl]<;>simp only[IntKind.bits]<;>omega
theorem bDf(h:n<2^64):n=aT n 1*4294967296+aT n 0/\aT n 0<4294967296:=by
 have hW:W=4294967296:=rfl;have T:aT n 1=n / 4294967296%4294967296:=by simp[aT,hW]
 have Y:aT n 0=n%4294967296:=by simp[aT,hW]
 omega
theorem Th{z:Int}(G: -2^63<=z)(O:z<2^63)(H:aB):Sg 159 [.agg (cI z)] H (.ret (.iV [.int .i64 z,.bool true])) H:=by
 refine So bHf Zaj ?_ H;unfold aUx;dsimp only;have s:z.natAbs<W^16:=w63 A0;have a:=vN (eJ.enc s);have lo:=xX (z:= -9223372036854775808) A1 A1;have F:=xX (z:=9223372036854775807) A1 A1;have I:=FO s (y:= -9223372036854775808) A1;have e:=FO s (y:=9223372036854775807) A1;have p:decide (mH (some z) (some (-9223372036854775808))<0)=false:=Ac (by simp only[mH];split<;>(try split)<;>omega);have q:decide (mH (some z) (some 9223372036854775807)>0)=false:=Ac (by simp only[mH];split<;>(try split)<;>omega);obtain⟨s1,s2⟩:=bDf (n:=z.natAbs) A0;obtain⟨w1,w2,R,C⟩:=Yj A0 s1 s2
 have m:IntKind.i64.wrap (z.natAbs:Int)=if z<0/\z.natAbs=2^63 then z else(z.natAbs:Int):=by
  by_cases h:z.natAbs=2^63
  . rw[if_pos ⟨by omega,h⟩,h];have :z= -2^63:=by omega
    rw[this];rfl
  rw[if_neg (fun X=>h X.2)];exact wrap_i64 A0 A0
 have w:(wC (aV 16 z.natAbs)).getD 1 aC=.int .u32 (aT z.natAbs 1:Nat):=by rw[oG (by rw[cW];decide),kW A1]
 have c:(wC (aV 16 z.natAbs)).getD 0 aC=.int .u32 (aT z.natAbs 0:Nat):=by rw[oG (by rw[cW];decide),kW A1]
 have d:=iL (.aV z.natAbs);have k:∀z,(cI z).length=18:=fun z=>by simp[cI,cK,cW]
 have T:(cI z).getD 1 aC=.bool (decide (z<0)):=rfl;have o:(cI z).getD 2 aC=.int .u32 (aT z.natAbs 0:Nat):=c;have b:(cI z).getD 3 aC=.int .u32 (aT z.natAbs 1:Nat):=w;refine bP ?_;refine Ty ?_;refine fQ ?_;refine Ty ?_;refine eI (a _) ?_;simp only[Bg];refine Ty ?_;refine fQ ?_;have :=oL (k (-9223372036854775808));refine Wz ?_;refine fQ ?_;have :=oL (k 9223372036854775807);refine Wz ?_;refine fQ ?_;refine Wz ?_;refine fQ ?_;simp only[↓zP,zJ,seval,AH,o,b,w1,w2,R,C,m];refine bQ ?_;by_cases A:z<0
 . rw[Af A] at T
   have U:IntKind.i64.wrap (0 -(if z<0/\z.natAbs=2^63 then z else(z.natAbs:Int)))=z:=by
    by_cases h:z.natAbs=2^63
    . rw[if_pos ⟨A,h⟩];have :z= -2^63:=A0;rw[this];rfl
    rw[if_neg (fun X=>h X.2),wrap_i64 A0 A0];omega
   simp only[↓zP,zJ,seval,T,U];exact ZaB
 rw[Ac A] at T;simp only[↓zP,zJ,seval,T];refine Rx ?_;rw[if_neg (fun X=>A X.1),show(z.natAbs:Int)=z by omega];rfl
theorem ia{a b:Int}(I:a.natAbs<2^62)(X:b.natAbs<2^62)(H:aB):Sg 218 [.agg (cI a),.agg (cI b)] H (.ret (.agg (cI (Int.gcd a b)))) H:=by
 refine Sp bIl Zaj Zat ?_ H;unfold aWc;dsimp only;refine bP ?_;refine Ty ?_;refine fQ ?_;have :=sU I;refine Wz ?_;refine fQ ?_;have :=sU X;refine Wz ?_;refine bQ ?_;refine aP fun K hK=>?_;refine Tz ?_;refine aM (jW [5,7] (fun m vs H'=>H'=(((⟨0,.nil⟩:aB).alloc (.cells (cI a) false)).alloc (.cells (cI b) false)).alloc (.cells (.bool false::.bool false::wC zs) false)/\∃x y:Int,vs=[.int .i64 x,.int .i64 y]/\x.natAbs<2^62/\y.natAbs<2^62/\m=y.natAbs/\Int.gcd x y=Int.gcd a b) b.natAbs (by rfl) ?_ ?_)
 . exact⟨rfl,a,b,by simp only[sm,zB,seval],I,X,rfl,rfl⟩
 rintro m f H E ⟨rfl,x,y,J,C,Q,rfl,d⟩;simp only[zM] at J;obtain⟨G,O⟩:=J;have l:f 4=.ref 2 0:=E 4 rfl;by_cases h:y=0
 . subst h;have S:=xX (z:=x) A0 A0;have j:=aPr (z:=x) (aEl C);have g:(x.natAbs:Int)=Int.gcd a b:=by rw[<-d];simp[Int.gcd]
   rw[g] at j;have :((0:Int) != 0)=false:=rfl;refine Wy ?_;refine⟨rfl,_,by simp only[↓zP,zR,seval,l];rfl,?_⟩;rfl
 have q:(y != 0)=true:=by simpa using h
 have r:(x.tmod y).natAbs<y.natAbs:=by rw[natAbs_tmod];exact Bz _ A0
 refine Wy ?_;refine aM ?_;simp only[↓zP,zG,seval,G,O];rw[if_neg h];simp only[zG,seval];exact⟨_,r,trivial,y,x.tmod y,by simp only[seval],Q,by omega,rfl,by rw[XR,d]⟩
variable{n:Int}
theorem aAf{m:Int}(t:0<m)(hd:m∣n)(A:n.natAbs<2^62)(H:aB):Sg 221 [.int .i64 n,.int .i64 m] H (.ret (.int .i64 (n / m))) H:=by
 refine So bIo Zad ?_ H;unfold aWf;dsimp only;have T:n.tdiv m=n / m:=Ht hd;have o:n.tmod m=0:=Int.tmod_eq_zero_of_dvd hd
 have L:IntKind.i64.wrap (n / m)=n / m:=by
  obtain⟨k,rfl⟩:=hd;rw[Jm _ A0]
  have :k.natAbs<=(m*k).natAbs:=by rw[Ew];exact Gs _ A0
  exact wrap_i64 A0 A0
 have y:¬m=0:=by omega
 have :((0:Int) != 0)=false:=rfl;refine Wz ?_;exact ZaB
theorem ib{m:Int}(t:0<m)(hd:m∣n)(A:n.natAbs<2^62)(c:m.natAbs<2^62)(H:aB):Sg 160 [.agg (cI n),.agg (cI m)] H (.ret (.agg (cI (n / m)))) H:=by
 refine Sp bHg Zaj Zat ?_ H;unfold aUy;dsimp only;have X:(m != 0)=true:=by rw[Ge];omega
 have N:=aAf t hd A
 have D:(n / m).natAbs<2^62:=by
  obtain⟨k,rfl⟩:=hd;rw[Jm _ A0]
  have :k.natAbs<=(m*k).natAbs:=by rw[Ew];exact Gs _ A0
  omega
 have S:=xX (z:=n / m) A0 A0;refine bP ?_;refine Ty ?_;refine fQ ?_;have :=sU A;refine Wz ?_;refine fQ ?_;have :=sU c;refine Wz ?_;refine bQ ?_;refine aP fun K hK=>?_;refine Wy ?_;exact ZaB
end Go.Proofs.YtogfcjbgeebfkaaGreatDoor
