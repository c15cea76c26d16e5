/-
  Part of the proof of statement 13
-/
import Derived.Test.YtogfcjbgeebfkaaGreatDoorB34
import Derived.Test.YtogfcjbgeebfkaaGreatDoorB35
import Derived.Test.YtogfcjbgeebfkaaGreatDoorB24
import Derived.Test.YtogfcjbgeebfkaaGreatDoorB07
import Derived.Test.YtogfcjbgeebfkaaGreatDoorB23
import Derived.Test.YtogfcjbgeebfkaaGreatDoorB06
set_option linter.unusedVariables false
set_option linter.unusedSimpArgs false
set_option maxRecDepth 100000
set_option maxHeartbeats 16000000
namespace Go.Proofs.YtogfcjbgeebfkaaGreatDoor
open Go Go.Av Go.aH Go.iW
attribute [local congr] aZ aQ aR aL bD aU aS aG bE
attribute [local irreducible] FC bS eE
theorem aAa{tag:Nat}(W:Nat.blt tag 2=true){l:List aH.V}{M:Nat}(U:∀v∈l,bT M v)(g:M<=2^18){E:List (Nat×Nat)}(j:E.length<=2^20)(o:E≠[])(Q:∀p∈E,p.1<l.length/\p.2<l.length)
 (w:∀H,Sg 187 [.agg [.bK tag 3 (bU l)]] H (.ret (lT 2 ((E.map pN).map pC))) H) (H:aB):
 Sg 98 [.agg [.bK tag 3 (bU l)]] H (.ret (.bK 0 3 (bU (E.map (GQ l))))) H:=by
 refine fA fit dZ bRr (Ab rfl) Zav ?_ H;unfold W98;dsimp only;have c:∀k (h:k<l.length),l.getD k V0=l[k]:=fun k h=>by simp[List.getD,h]
 rw[show lT 2 ((E.map pN).map pC)=.bK 0 2 ((E.map pN).map pC) from if_neg (by simpa using o)] at w;refine Ty ?_;refine eI (w _) ?_;refine Tz ?_;refine cH [3] (fun i vs H'=>∃v,vs=[v]/\Own H' 3 v (bU ((E.take i).map (GQ l)))/\1<=H'.next/\H'.get 0=some (.cells [.bK tag 3 (bU l)] false)) 0 E.length (Bh _) A0 A1 ?_ ?_ ?_ ?_ ?_
 . exact zq
 . exact ZaA
 . rintro i f H1 G F m T _;have K:f 4=.bK 0 2 ((E.map pN).map pC):=m 4 rfl;simp only[↓zP,zG,seval,T,K,Ah];exact tB A0
 . rintro i f H1 G F m T ⟨v,J,S,A,g0⟩;simp only[zM] at J;have u:f 1=.ref 0 0:=m 1 rfl;have K:f 4=.bK 0 2 ((E.map pN).map pC):=m 4 rfl;have d:((E.map pN).map pC).getD i []=pC (pN E[i]):=by rw[Ea];exact fT F
   obtain⟨I,X⟩:=Q _ (Ag F)
   have t:(E.take (i+1)).map (GQ l)=(E.take i).map (GQ l)++[GQ l E[i]]:=by rw[Ao,Cg];simp[F]
   have C:((E.take i).map (GQ l)).length<=2^20:=Zag;have e:((E.map pN).map pC).length=E.length:=(by rw[Ah,Ah]);rw[t];generalize (E.take i).map (GQ l)=els at *;generalize E[i]=p at *;have q:=cG I;have L:=cG X;have y:=U _ (Ag I);have x:=U _ (Ag X);have D:aH.sub l[p.2] l[p.1]=GQ l p:=(by simp only[GQ,c p.2 X,c p.1 I]);have P:(pC (pN p)).getD 0 aC=.int .i64 (p.1:Int):=rfl;have q1:(pC (pN p)).getD 1 aC=.int .i64 (p.2:Int):=rfl;have r1:(List.drop 1 (pC (pN p))).getD 0 aC=.int .i64 (p.2:Int):=rfl;have r2:1<=(List.drop 1 (pC (pN p))).length:=Ad _;have ta:(cS l[p.1]).take 3=cS l[p.1]:=rfl;have tb:(cS l[p.2]).take 3=cS l[p.2]:=rfl;obtain⟨a,n,z,b,r,B⟩:=Has.push (.inr S) (ys:=[cS (GQ l p)]) (bytes:=24) rfl ZbO;refine aM ?_;refine Dz ?_;simp only[↓zP,zJ,seval,zD,u,K,T,J,g0,e,F,d,Qq,P,r1,r2,AH,aI,aX,I,X,q,L,oL (aW l[p.1]),oL (aW l[p.2])];refine gV (zV x y A0 _) ?_;rw[D];simp only[↓zP,zJ,seval,zD,oL (aW (GQ l p))];rw[eL];simp only[n,bV,seval];rw[show bU (els++[GQ l p])=bU els++[cS (GQ l p)] from by simp[bU]];exact⟨by omega,_,rfl,.inr ⟨H1.next,rfl,by omega,b⟩,by omega,(r 0 A0 (by rw[g0];simp)).trans g0⟩
 rintro f H1 m ⟨v,J,S,A,g0⟩;simp only[zM] at J;rw[Ap] at S;simp only[↓zP,seval,J];refine Rx ?_;refine⟨v,0,rfl,fun R=>?_⟩;have s:bU (E.map (GQ l))≠[]:=by simpa [bU] using o
 rcases S with ⟨_,h⟩|⟨k,rfl,O,Z⟩
 . exact absurd h s
 have N:fK (bU (E.map (GQ l)))=true:=dQ cD _;simp[iH,kK,N,EK]
theorem aGk{z:List Nat}{a b:Nat}:IF z z.length a b=true↔aH.Next z a b\/aH.Next z b a:=by
 have d:∀(i x:Nat),i<z.length->(z.getD i 0=x↔z[i]?=some x):=fun i x h=>by grind
 simp only[IF,Cz,Bb,Eb,Ak,Dr,aH.Next];constructor
 . rintro⟨i,F,h⟩;have t:(i+1)%z.length<z.length:=Bz _ A0
   grind
 grind
theorem oo{S:List (aH.V×Int)}{L:aH.V×Int->List Nat}{N:Nat}{x:Int×Int}:
 x∈Rf S L N N↔∃a b:Nat,a<b/\b<N/\Wh S L a b=true/\x=pN (a,b):=by
 simp only[Rf,JH,Ec,Be,Fs,Bb,Ak,Bs,pN]
 grind
theorem Wi{l:List aH.V}(U:l.Pairwise jC){S:List (aH.V×Int)}{L:aH.V×Int->List Nat}(w:wB l S L){a b:Nat}:Wh S L a b=true↔∃q∈S,aH.Next (L q) a b:=by
 simp only[Wh,Cz,aGk];constructor
 . rintro⟨q,D,h|h⟩
   . grind
   obtain⟨f,d',g,v,x,k⟩:=(w.po q D).back (CS U) ((w.fl.mem q).1 D) h;have t:=(w.fl.mem (f,d')).2 v;rw[x.uniq (w.po _ t)] at k
   grind
 grind
theorem RC{tag:Nat}(W:Nat.blt tag 2=true){l:List aH.V}(G:qC l=0){M:Nat}(A:∀v∈l,bT M v)(g:M<=2^18):∃U:List aH.V,U.length<=2^20/\U≠[]/\(∀v,v∈U↔IsE l v)/\(∀v∈U,bT (M+M) v)/\
 (∀H,Sg 96 [.agg [.bK tag 3 (bU l)]] H (.ret (.bK (H.next+2) 5 ((gG l).map (cX (iX l))))) (H.alloc .tok))/\
 ∀H,Sg 98 [.agg [.bK tag 3 (bU l)]] H (.ret (.bK 0 3 (bU U))) H:=by
 obtain⟨L,_,s,X,Q,n,_⟩:=rM G;have u:=mI L;have P:=zw W A g Q u X
 have i:∀x∈Rf (gG l) (iX l) l.length l.length,∃a b:Nat,a<b/\(∃q∈gG l,aH.Next (iX l q) a b)/\x=pN (a,b):=fun x C=>by obtain⟨a,b,O,Z,B,rfl⟩:=oo.1 C;exact⟨a,b,O,(Wi L u).1 B,rfl⟩
 have R:∀q∈gG l,∀a b,aH.Next (iX l q) a b->a<l.length/\b<l.length:=fun q D a b h=>by have O:=(u.po q D).lQ.1 h;exact⟨(cJ.1 O.1).1,(cJ.1 O.2.1).1⟩
 have K:∀a b:Nat,a<b->(∃q∈gG l,aH.Next (iX l q) a b)->pN (a,b)∈Rf (gG l) (iX l) l.length l.length:=fun a b j h=>by obtain⟨q,D,y⟩:=h;exact oo.2 ⟨a,b,j,(R q D a b y).2,(Wi L u).2 ⟨q,D,y⟩,rfl⟩
 have I:(Rf (gG l) (iX l) l.length l.length).length<=2^20:=by have :=qi (gG l) (iX l) l.length l.length;have :l.length*l.length<=64*64:=Az Q Q;omega
 have o:Rf (gG l) (iX l) l.length l.length≠[]:=by
  have :=Pq L u s;obtain⟨x,r,h⟩:=Ef this;have C:x∈JW (gG l) (iX l):=by rw[h];simp
  obtain⟨q,D,a,b,y,j,rfl⟩:=(AY u).1 C;intro z;have :=K a b j ⟨q,D,y⟩;rw[z] at this;cases this
 generalize Rf (gG l) (iX l) l.length l.length=E at *
 have f:E=(E.map fun x=>(x.1.toNat,x.2.toNat)).map pN:=by rw[Ea];refine(Gn E).symm.trans (Dk fun x C=>?_);obtain⟨a,b,_,_,rfl⟩:=i x C;simp[pN]
 generalize c:(E.map fun x=>(x.1.toNat,x.2.toNat))=w at *
 have F:∀p:Nat×Nat,p∈w↔(∃q∈gG l,aH.Next (iX l q) p.1 p.2)/\p.1<p.2:=fun p=>by
  rw[<-c,Be];constructor
  . rintro⟨x,C,rfl⟩;obtain⟨a,b,O,Z,rfl⟩:=i x C;exact⟨by simpa [pN] using Z,by simpa [pN] using O⟩
  rintro⟨O,Z⟩;exact⟨pN p,K p.1 p.2 Z O,by simp[pN]⟩
 refine⟨w.map (GQ l),?_,?_,?_,?_,fun H=>YR tag A g Q u s W H,fun H=>aAa W A g (E:=w) ?_ ?_ ?_ ?_ H⟩
 . rw[Ah,<-c,Ah];exact I
 . intro e;rw[Ir,<-c,Ir] at e;exact o e
 . intro v;rw[Be];constructor
   . rintro⟨p,m,rfl⟩;obtain⟨⟨q,D,O⟩,Z⟩:=(F p).1 m;have B:=(u.po q D).lQ.1 O;exact⟨q,(u.fl.mem q).1 D,p.1,p.2,B.2,B.1,Z,rfl⟩
   rintro⟨q,D,a,b,O,Z,B,rfl⟩;have t:=(u.fl.mem q).2 D;exact⟨(a,b),(F (a,b)).2 ⟨⟨q,t,(u.po q t).lQ.2 ⟨Z,O⟩⟩,B⟩,rfl⟩
 . intro v J;obtain⟨p,m,rfl⟩:=Be.1 J;obtain⟨⟨q,D,O⟩,Z⟩:=(F p).1 m;obtain⟨b1,b2⟩:=R q D _ _ O
   have d:∀k,k<l.length->bT M (l.getD k V0):=fun k N=>by have :l.getD k V0=l[k]:=(by simp[List.getD,N]);rw[this];exact A _ (Ag N)
   exact gT (d _ b2) (d _ b1)
 . rw[<-c,Ah];exact I
 . intro e;rw[<-c,Ir] at e;exact o e
 . intro p m;obtain⟨⟨q,D,O⟩,Z⟩:=(F p).1 m;exact R q D _ _ O
 rw[<-f];exact P
variable{v:aH.V}
theorem jd{B:Nat}(J:bT B v)(r:B<2^62)(H:aB):Sg 75 [.agg (c3 fun i=>cI (v.at i))] H (.ret (.agg (cS v))) H:=by
 refine Sp bRk Za2 Zae ?_ H;unfold W75;dsimp only;have U:=fun i (F:i<3)=>tG (c:=fun i=>cI (v.at i)) (fun i _=>cL _) F;have m:(c3 fun i=>cI (v.at i)).take 18=cI (v.at 0):=U 0 A1;have L:((c3 fun i=>cI (v.at i)).drop 18).take 18=cI (v.at 1):=U 1 A1;have p:((c3 fun i=>cI (v.at i)).drop 36).take 18=cI (v.at 2):=U 2 A1;have x:(c3 fun i=>cI (v.at i)).length=54:=gY fun _ _=>cL _
 have M:∀i,∀H,Sg 159 [.agg (cI (v.at i))] H (.ret (.iV [.int .i64 (v.at i),.bool true])) H:=fun i=>by have :=bT.c J i;exact Th A0 A0
 refine bP ?_;refine Ty ?_;refine bQ ?_;have :=M 0;have :=M 1;have :=M 2;refine Wz ?_;exact ZaB
theorem aZd{a b Z:List AV}(I:a.length=18)(X:b.length=18)(d:Z.length=18):
 (if True/\36<=(a++Z).length/\True then some ((a++Z).take 18++b++(a++Z).drop 36) else none)=some (a++b):=by
 have U:(a++Z).length=36:=by rw[Aq,I,d]
 rw[if_pos ⟨trivial,by omega,trivial⟩,Ck A0,Bd A0,Bl A0,Bx]
theorem Yd{tag:Nat}(ht:Nat.blt tag 2=true){l:List aH.V}{M B:Nat}(U:∀v∈l,bT M v)(aq:l.length<2^30){n:aH.V}(A:bT B n)(g:M<2^31)(hB:B<2^31)(hs:3*(B*M)<2^62){S:aH.V}{r:List aH.V}(hx:l=S::r)(H:aB):
 Sg 186 [.agg [.bK tag 3 (bU l)],.agg (cS n)] H (.ret (.agg (cI (zN n (aH.dot n S) l)++cI (yU n (aH.dot n S) l)))) H:=by
 have ae:∀v∈l,∀H,Sg 215 [.agg (cS n),.agg (cS v)] H (.ret (.agg (cI (aH.dot n v)))) H:=fun v hv H=>aPt A (U v hv) hB g hs H;refine Sp bHq (by simp only[sf,cT ht,cD]) (by simp only[AV.free,jX,ki];rfl) ?_ H;unfold aVi;dsimp only;have m:0<l.length:=by rw[hx];simp
 have an:l[0]=S:=by subst hx;rfl
 have g0:=cG m;have Ra:=ae _ (Ag m);have a0:asNat (.int .i64 0)=some 0:=rfl;have k:∀z,(cI z).length=18:=fun z=>by simp[cI,cK,cW]
 have d3:∀v:aH.V,(cS v).take 3=cS v:=fun _=>rfl;refine bP ?_;refine Ty ?_;refine bQ ?_;generalize hX:(((aB.mk 0 .nil).alloc _).alloc _).alloc _=HA;have m0:=Kv (i:=0) hX;have R:=Kv (i:=1) hX;obtain⟨z,Y,lz⟩:∃z,HA.get 2=some (.cells z false)/\z.length=36:=⟨_,by subst hX;simp only[zI,seval];rfl,by simp[cK];rfl⟩;have mn:HA.next=3:=by subst hX;simp only[zI,seval]
 have mf:aY HA:=by subst hX;exact(((aY.nil 0).alloc _).alloc _).alloc _
 clear hX;refine bP ?_;refine fZ 1 A1 mf.at1 fun H1 n1 T=>?_;simp only[↓zP,zJ,seval,zD,m0,R,mn,T,a0,aX,m,g0,oL (aW l[0]),oL (aW n)];have tC:(AV.bool false::AV.bool false::wC zs).length=18:=by simp[cK];rfl
 refine gV (Ra _) ?_;rw[an];generalize hd:aH.dot n S=s at *;rw[mn] at n1;simp only[↓zP,zJ,seval,zD,k,tC,oL tC,n1,T];refine bQ ?_;have f3:aY H1:=fun j hj=>by rw[T j];exact mf j A0
 generalize hX:(H1.set 3 _).set 3 _=HB;have b0:HB.get 0=some (.cells [.bK tag 3 (bU l)] false):=by subst hX;rw[aB.aD,if_neg A1,aB.aD,if_neg A1,T];exact m0
 have b1:HB.get 1=some (.cells (cS n) false):=by subst hX;rw[aB.aD,if_neg A1,aB.aD,if_neg A1,T];exact R
 have b2:HB.get 2=some (.cells z false):=by subst hX;rw[aB.aD,if_neg A1,aB.aD,if_neg A1,T];exact Y
 have D:=Kz hX;have Q:HB.next=4:=by subst hX;simp only[aB.bB];omega
 have bf:aY HB:=by subst hX;exact(f3.set A0 _).set Zaw _
 clear hX;have hT:∀a b:Int,(cI a++cI b).take 18=cI a:=fun a b=>by rw[Ck (by rw[k];exact Ad _),<-k a,Ap]
 have hD:∀a b:Int,(cI a++cI b).drop 18=cI b:=fun a b=>by rw[<-k a,List.drop_left]
 have Z:∀a b:Int,(cI a++cI b).length=36:=fun a b=>by rw[Aq,k,k]
 refine bP ?_;simp only[↓zP,zJ,seval,D,oL (k s)];rw[aZd (k s) (k s) tC];have HO:(AV.bool false::AV.bool false::AV.int .u32 0::AV.int .u32 0::AV.int .u32 0::AV.int .u32 0::AV.int .u32 0::AV.int .u32 0::AV.int .u32 0::AV.int .u32 0::AV.int .u32 0::AV.int .u32 0::AV.int .u32 0::AV.int .u32 0::AV.int .u32 0::AV.int .u32 0::AV.int .u32 0::AV.int .u32 0::AV.bool false::AV.bool false::wC zs).length=36:=by simp[cK];rfl
 generalize (AV.bool false::AV.bool false::AV.int .u32 0::AV.int .u32 0::AV.int .u32 0::AV.int .u32 0::AV.int .u32 0::AV.int .u32 0::AV.int .u32 0::AV.int .u32 0::AV.int .u32 0::AV.int .u32 0::AV.int .u32 0::AV.int .u32 0::AV.int .u32 0::AV.int .u32 0::AV.int .u32 0::AV.int .u32 0::AV.bool false::AV.bool false::wC zs)=ay at *;simp only[zJ,seval,Z,oL HO,Q];refine bQ ?_;generalize hX:((HB.alloc _).set 4 _)=HC;have p0:HC.get 0=some (.cells [.bK tag 3 (bU l)] false):=by subst hX;rw[aB.aD,if_neg A1,aB.aJ,Q,if_neg A1];exact b0
 have p1:HC.get 1=some (.cells (cS n) false):=by subst hX;rw[aB.aD,if_neg A1,aB.aJ,Q,if_neg A1];exact b1
 have p2:HC.get 2=some (.cells z false):=by subst hX;rw[aB.aD,if_neg A1,aB.aJ,Q,if_neg A1];exact b2
 have p4:=Kz hX;have pn:HC.next=5:=by subst hX;simp only[aB.bB,aB.bJ];omega
 have pf:aY HC:=by subst hX;exact(bf.alloc _).set Zal _
 clear hX;have af:zN n s (l.take 1)=s:=by subst hx;simp[zN,hd]
 have ag:yU n s (l.take 1)=s:=by subst hx;simp[yU,hd]
 have ad:s.natAbs<=3*(B*M):=by
  have :=nR A (U S (by rw[hx];simp))
  rwa [hd] at this
 have ar:3*(B*M)<W^16:=by
  have :2^62<W^16:=by decide
  omega
 refine aP fun K hK=>?_;refine bP ?_;refine Tz ?_;refine bQ ?_;refine cH [] (fun i _ H'=>H'.get 0=some (.cells [.bK tag 3 (bU l)] false)/\H'.get 1=some (.cells (cS n) false)/\H'.get 2=some (.cells z false)/\H'.get 4=some (.cells (cI (zN n s (l.take i))++cI (yU n s (l.take i))) false)/\5<=H'.next/\aY H'/\(zN n s (l.take i)).natAbs<=3*(B*M)/\(yU n s (l.take i)).natAbs<=3*(B*M)) 1 l.length A0 A0 A1 ?_ ?_ ?_ ?_ ?_
 . exact zq
 . rw[af,ag];exact⟨p0,p1,p2,p4,by omega,pf,ad,ad⟩
 . rintro i f H2 h0 F E o ⟨p,_⟩;have P:f 2=.ref 0 0:=E 2 rfl;simp only[↓zP,zJ,seval,o,P,p,aX];exact tB A0
 . rintro i f H2 h0 F E o ⟨p,q1,q2,q4,qn,qf,I,c2⟩;have P:f 2=.ref 0 0:=E 2 rfl;have ak:f 3=.ref 1 0:=E 3 rfl;have L:f 6=.ref 4 0:=E 6 rfl;have hg:=cG F;have vC:=Ag F;have aj:=ae _ vC;have Xc:=nR A (U _ vC)
   have OP:zN n s (l.take (i+1))=if aH.dot n l[i]<zN n s (l.take i) then aH.dot n l[i] else zN n s (l.take i):=by unfold zN;rw[Ao,Hx];simp[F]
   have xr:yU n s (l.take (i+1))=if aH.dot n l[i]>yU n s (l.take i) then aH.dot n l[i] else yU n s (l.take i):=by unfold yU;rw[Ao,Hx];simp[F]
   rw[OP,xr];generalize zN n s (l.take i)=lo at *;generalize yU n s (l.take i)=N at *;generalize l[i]=x at *;generalize aH.dot n x=d at *;refine aM ?_;refine bP ?_;refine fZ 1 A1 qf.at1 fun H3 J C=>?_;simp only[↓zP,zJ,seval,zD,P,ak,o,p,q1,C,aI,aX,F,hg,oL (aW x),oL (aW n)];refine gV (aj _) ?_;simp only[↓zP,zJ,seval,zD,k,tC,oL tC,J,C];refine bQ ?_;have f3:aY H3:=fun j hj=>by rw[C j];exact qf j A0
   generalize hX:(H3.set H2.next _).set H2.next _=G;have y0:=Kw hX C p;have e:=Kw hX C q1;have y2:=Kw hX C q2;have y4:=Kw hX C q4;have y8:=Kz hX;have w:5<=G.next:=Zbx;have X:aY G:=(by subst hX;exact(f3.set A0 _).set Zaw _);clear hX C f3;have q8:H2.next<G.next:=Co fun h=>by have :=X H2.next A0;rw[y8] at this;cases this
   clear J;generalize H2.next=r8 at *
   have BZ:∀y:Int,(decide (mH (some d) (some y)<0)=decide (d<y))/\(decide (mH (some d) (some y)>0)=decide (d>y)):=fun y=>by constructor<;>(rw[Bj];simp only[mH];split<;>(try split)<;>omega)
   refine aP fun K3 DJ=>?_
   have key:∀(u:dI) (H':aB) (a7:Int),u 8=.ref r8 0->u 6=.ref 4 0->H'.get r8=some (.cells (cI d) false)->H'.get 0=some (.cells [.bK tag 3 (bU l)] false)->H'.get 1=some (.cells (cS n) false)->H'.get 2=some (.cells z false)->H'.get 4=some (.cells (cI a7++cI N) false)->5<=H'.next->aY H'->a7=(if d<lo then d else lo)->K3 u [] H':=by
    intro u H' a7 v8 v6 u8 u0 u1 u2 u4 un uf t;apply DJ;clear DJ K3;have IX:(if d<lo then d else lo).natAbs<=3*(B*M):=ZaU;have ab:=FO (x:=d) (y:=N) A0 A0;have O:4<H'.next:=A0;refine aP fun K4 a6=>?_;simp only[↓zP,zJ,seval,v8,v6,u8,u4,Z,hD,oL (k d),oL (k N)];refine eI (ab _) ?_;by_cases c:d>N
    . have q:decide (mH (some d) (some N)>0)=true:=(by rw[(BZ N).2];exact Af c);simp only[↓zP,zG,seval,q];apply a6;clear a6 K4;simp only[↓zP,zJ,seval,v8,v6,u8,u4,Z,hT,oL (k d),oL (Z a7 N)];rw[if_pos c,<-t];exact⟨u0,u1,u2,rfl,un,uf.set O _,by rw[t];exact IX,Xc⟩
    have q:decide (mH (some d) (some N)>0)=false:=(by rw[(BZ N).2];exact Ac c);simp only[↓zP,zG,seval,q];apply a6;clear a6 K4;refine Tz ?_;rw[if_neg c,<-t];exact⟨u0,u1,u2,u4,un,uf,by rw[t];exact IX,c2⟩
   have ab:=FO (x:=d) (y:=lo) A0 A0;have O:4<G.next:=A0;clear DJ;refine aP fun K4 a6=>?_;simp only[↓zP,zJ,seval,L,y8,y4,Z,hT,oL (k d)];refine eI (ab _) ?_;by_cases c:d<lo
   . have q:decide (mH (some d) (some lo)<0)=true:=(by rw[(BZ lo).1];exact Af c);simp only[↓zP,zG,seval,q];apply a6;clear a6 K4;have :=oL (k d);refine Wy ?_;refine key _ _ d zq (by simp only[zB,seval];exact L) ?_ ?_ ?_ ?_ ?_ ?_ (X.set O _) (if_pos c).symm
     . rw[aB.aD,if_neg A0];exact y8
     . rw[aB.aD,if_neg A0];exact y0
     . rw[aB.aD,if_neg A0];exact e
     . rw[aB.aD,if_neg A0];exact y2
     . exact ZaK
     simp only[aB.bB];exact w
   have q:decide (mH (some d) (some lo)<0)=false:=(by rw[(BZ lo).1];exact Ac c);simp only[↓zP,zG,seval,q];apply a6;clear a6 K4;refine Tz ?_;exact key _ G lo zq (by simp only[zB,seval];exact L) y8 y0 e y2 y4 w X (if_neg c).symm
 rintro f H2 E ⟨p,q1,q2,q4,qn,qf,I,c2⟩;have f4:f 4=.ref 2 0:=E 4 rfl;have L:f 6=.ref 4 0:=E 6 rfl;rw[Ap] at q4;refine Tx ?_;apply hK;clear hK K;have :=oL lz;have :=oL (Z (zN n s l) (yU n s l));refine Wz ?_;refine⟨rfl,_,by simp only[↓zP,zR,seval,f4,Z,oL (Z (zN n s l) (yU n s l))];rfl,?_⟩;rfl
theorem aPz{ta tb:Nat}(f:Nat.blt ta 2=true)(e:Nat.blt tb 2=true){a b:List aH.V}{M B:Nat}(I:∀v∈a,bT M v)(X:∀v∈b,bT M v)(L:a.length<2^30)(O:b.length<2^30)(ab:a≠[])(q:b≠[]){n:aH.V}(A:bT B n)(g:M<2^31)(r:B<2^31)(hs:3*(B*M)<2^62)(H:aB):
 Sg 97 [.agg [.bK ta 3 (bU a)],.agg [.bK tb 3 (bU b)],.agg (cS n)] H (.ret (.bool (decide (n≠V0)&&pP a b n))) H:=by
 obtain⟨xa,ra,S⟩:=Ef ab;obtain⟨xb,rb,a6⟩:=Ef q;have a7:=fun H=>Yd f I L A g r hs S H;have u:=fun H=>Yd e X O A g r hs a6 H
 have cb:pP a b n=(decide (yU n (aH.dot n xa) a<=zN n (aH.dot n xb) b)||decide (yU n (aH.dot n xb) b<=zN n (aH.dot n xa) a)):=by unfold pP;rw[S,a6];rfl
 refine So bRq (by simp only[sf,cT f,cT e,cD]) ?_ H;unfold W97;dsimp only;have s:[AV.int .i64 0,AV.int .i64 0,AV.int .i64 0]=cS V0:=rfl;have k:∀z,(cI z).length=18:=fun z=>by simp[cI,cK,cW]
 have hT:∀a b:Int,(cI a++cI b).take 18=cI a:=fun a b=>by rw[Ck (by rw[k];exact Ad _),<-k a,Ap]
 have hD:∀a b:Int,(cI a++cI b).drop 18=cI b:=fun a b=>by rw[<-k a,List.drop_left]
 have Z:∀a b:Int,(cI a++cI b).length=36:=fun a b=>by rw[Aq,k,k]
 have HO:(AV.bool false::AV.bool false::AV.int .u32 0::AV.int .u32 0::AV.int .u32 0::AV.int .u32 0::AV.int .u32 0::AV.int .u32 0::AV.int .u32 0::AV.int .u32 0::AV.int .u32 0::AV.int .u32 0::AV.int .u32 0::AV.int .u32 0::AV.int .u32 0::AV.int .u32 0::AV.int .u32 0::AV.int .u32 0::AV.bool false::AV.bool false::wC zs).length=36:=by simp[cK];rfl
 refine bP ?_;refine Ty ?_;refine bQ ?_;generalize hX:(((aB.mk 0 .nil).alloc _).alloc _).alloc _=HA;have w:=Kv (i:=0) hX;have R:=Kv (i:=1) hX;have Y:=Kv (i:=2) hX;have E:HA.next=3:=by subst hX;simp only[zI,seval]
 clear hX;refine bP ?_;by_cases C:n=V0
 . simp only[↓zP,zJ,seval,Y,oL (aW n),s,oU,Af C];refine Rx ?_;rw[Ac (fun h=>h C)];rfl
 simp only[↓zP,zJ,seval,Y,oL (aW n),s,oU,Ac C];refine bQ ?_;rw[Af C,Dm,cb];refine bP ?_;simp only[↓zP,zJ,seval,w,Y,oL (aW n)];refine eI (a7 _) ?_;simp only[↓zP,zJ,seval,E,Z];refine bQ ?_
 have o:∀v,v∈a\/v∈b->(aH.dot n v).natAbs<=3*(B*M):=fun v J=>by
  rcases J with h|h
  . exact nR A (I v h)
  exact nR A (X v h)
 have da:=o xa (.inl (by rw[S];simp));have db:=o xb (.inr (by rw[a6];simp));have ae:=Ld (n:=n) (l:=a) da fun v J=>o v (.inl J);have af:=LI (n:=n) (l:=a) da fun v J=>o v (.inl J);have ad:=Ld (n:=n) (l:=b) db fun v J=>o v (.inr J);have T:=LI (n:=n) (l:=b) db fun v J=>o v (.inr J);generalize zN n (aH.dot n xa) a=G at *;generalize yU n (aH.dot n xa) a=ua at *;generalize zN n (aH.dot n xb) b=j at *;generalize yU n (aH.dot n xb) b=ub at *;generalize hX:(HA.alloc _).set 3 _=t;have b1:t.get 1=some (.cells [.bK tb 3 (bU b)] false):=by subst hX;rw[aB.aD,if_neg A1,aB.aJ,E,if_neg A1];exact R
 have b2:t.get 2=some (.cells (cS n) false):=by subst hX;rw[aB.aD,if_neg A1,aB.aJ,E,if_neg A1];exact Y
 have D:=Kz hX;have Q:t.next=4:=by subst hX;simp only[aB.bB,aB.bJ];omega
 clear hX;refine bP ?_;simp only[↓zP,zJ,seval,b1,b2,oL (aW n)];refine eI (u _) ?_;simp only[↓zP,zJ,seval,Q,Z];refine bQ ?_;generalize hX:(t.alloc _).set 4 _=F;have P:F.get 3=some (.cells (cI G++cI ua) false):=by subst hX;rw[aB.aD,if_neg A1,aB.aJ,Q,if_neg A1];exact D
 have p4:=Kz hX;clear hX
 have U:3*(B*M)<W^16:=by
  have :2^62<W^16:=by decide
  omega
 have N:=FO (x:=ua) (y:=j) A0 A0;have d:=FO (x:=ub) (y:=G) A0 A0
 have m:∀x y:Int,decide (mH (some x) (some y)<=0)=decide (x<=y):=fun x y=>by rw[Bj];simp only[mH];split<;>(try split)<;>omega
 refine aP fun K hK=>?_;simp only[↓zP,zJ,seval,P,p4,Z,hT,hD,oL (k _)];refine eI (N _) ?_;by_cases c:ua<=j
 . have p:decide (mH (some ua) (some j)<=0)=true:=by rw[m];exact Af c
   refine Wy ?_;apply hK;clear hK K;refine Tx ?_;refine Rx ?_;rw[Af c];rfl
 have p:decide (mH (some ua) (some j)<=0)=false:=by rw[m];exact Ac c
 refine Wz ?_;apply hK;clear hK K;refine Tx ?_;refine Rx ?_;rw[Ac c];rfl
theorem Vh{ta tb:Nat}(ae:Nat.blt ta 2=true)(ad:Nat.blt tb 2=true){a b:List aH.V}(I:qC a=0)(X:qC b=0)(na:∀v∈a,bT (2^12) v)(nb:∀v∈b,bT (2^12) v)(H:aB):
 Sg 32 [.agg [.bK ta 3 (bU a)],.agg [.bK tb 3 (bU b)]] H (.ret (.bool (rN a b))) H:=by
 obtain⟨U,lU,zU,mU,nU,J,ea⟩:=RC ae I na A1;obtain⟨k,lW,zW,mW,nW,fb,eb⟩:=RC ad X nb A1;obtain⟨sa,_,bx,bu,bt,ba,_⟩:=rM I;obtain⟨sb,_,AB,IX,bs,m,_⟩:=rM X;have aA:=mI sa;have az:=mI sb
 have cb:∀n,bT (2^27) n->∀H,Sg 97 [.agg [.bK ta 3 (bU a)],.agg [.bK tb 3 (bU b)],.agg (cS n)] H (.ret (.bool (decide (n≠V0)&&pP a b n))) H:=fun n A H=>aPz ae ad na nb A0 A0 ba m A A1 A1 A1 H
 have vD:∀(T:List (List AV)),T=(gG a).map (cX (iX a))++(gG b).map (cX (iX b))->T.length<=128/\(∀i,i<T.length->∃n,(T.getD i []).take 3=cS n/\(T.getD i []).length=5/\n≠V0/\IsD a b n/\bT (2^27) n)/\∀n d,(oR (fun i=>a.getD i V0) a.length n d\/oR (fun i=>b.getD i V0) b.length n d)->∃i,i<T.length/\(T.getD i []).take 3=cS n:=by
  intro T hT
  have hm:∀x,x∈T->∃n,x.take 3=cS n/\x.length=5/\n≠V0/\IsD a b n/\bT (2^27) n:=fun x hx=>by
   rw[hT,Ar] at hx
   rcases hx with hx|hx
   . obtain⟨q,D,rfl⟩:=Be.1 hx;have hF:=(aA.fl.mem q).1 D;exact⟨q.1,rfl,rfl,hF.RZ.hn,.inl ⟨q.2,hF⟩,rS na hF⟩
   obtain⟨q,D,rfl⟩:=Be.1 hx;have hF:=(az.fl.mem q).1 D;exact⟨q.1,rfl,rfl,hF.RZ.hn,.inr (.inl ⟨q.2,hF⟩),rS nb hF⟩
  have R:∀x,x∈T->∃i,i<T.length/\T.getD i []=x:=fun x hx=>by obtain⟨i,F,h⟩:=Dl hx;exact⟨i,F,by simp[List.getD,F,h]⟩
  refine⟨by rw[hT];simp;omega,fun i F=>?_,fun n d h=>?_⟩
  . have :T.getD i []=T[i]:=by simp[List.getD,F]
    rw[this];exact hm _ (Ag F)
  rcases h with h|h
  . obtain⟨i,F,e⟩:=R (cX (iX a) (n,d)) (by rw[hT,Ar];exact .inl (Be.2 ⟨_,(aA.fl.mem (n,d)).2 h,rfl⟩));exact⟨i,F,by rw[e];rfl⟩
  obtain⟨i,F,e⟩:=R (cX (iX b) (n,d)) (by rw[hT,Ar];exact .inr (Be.2 ⟨_,(az.fl.mem (n,d)).2 h,rfl⟩));exact⟨i,F,by rw[e];rfl⟩
 refine So bQp (by simp only[sf,cT ae,cT ad]) ?_ H;unfold W32;dsimp only;have an:((gG b).map (cX (iX b))).isEmpty=false:=by simpa using AB
 obtain⟨bb,bc,ay⟩:=vD _ rfl;refine bP ?_;refine Ty ?_;refine bQ ?_;generalize hX:((aB.mk 0 .nil).alloc _).alloc _=c;have m0:=Kv (i:=0) hX;have m1:=Kv (i:=1) hX;have mn:c.next=2:=by subst hX;simp only[zI,seval]
 have mf:aY c:=by subst hX;exact((aY.nil 0).alloc _).alloc _
 clear hX;refine bP ?_;simp only[↓zP,zJ,seval,m0];refine eI (J _) ?_;refine Tz ?_;refine bQ ?_;have oA:Own ((c.alloc .tok).alloc .tok) 5 (.bK (c.next+2) 5 ((gG a).map (cX (iX a)))) ((gG a).map (cX (iX a))):=.inr ⟨c.next,rfl,by simp only[aB.bJ];omega,by rw[aB.aJ,if_neg Zal,aB.aJ,if_pos rfl]⟩;obtain⟨HB,z1,z2,z3,r,z5⟩:=Has.push (.inr oA) (ys:=(gG b).map (cX (iX b))) (bytes:=56) an (by rw[Aq] at bb;omega);have ak:((c.alloc .tok).alloc .tok).get 0=some (.cells [.bK ta 3 (bU a)] false):=by rw[aB.aJ,if_neg Zal,aB.aJ,if_neg A0];exact m0
 have aj:(c.alloc .tok).get 1=some (.cells [.bK tb 3 (bU b)] false):=by rw[aB.aJ,if_neg A0];exact m1
 have aE:((c.alloc .tok).alloc .tok).get 1=some (.cells [.bK tb 3 (bU b)] false):=by rw[aB.aJ,if_neg Zal];exact aj
 have b0:=(r 0 Zal (by rw[ak];simp)).trans ak;have b1:=(r 1 Zal (by rw[aE];simp)).trans aE;have bf:=z5 ((mf.alloc _).alloc _);have bn:2<=HB.next:=by rw[z2];simp only[aB.bJ];omega
 generalize bz:c.alloc .tok=bq at *;refine bP ?_;simp only[↓zP,zJ,seval,aj];refine eI (fb _) ?_;refine Tz ?_;rw[show ∀(h:aB) (x:List (List AV)) (t:Nat),dM h 5 (.bK t 5 x)=some x from fun _ _ _=>rfl];simp only[z1,bV,seval,zI];refine bQ ?_;generalize (gG a).map (cX (iX a))++(gG b).map (cX (iX b))=T at *;generalize bq.next+1+2=tg at *;clear z1 z2 z3 r z5 J fb an oA;refine aP fun K hK=>?_;refine bP ?_;refine Tz ?_;refine bQ ?_;refine cH [] (fun i _ H'=>H'=HB/\∀j,j<i->∀n,(T.getD j []).take 3=cS n->pP a b n=false) 0 T.length (Bh _) A0 A1 ?_ ?_ ?_ ?_ ?_
 . exact zq
 . exact Zbm
 . rintro i f H1 G F E e1 _;have s:f 5=.bK tg 5 T:=E 5 rfl;simp only[↓zP,zG,seval,e1,s];exact tB A0
 . rintro i f H1 G F E e1 ⟨rfl,Ol⟩;have P:f 2=.ref 0 0:=E 2 rfl;have S:f 3=.ref 1 0:=E 3 rfl;have s:f 5=.bK tg 5 T:=E 5 rfl;obtain⟨n,t3,t5,WJ,hD,C⟩:=bc i F;have a6:=cb n C;rw[Af WJ,Dm] at a6;have br:3<=(T.getD i []).length:=by omega
   refine aM ?_;refine bP ?_;refine Dz ?_;simp only[↓zP,zJ,seval,zD,P,S,s,e1,b0,b1,aI,F,t3,t5];refine gV (a6 _) ?_;simp only[↓zP,zJ,seval,zD];refine bQ ?_;by_cases M:pP a b n=true
   . refine Wy ?_;refine Rx ?_;rw[show rN a b=true from qM.2 ⟨n,hD,M⟩];rfl
   have DL:pP a b n=false:=(by simpa using M);simp only[↓zP,zG,seval,DL];refine⟨trivial,fun j Y n' l=>?_⟩;by_cases b5:j=i
   . subst b5
     have :n'=n:=by rw[t3] at l;obtain⟨x,y,z⟩:=n;obtain⟨x',y',z'⟩:=n';simp only[cS,List.cons.injEq,AV.int.injEq,Ke,and_true] at l;obtain⟨O,Z,h3⟩:=l;subst O;subst Z;subst h3;rfl
     rw[this];exact DL
   exact Ol j A0 n' l
 rintro f H1 E ⟨rfl,Ol⟩;have P:f 2=.ref 0 0:=E 2 rfl;have S:f 3=.ref 1 0:=E 3 rfl;refine Tx ?_;apply hK;clear hK K;refine bP ?_;refine Wz ?_;refine fQ ?_;refine Wz ?_;refine bQ ?_;refine aP fun K hK=>?_;refine bP ?_;refine Tz ?_;refine bQ ?_;have aN:∀i (h:i<U.length),(bU U).getD i []=cS U[i]:=fun i h=>cG h;have aK:∀i (h:i<k.length),(bU k).getD i []=cS k[i]:=fun i h=>cG h;have ar:(bU U).length=U.length:=aX _;have aq:(bU k).length=k.length:=aX _;refine cH [] (fun i _ H'=>H'.get 0=some (.cells [.bK ta 3 (bU a)] false)/\H'.get 1=some (.cells [.bK tb 3 (bU b)] false)/\2<=H'.next/\aY H'/\∀u∈U.take i,∀w∈k,(decide (aH.bC u w≠V0)&&pP a b (aH.bC u w))=false) 0 U.length (Bh _) A0 A1 ?_ ?_ ?_ ?_ ?_
 . exact zq
 . exact⟨b0,b1,bn,bf,fun u B=>by simp at B⟩
 . rintro i g H2 G F N o _;have g8:g 8=.bK 0 3 (bU U):=N 8 rfl;simp only[↓zP,zG,seval,o,g8,ar];exact tB A0
 . rintro i g H2 G F N o ⟨c0,c1,cn,cf,ab⟩;have g2:g 2=.ref 0 0:=by rw[N 2 rfl];simp only[zB,seval];exact P
   have g3:g 3=.ref 1 0:=(by rw[N 3 rfl];simp only[zB,seval];exact S);have g8:g 8=.bK 0 3 (bU U):=N 8 rfl;have g9:g 9=.bK 0 3 (bU k):=N 9 rfl;have b7:=aN i F;have aO:=(mU _).1 (Ag F);have nu:=nU _ (Ag F)
   have vZ:∀y,y∈U.take (i+1)->y∈U.take i\/y=U[i]:=fun y Q=>by
    rw[Ao,Ar] at Q
    rcases Q with h|h
    . exact .inl h
    simp[F] at h;exact .inr h
   generalize U[i]=u at *;refine aM ?_;refine bP ?_;refine Tz ?_;refine bQ ?_;refine cH [] (fun j _ H'=>H'.get 0=some (.cells [.bK ta 3 (bU a)] false)/\H'.get 1=some (.cells [.bK tb 3 (bU b)] false)/\2<=H'.next/\aY H'/\∀w∈k.take j,(decide (aH.bC u w≠V0)&&pP a b (aH.bC u w))=false) 0 k.length (Bh _) A0 A1 ?_ ?_ ?_ ?_ ?_
   . exact zq
   . exact⟨c0,c1,cn,cf,fun w L=>by simp at L⟩
   . rintro j g' W G Y lO e3 _;have af:g' 9=.bK 0 3 (bU k):=(by rw[lO 9 rfl];simp only[zB,seval];exact g9);simp only[↓zP,zG,seval,e3,af,aq];exact tB A0
   . rintro j g' W G Y lO e3 ⟨d0,p,dn,df,a7⟩;have bm:g' 2=.ref 0 0:=(by rw[lO 2 rfl];simp only[zB,seval];exact g2);have bl:g' 3=.ref 1 0:=(by rw[lO 3 rfl];simp only[zB,seval];exact g3);have bj:g' 8=.bK 0 3 (bU U):=(by rw[lO 8 rfl];simp only[zB,seval];exact g8);have af:g' 9=.bK 0 3 (bU k):=(by rw[lO 9 rfl];simp only[zB,seval];exact g9);have bo:g' 10=.int .i64 i:=(by rw[lO 10 rfl];simp only[zB,seval];exact o);have b6:=aK j Y;have aF:=(mW _).1 (Ag Y);have nw:=nW _ (Ag Y)
     have bp:∀y,y∈k.take (j+1)->y∈k.take j\/y=k[j]:=fun y Q=>by
      rw[Ao,Ar] at Q
      rcases Q with h|h
      . exact .inl h
      simp[Y] at h;exact .inr h
     generalize k[j]=w at *;have ag:=iM nu nw;have b9:=zt nu nw A1 A1;have b4:=jd ag A1;have a6:=cb (aH.bC u w) ag
     have uZ:(decide (aH.bC u w≠V0)&&pP a b (aH.bC u w))=true->rN a b=true:=fun h=>by rw[Ak,Bs] at h;exact qM.2 ⟨_,.inr (.inr ⟨u,w,aO,aF,rfl,h.1⟩),h.2⟩
     generalize b3:(decide (aH.bC u w≠V0)&&pP a b (aH.bC u w))=sv at *;have d3:∀v:aH.V,(cS v).take 3=cS v:=fun _=>rfl;refine aM ?_;refine bP ?_;refine fZ 1 A1 df.at1 fun H4 n4 e4=>?_;simp only[↓zP,zJ,seval,zD,bj,af,bo,e3,aI,ar,aq,F,Y,b7,b6,oL (aW u),oL (aW w)];refine gV (b9 _) ?_;simp only[seval];refine gV (b4 _) ?_;generalize b8:aH.bC u w=cv at *;have :=oL (aW cv);refine Wy ?_;refine bQ ?_;have q0:¬(0=W.next):=A0;have q1:¬(1=W.next):=A0;generalize hX:(H4.set W.next _).set W.next _=H5;have y0:H5.get 0=some (.cells [.bK ta 3 (bU a)] false):=(by subst hX;rw[aB.aD,if_neg q0,aB.aD,if_neg q0,e4];exact d0);have y1:H5.get 1=some (.cells [.bK tb 3 (bU b)] false):=(by subst hX;rw[aB.aD,if_neg q1,aB.aD,if_neg q1,e4];exact p);have y2:=Kz hX;have yn:2<=H5.next:=by subst hX;simp only[aB.bB];omega
     have yf:aY H5:=fun j Y=>by subst hX;simp only[aB.bB] at Y;rw[aB.aD,if_neg A0,aB.aD,if_neg A0,e4];exact df j A0
     clear hX;generalize W.next=r5 at *;refine bP ?_;simp only[↓zP,zJ,seval,bm,bl,y0,y1,y2,oL (aW cv)];refine eI (a6 _) ?_;refine Tz ?_;refine bQ ?_
     cases sv with
     |true=>refine Tz ?_;refine Rx ?_;rw[uZ rfl];rfl
     |false=>
      refine Tz ?_;refine⟨y0,y1,yn,yf,fun y Q=>?_⟩
      rcases bp y Q with h|rfl
      . exact a7 y h
      rw[b8];exact b3
   rintro g' W lO ⟨d0,p,dn,df,a7⟩;rw[Ap] at a7;refine Tz ?_;refine⟨d0,p,dn,df,fun y Q=>?_⟩
   rcases vZ y Q with h|rfl
   . exact ab y h
   exact a7
 rintro g H2 N ⟨c0,c1,cn,cf,ab⟩;rw[Ap] at ab;refine Tx ?_;apply hK;clear hK K;refine Tz ?_;refine Rx ?_
 have :rN a b=false:=by
  rw[<-Fx,qM];rintro⟨n,A,M⟩
  rcases A with ⟨d,h⟩|⟨d,h⟩|⟨u,w,B,L,rfl,WJ⟩
  . obtain⟨i,F,e⟩:=ay n d (.inl h);rw[Ol i F n e] at M;cases M
  . obtain⟨i,F,e⟩:=ay n d (.inr h);rw[Ol i F n e] at M;cases M
  have :=ab u ((mU u).2 B) w ((mW w).2 L);rw[Af WJ,M] at this;cases this
 rw[this];rfl
theorem aFy:∀c:Fin 256,aNq c.1=((decide (97<=c.1)&&decide (c.1<=122))||(decide (65<=c.1)&&decide (c.1<=90))):=by decide
theorem jc{c:Nat}(R:c<256)(H:aB):Sg 205 [.int .u8 c] H (.ret (.bool (aNq c))) H:=by
 refine So bIb Zad ?_ H;unfold aVs;dsimp only;have U:=aFy ⟨c,R⟩;simp only at U;rw[U];have p:decide ((c:Int)≥97)=decide (97<=c):=by rw[Bj];omega
 have q:decide ((c:Int)<=122)=decide (c<=122):=by rw[Bj];omega
 have d3:decide ((c:Int)≥65)=decide (65<=c):=by rw[Bj];omega
 have y:decide ((c:Int)<=90)=decide (c<=90):=by rw[Bj];omega
 generalize decide (97<=c)=A at *;generalize decide (c<=122)=B at *;generalize decide (65<=c)=C at *;generalize decide (c<=90)=D at *
 cases A with
 |true=>
  cases B with
  |true=>simp only[↓zP,zJ,seval,p,q,pW];refine Rx ?_;rfl
  |false=>
   cases C with
   |true=>refine Wz ?_;refine Rx ?_;rfl
   |false=>refine Wz ?_;refine Rx ?_;rfl
 |false=>
  cases C with
  |true=>refine Wz ?_;refine Rx ?_;simp[nJ]
  |false=>refine Wz ?_;refine Rx ?_;simp[nJ]
theorem YY(s:List UInt8)(Q:s.length<2^63)(H:aB):Sg 120 [.str s] H (.ret (.bool (BL s))) H:=by
 refine So bGj Zad ?_ H;unfold aUc;dsimp only;have p:decide ((s.length:Int)<1)= !decide (1<=s.length):=by rw[<-Jr,Bj];omega
 have q:decide ((s.length:Int)>32)= !decide (s.length<=32):=by rw[<-Jr,Bj];omega
 refine bP ?_;refine Tz ?_;refine fQ ?_
 cases O:decide (1<=s.length) with
 |false=>rw[O] at p;refine Wz ?_;refine Rx ?_;unfold BL;rw[O];simp[nJ]
 |true=>
 rw[O] at p
 cases Z:decide (s.length<=32) with
 |false=>rw[Z] at q;refine Wz ?_;refine Rx ?_;unfold BL;rw[Z];simp[nJ]
 |true=>
 rw[Z] at q;have m:=Ek Z;refine Wz ?_;refine bQ ?_;refine aP fun K hK=>?_;refine Tz ?_;refine cH [] (fun i vs H'=>∀k,k<i->Wn k (s.getD k 0).toNat=true) 0 s.length (Bh _) A0 A1 ?_ ?_ ?_ ?_ ?_
 . exact zq
 . exact fun k E=>absurd E (Am _)
 . rintro i f H1 G F E T _;have A:f 0=.str s:=E 0 rfl;simp only[↓zP,zG,seval,T,A];exact tB A0
 . rintro i f H1 G F E T t;have A:f 0=.str s:=E 0 rfl
   have d:s[i]?=some (s.getD i 0):=(by simp[List.getD,F]);have n:(s.getD i 0).toNat<256:=(s.getD i 0).toNat_lt
   have y:Wn i (s.getD i 0).toNat=true->∀k,k<i+1->Wn k (s.getD k 0).toNat=true:=fun h k E=>by
    by_cases e:k=i
    . subst e;exact h
    exact t k A0
   have a:Wn i (s.getD i 0).toNat=false->BL s=false:=fun h=>by
    have :(List.range s.length).all (fun k=>Wn k (s.getD k 0).toNat)=false:=by rw[Jk];exact⟨i,Bb.2 F,by rw[h];decide⟩
    unfold BL;rw[this];rfl
   have l:=jc n;refine aM ?_;refine aP fun L dJ=>?_;simp only[↓zP,zG,seval,T,A,aI,d];refine eI (l _) ?_;generalize X:s.getD i 0=b at *;generalize R:b.toNat=c at *;have z:((i:Int)==0)=decide (i=0):=by rw[Bool.beq_eq_decide_eq,Bj];omega
   have j:((c:Int) != 95)= !decide (c=95):=by have :((c:Int)==95)=decide (c=95):=(by rw[Bool.beq_eq_decide_eq,Bj];omega);rw[bne,this]
   have g:decide ((c:Int)<48)= !decide (48<=c):=(by rw[<-Jr,Bj];omega);have x:decide ((c:Int)>57)= !decide (c<=57):=(by rw[<-Jr,Bj];omega);unfold Wn at y a;generalize aNq c=o at *;generalize decide (i=0)=w at *;generalize decide (c=95)=v at *;generalize decide (48<=c)=u at *;generalize decide (c<=57)=r at *
   cases o with
   |true=>simp only[↓zP,zJ,seval,pW];apply dJ;clear dJ L;refine Tz ?_;exact y A3
   |false=>
    cases w with
    |true=>simp only[↓zP,zJ,seval,T,z,pW];apply dJ;clear dJ L;refine Tz ?_;refine Rx ?_;rw[a A3];rfl
    |false=>
     cases v with
     |true=>refine Wy ?_;apply dJ;clear dJ L;refine Tz ?_;exact y A3
     |false=>
      cases u with
      |false=>refine Wy ?_;apply dJ;clear dJ L;refine Tz ?_;refine Rx ?_;rw[a A3];rfl
      |true=>
       cases r with
       |false=>refine Wy ?_;apply dJ;clear dJ L;refine Tz ?_;refine Rx ?_;rw[a A3];rfl
       |true=>refine Wy ?_;apply dJ;clear dJ L;refine Tz ?_;exact y A3
 rintro f H1 E t
 have y:(List.range s.length).all (fun k=>Wn k (s.getD k 0).toNat)=true:=by rw[Bi];exact fun k E=>t k (Bb.1 E)
 refine Tx ?_;apply hK;clear hK K;refine Tz ?_;refine Rx ?_;unfold BL;rw[y,O,Z];rfl
theorem XL:OK v=true↔∃c,c<3/\(v.at c>4096\/v.at c< -4096):=by
 unfold OK;simp only[Eb,Bs];constructor
 . rintro(h|h|h)
   . exact⟨0,by decide,h⟩
   . exact⟨1,by decide,h⟩
   exact⟨2,by decide,h⟩
 rintro⟨c,R,h⟩
 match c,R with
 |0,_=>exact .inl h
 |1,_=>exact .inr (.inl h)
 |2,_=>exact .inr (.inr h)
theorem aAl{tag:Nat}(W:Nat.blt tag 2=true){l:List aH.V}(Q:l.length<2^30)(H:aB):
 Sg 121 [.agg [.bK tag 3 (bU l)]] H (.ret (.bool (!l.any OK))) H:=by
 refine So bGk Zav ?_ H;unfold aUd;dsimp only;have D:(bU l).length=l.length:=aX _;refine Ty ?_;refine cH [] (fun i _ H'=>H'.get 0=some (.cells [.bK tag 3 (bU l)] false)/\∀v∈l.take i,OK v=false) 0 l.length (Bh _) A0 A1 ?_ ?_ ?_ ?_ ?_
 . exact zq
 . exact⟨by simp only[zI,seval],fun v J=>by simp at J⟩
 . rintro i f H1 G F E T ⟨g0,_⟩;have u:f 1=.ref 0 0:=E 1 rfl;simp only[↓zP,zJ,seval,T,u,g0,D];exact tB A0
 . rintro i f H1 G F E T ⟨g0,a⟩;have u:f 1=.ref 0 0:=E 1 rfl;have d:=cG F;have n:=Ag F
   have C:∀v,v∈l.take (i+1)->v∈l.take i\/v=l[i]:=fun v J=>by
    exact Zam
   generalize l[i]=x at *;refine aM ?_;refine bP ?_;refine Tz ?_;refine bQ ?_;refine cH [] (fun j _ H'=>H'.get 0=some (.cells [.bK tag 3 (bU l)] false)/\∀c,c<j->¬(x.at c>4096)/\¬(x.at c< -4096)) 0 3 (Bh _) A1 A1 ?_ ?_ ?_ ?_ ?_
   . exact zq
   . exact⟨g0,fun c R=>absurd R (Am _)⟩
   . rintro j g H2 s Y N o t;simp only[↓zP,zG,seval,o];exact tB A0
   . rintro j g H2 s Y N o ⟨U,R⟩;have m:g 1=.ref 0 0:=(by rw[N 1 rfl];simp only[zB,seval];exact u);have S:g 3=.int .i64 i:=(by rw[N 3 rfl];simp only[zB,seval];exact T);have k:(x.at j>4096\/x.at j< -4096)->l.any OK=true:=fun h=>Cz.2 ⟨x,n,XL.2 ⟨j,Y,h⟩⟩;have y:1<=(List.drop j (cS x)).length:=(by rw[Hi,aW];omega);have b:(List.drop j (cS x)).getD 0 aC=.int .i64 (x.at j):=(by rw[<-iY x Y];simp[List.getD]);refine aM ?_;refine aP fun L dJ=>?_;by_cases I:x.at j>4096
     . have p:=Af I;simp only[↓zP,zJ,seval,o,m,S,U,aI,aX,F,d,Y,y,b,p];apply dJ;clear dJ L;refine Tz ?_;refine Rx ?_;rw[k (.inl I)];rfl
     have p:=Ac I;by_cases X:x.at j< -4096
     . have q:=Af X;simp only[↓zP,zJ,seval,o,m,S,U,aI,aX,F,d,Y,y,b,p,q];apply dJ;clear dJ L;refine Tz ?_;refine Rx ?_;rw[k (.inr X)];rfl
     have q:=Ac X;simp only[↓zP,zJ,seval,o,m,S,U,aI,aX,F,d,Y,y,b,p,q];apply dJ;clear dJ L;refine Tz ?_;refine⟨U,fun c h=>?_⟩;by_cases e:c=j
     . subst e;exact⟨I,X⟩
     exact R c A0
   rintro g H2 N ⟨U,R⟩;refine Tx ?_;refine⟨U,fun v J=>?_⟩
   rcases C v J with h|rfl
   . exact a v h
   rw[<-Fx,XL];rintro⟨c,O,Z⟩;have :=R c O;omega
 rintro f H1 E ⟨g0,a⟩;rw[Ap] at a;refine Tx ?_;refine Rx ?_
 have :l.any OK=false:=by rw[Fp];exact fun v J=>by rw[a v J];decide
 rw[this];rfl
theorem oh(n:aH.V):∀(l:List aH.V) (m:Int),zN (aH.neg n) (-m) l= -(yU n m l)
 |[],m=>rfl
 |v::l,m=>by
  have K:=oh n l;unfold zN yU at K ⊢
  have :(if aH.dot (aH.neg n) v< -m then aH.dot (aH.neg n) v else -m)= -(if aH.dot n v>m then aH.dot n v else m):=by rw[qN];omega
  grind
theorem mw(n:aH.V):∀(l:List aH.V) (m:Int),yU (aH.neg n) (-m) l= -(zN n m l)
 |[],m=>rfl
 |v::l,m=>by
  have K:=mw n l;unfold zN yU at K ⊢
  have :(if aH.dot (aH.neg n) v> -m then aH.dot (aH.neg n) v else -m)= -(if aH.dot n v<m then aH.dot n v else m):=by rw[qN];omega
  grind
theorem NJ(a b:List aH.V)(n:aH.V):pP a b n=pP b a n:=by grind[pP]
theorem aIp(a b:List aH.V)(n:aH.V):pP a b (aH.neg n)=pP a b n:=by simp[pP,qN,oh,mw,Bool.or_comm,Bj]
theorem XA{a b:List aH.V}(h:rN a b=true):rN b a=true:=by
 obtain⟨n,K,M⟩:=qM.1 h
 rcases K with hF|hF|⟨u,w,B,L,rfl,A⟩
 . exact qM.2 ⟨n,.inr (.inl hF),by grind[NJ]⟩
 . exact qM.2 ⟨n,.inl hF,by grind[NJ]⟩
 refine qM.2 ⟨aH.neg (aH.bC u w),.inr (.inr ⟨w,u,L,B,(Zr u w).symm,fun e=>VU A e⟩),?_⟩
 grind[aIp,NJ]
theorem vw(a b:List aH.V):rN a b=rN b a:=by rw[Eh];exact⟨XA,XA⟩
end Go.Proofs.YtogfcjbgeebfkaaGreatDoor
namespace Go.Proofs.YtogfcjbgeebfkaaGreatDoor
open Go Go.Av Go.iW Go.aH


def un:Nat->aH.V
 |0=>⟨1,0,0⟩
 |1=>⟨0,1,0⟩
 |_=>⟨0,0,1⟩
theorem Uh(i:Nat)(v:aH.V):dot (un i) v=v.at i:=by unfold un aH.V.at;grind[dot]
def Vp(l:List aH.V):Prop:=qC l=0/\∀v∈l,bT (2^12) v
noncomputable def V6 (l:List aH.V):Int:=aQn (nK l) (LM l)
noncomputable def S2 (l:List aH.V) (i k:Nat):Int:=aH.sec (un i) (un k) (nK l) (LM l)
noncomputable def Tr (l:List aH.V):Int:=S2 l 0 0+S2 l 1 1+S2 l 2 2
noncomputable def In (l:List aH.V) (p:Nat):Int:=if p / 3=p%3 then -S2 l (p / 3) (p%3)+Tr l else -S2 l (p / 3) (p%3)
variable{l:List aH.V}
theorem Vp.hul(h:Vp l):Ob (nK l) l.length (LM l)/\MN (nK l) l.length/\LM l≠[]/\l.length<=64:=by obtain⟨M,_,s,_,U,_,_⟩:=rM h.1;exact⟨aNk M,CS M,fun e=>s (by simp_all[LM]),U⟩
theorem Wj(l:List aH.V):CM (gG l) (iX l)=(LM l).flatMap fun e=>kZ e.2:=by simp[CM,LM,List.flatMap_map]
theorem Vp.len(h:Vp l):(CM (gG l) (iX l)).length<=2^12:=by obtain⟨O,Z,_,h4⟩:=h.hul;have :=O.Vv Z;rw[Wj];have :l.length*l.length<=64*64:=Az h4 h4;omega
theorem Vp.lt(h:Vp l){t:Nat×Nat×Nat}(W:t∈CM (gG l) (iX l)):t.1<l.length/\t.2.1<l.length/\t.2.2<l.length:=by obtain⟨O,Z,_,_⟩:=h.hul;rw[Wj] at W;obtain⟨e,z,W⟩:=Ec.1 W;obtain⟨k,E,rfl⟩:=Lg.1 W;obtain⟨a1,y,Q,_⟩:=((O.po e z).jw Z (O.oa z)).2 k E;exact⟨(cJ.1 a1).1,(cJ.1 y).1,(cJ.1 Q).1⟩
theorem Vp.vt(h:Vp l){k:Nat}(E:k<l.length):bT (2^12) (nK l k):=h.2 _ (aQo E)
theorem tS{A:Nat}{v:aH.V}(h:bT A v)(i:Nat):(v.at i).natAbs<=A:=by
 unfold aH.V.at;split
 . exact h.1
 . exact h.2.1
 exact h.2.2
theorem Vp.d3(h:Vp l){t:Nat×Nat×Nat}(W:t∈CM (gG l) (iX l)):(sE l t).natAbs<=2^39:=by obtain⟨O,Z,B⟩:=h.lt W;have :=nR (iM (h.vt O) (h.vt Z)) (h.vt B);show(dot (bC _ _) _).natAbs<=_;omega
theorem aTk(h:Vp l):vo l=some (V6 l)/\(V6 l).natAbs<=2^51:=by have U:=h.len;have e:V6 l=dK (sE l) (CM (gG l) (iX l)):=(To _).symm;have A:(CM (gG l) (iX l)).length*2^39<=2^51:=Aw (Bc _ U) A1;rw[e];exact⟨RQ (a:=51) A1 (fun t _=>rfl) (fun t W=>h.d3 W) A,Aw (EH fun t W=>h.d3 W) A⟩
theorem bDd(l:List aH.V)(t:Nat×Nat×Nat)(i:Nat):sI l t i=dot (un i) (aH.add (aH.add (nK l t.1) (nK l t.2.1)) (nK l t.2.2)):=by rw[sF,sF,Uh,Uh,Uh];rfl
theorem Vp.s3(h:Vp l){t:Nat×Nat×Nat}(W:t∈CM (gG l) (iX l))(i:Nat):(sI l t i).natAbs<=3*2^12:=by
 obtain⟨O,Z,B⟩:=h.lt W;have a1:=tS (h.vt O) i;have y:=tS (h.vt Z) i;have Q:=tS (h.vt B) i
 grind[sI]
theorem bMz(l:List aH.V)(t:Nat×Nat×Nat)(i k:Nat):qI l t i k 3=Q3 (un i) (un k) (nK l t.1) (nK l t.2.1) (nK l t.2.2):=by simp[qI,Q3,vj,bDd,Uh]
theorem Vp.q3(h:Vp l){t:Nat×Nat×Nat}(W:t∈CM (gG l) (iX l))(i k:Nat):(qI l t i k 3).natAbs<=12*2^24:=by
 obtain⟨O,Z,B⟩:=h.lt W;have s:=gK (h.s3 W i) (h.s3 W k);have a1:=gK (tS (h.vt O) i) (tS (h.vt O) k);have y:=gK (tS (h.vt Z) i) (tS (h.vt Z) k);have Q:=gK (tS (h.vt B) i) (tS (h.vt B) k)
 grind[qI,vj]
theorem ql(h:Vp l)(p:Nat):se l p=some (S2 l (p / 3) (p%3))/\(S2 l (p / 3) (p%3)).natAbs<=2^79:=by
 have U:=h.len
 have e:S2 l (p / 3) (p%3)=dK (fun t=>sE l t*qI l t (p / 3) (p%3) 3) (CM (gG l) (iX l)):=by rw[To];refine kY fun e _=>kY fun t _=>?_;rw[bMz];rfl
 have X:∀t∈CM (gG l) (iX l),(sE l t*qI l t (p / 3) (p%3) 3).natAbs<=2^67:=fun t W=>Aw (gK (h.d3 W) (h.q3 W _ _)) A1;have A:(CM (gG l) (iX l)).length*2^67<=2^79:=Aw (Bc _ U) A1;rw[e];exact⟨RQ (a:=79) A1 (fun t W=>norm_le (X t W) A1) X A,Aw (EH X) A⟩
theorem aFm(h:Vp l)(p:Nat):ya l p=some (In l p)/\(In l p).natAbs<=2^81:=by
 have s0:=ql h 0;have U:=ql h 4;have k:=ql h 8;have Q:=ql h p
 have T:oI (se l 0) (se l 4)=some (S2 l 0 0+S2 l 1 1):=by rw[s0.1,U.1];exact norm_le (a:=80) A0 A1
 have o:trO l=some (Tr l):=by unfold trO;rw[T,k.1];exact norm_le (a:=81) (by grind) A1
 have X:(In l p).natAbs<=2^81:=by
  have :=s0.2;have :=U.2;have :=k.2;have :=Q.2;unfold In Tr
  grind
 refine⟨?_,X⟩;unfold ya;unfold In at X ⊢;split at X
 . rename_i m;rw[if_pos m,if_pos m,o,Q.1];exact norm_le X A1
 rename_i m;rw[if_neg m,if_neg m,Q.1];rfl
theorem aCb(h:Vp l):0<V6 l:=by obtain⟨O,Z,B,_⟩:=h.hul;exact(O.aYp Z B V0 0 (fun k _=>by simp[dot,V0])).1
attribute [local congr] aZ aQ aR aL bD aU aS aG bE
attribute [local irreducible] FC bS eE
theorem aNv{x y:Nat->Option Rat}(C:ZB x)(e:ZB y)(M:ZB fun p=>mT (x p) (y p))(H:aB):Sg 79 [.agg (mC x),.agg (mC y)] H (.ret (.iV [.agg (mC fun p=>mT (x p) (y p)),.int .i64 0])) H:=by
 refine fA fit dZ bRl (Ab rfl) Zbt ?_ H;unfold W79;dsimp only;have J:∀H,Sg 115 [.bK 1 3 (mLN 3 [x,y])] H (.ret (.bool true)) H:=FI (n:=3) A1 (l:=[x,y]) (fun z s=>by simp only[Ba,Cn,Fg] at s;rcases s with rfl|rfl;exact C;exact e) (show 2<2^30 by decide) (tag:=1) rfl
 replace J:∀H,Sg 115 [.bK 1 3 [mC x,mC y]] H (.ret (.bool true)) H:=J
 have b:∀x,(mC x).length=3:=fun _=>rfl;have g0:∀x,(mC x).getD 0 aC=.int .i64 3:=fun _=>rfl;have g:∀x,(mC x).getD 1 aC=.int .i64 3:=fun _=>rfl;have a:=fun x=>oL (b x);refine bP ?_;refine Ty ?_;refine fQ ?_;simp only[↓zP,zJ,seval,b,a];refine eI (J _) ?_;have h:((3:Int) != 3)=false:=rfl;simp only[↓zP,zJ,seval,b,g0,g,h];refine bQ ?_;generalize hX:(((aB.mk 0 .nil).alloc _).alloc _).alloc _=c;have D:c.get 0=some (.cells (mC x) false):=by subst hX;simp only[zI,seval]
 have a1:c.get 1=some (.cells (mC y) false):=by subst hX;simp only[zI,seval]
 have j:c.get 2=some (.cells [.int .i64 0,.int .i64 0,.bG] false):=by subst hX;simp only[zI,seval]
 have q:c.next=3:=by subst hX;rfl
 have W:aY c:=by subst hX;exact(((aY.nil _).alloc _).alloc _).alloc _
 clear hX
 obtain⟨n,H',S,⟨m,q1,q2,d⟩,A,o⟩:=om (H0:=c) (Q:=fun H=>H.get 0=some (.cells (mC x) false)/\H.get 1=some (.cells (mC y) false)/\H.get 2=some (.cells [.int .i64 0,.int .i64 0,.bG] false)/\3<=H.next)
  (fun H H' ⟨G,O,Z,B⟩ E=>⟨(E.2 0 A0 (by rw[G];simp)).trans G,(E.2 1 A0 (by rw[O];simp)).trans O,(E.2 2 A0 (by rw[Z];simp)).trans Z,Aw B E.1⟩) M (fid:=166) (cs:=[.ref 0 0,.ref 1 0])
  (fun H ⟨G,O,_,B⟩ N i k F E=>aGf C e F E G O A0 A0 N) ⟨D,a1,j,by omega⟩ W
 refine bP ?_;simp only[↓zP,zJ,seval,D,b,g0,g];refine eI (S) ?_;simp only[↓zP,zJ,seval,q2];refine bQ ?_;refine Tx ?_;refine Rx ?_;have f:=pB (fun p=>mT (x p) (y p)) 9;refine⟨_,2,rfl,fun t=>?_⟩;simp[nJ,iH,kK,GI,f,EK,AV.free,mC]
theorem yi{x:Nat->Option Rat}{c:Option Rat}(C:ZB x)(R:lA (gL c) c)(O:c.isSome=true)(M:ZB fun p=>nX (x p) c)(H:aB):Sg 80 [.agg (mC x),.agg (gL c)] H (.ret (.iV [.agg (mC fun p=>nX (x p) c),.int .i64 0])) H:=by
 refine fA fit dZ bLd (Ab rfl) (by simp only[sf,FG,eW]) ?_ H;unfold W80;dsimp only;have J:∀H,Sg 115 [.bK 1 3 (mLN 3 [x])] H (.ret (.bool true)) H:=FI (n:=3) A1 (l:=[x]) (fun z s=>by rw[Ca] at s;rw[s];exact C) (show 1<2^30 by decide) (tag:=1) rfl
 replace J:∀H,Sg 115 [.bK 1 3 [mC x]] H (.ret (.bool true)) H:=J
 have v:=lS R;rw[O] at v;have b:∀x,(mC x).length=3:=fun _=>rfl;have g0:∀x,(mC x).getD 0 aC=.int .i64 3:=fun _=>rfl;have g:∀x,(mC x).getD 1 aC=.int .i64 3:=fun _=>rfl;have a:=fun x=>oL (b x);have h:=oL (cZ c);refine bP ?_;refine Ty ?_;refine fQ ?_;simp only[↓zP,zJ,seval,b,a];refine eI (J _) ?_;simp only[↓zP,zJ,seval,h];refine eI (v _) ?_;refine Ty ?_;refine bQ ?_;generalize hX:(((aB.mk 0 .nil).alloc _).alloc _).alloc _=e;have D:e.get 0=some (.cells (mC x) false):=by subst hX;simp only[zI,seval]
 have a1:e.get 1=some (.cells (gL c) false):=by subst hX;simp only[zI,seval]
 have y:e.get 2=some (.cells [.int .i64 0,.int .i64 0,.bG] false):=by subst hX;simp only[zI,seval]
 have o:e.next=3:=by subst hX;rfl
 have W:aY e:=by subst hX;exact(((aY.nil _).alloc _).alloc _).alloc _
 clear hX
 obtain⟨n,H',S,⟨j,q1,q2,d⟩,A,m⟩:=om (H0:=e) (Q:=fun H=>H.get 0=some (.cells (mC x) false)/\H.get 1=some (.cells (gL c) false)/\H.get 2=some (.cells [.int .i64 0,.int .i64 0,.bG] false)/\3<=H.next)
  (fun H H' ⟨G,O,Z,B⟩ E=>⟨(E.2 0 A0 (by rw[G];simp)).trans G,(E.2 1 A0 (by rw[O];simp)).trans O,(E.2 2 A0 (by rw[Z];simp)).trans Z,Aw B E.1⟩) M (fid:=167) (cs:=[.ref 0 0,.ref 1 0])
  (fun H ⟨G,O,_,B⟩ N i k F E=>dq C R F E G O A0 A0 N) ⟨D,a1,y,by omega⟩ W
 refine bP ?_;simp only[↓zP,zJ,seval,D,b,g0,g];refine eI (S) ?_;simp only[↓zP,zJ,seval,q2];refine bQ ?_;refine Tx ?_;refine Rx ?_;have f:=pB (fun p=>nX (x p) c) 9;refine⟨_,2,rfl,fun t=>?_⟩;simp[nJ,iH,kK,GI,f,EK,AV.free,mC]
noncomputable def ct:List (List aH.V)->Nat->Option Rat
 |[],_=>none
 |l::ls,p=>ls.foldl (fun s t=>mT s (Mr t p)) (Mr l p)
variable{ls:List (List aH.V)}
theorem aFr(h:ls≠[])(l:List aH.V)(p:Nat):ct (ls++[l]) p=mT (ct ls p) (Mr l p):=by
 cases ls with
 |nil=>exact absurd rfl h
 |cons a r=>simp[ct]
noncomputable def fcB (ls:List (List aH.V)) (m:Option Rat):Option Rat:=yN (nX (some ((6:Int):Rat)) m) (FK (JU ls) (some 1))
noncomputable def OU (ls:List (List aH.V)) (m:Option Rat) (p:Nat):Option Rat:=nX (ct ls p) (fcB ls m)
variable{name:List UInt8}
theorem aLr(hp:Pok ls)(s:ls≠[]){m:Option Rat}(hm:lA (gL m) m)(F:∀l∈ls,ZB (Mr l))(M:∀k,0<k->k<=ls.length->ZB (ct (ls.take k)))(hc:lA (gL (fcB ls m)) (fcB ls m))(ab:(fcB ls m).isSome=true)(ho:ZB (OU ls m))(w R B r1:Int)(H:aB):
 Sg 20 [.agg (bd name ls w R B r1),.agg (gL m)] H (.ret (.agg (mC (OU ls m)))) H:=by
 refine Sp bHz (by simp only[sf,Oe,eW]) Zbt ?_ H;unfold W20;dsimp only;have O:=aLs (name:=name) hp w R B r1;have b6:(bd name ls w R B r1).length=6:=rfl;have b1:(bd name ls w R B r1).getD 1 aC=.bK 0 1 (pE ls):=rfl;have A:=hp.1;have b:∀x,(mC x).length=3:=fun _=>rfl;have m3:=fun x=>oL (b x);generalize bd name ls w R B r1=bc at *;refine bP ?_;refine Ty ?_;refine bQ ?_;generalize hX:aB.alloc _ _=HA;have D:=Kv (i:=0) hX;have a1:=Kv (i:=1) hX;have a2:=Kv (i:=2) hX;have aF:aY HA:=by subst hX;exact((((aY.nil _).alloc _).alloc _)).alloc _
 have an:HA.next=3:=by subst hX;rfl
 clear hX;refine bP ?_;refine Tz ?_;refine bQ ?_;generalize hX:aB.alloc _ _=HB
 replace D:=Kx (i:=0) hX
 replace a1:=Kx (i:=1) hX
 replace a2:=Kx (i:=2) hX
 have Q:=Kx (i:=3) hX
 replace aF:aY HB:=by subst hX;exact aF.alloc _
 have af:4<=HB.next:=by subst hX;simp only[zI,seval,an]
 clear hX;refine cC fun f N=>?_;have P:=Kf (i:=2) N;have f3:=Kf (i:=3) N;have f4:=Kf (i:=4) N;have f5:=Kg (i:=5) N;clear N an HA;refine aP fun K hK=>?_;refine bP ?_;have := @NC;refine Wy ?_;refine bQ ?_;refine bR [] (fun i _ H'=>H'.get 0=some (.cells bc false)/\H'.get 1=some (.cells (gL m) false)/\H'.get 2=some (.cells [.int .i64 0,.int .i64 0,.bG] false)/\(0<i->H'.get 3=some (.cells (mC (ct (ls.take i))) false))/\(∃c3,H'.get 3=some (.cells c3 false)/\c3.length=3)/\aY H'/\4<=H'.next) ls.length A0 A1 ?_ ?_ ?_ ?_ ?_
 . exact zq
 . exact zq
 . exact⟨D,a1,a2,fun h=>absurd h (Ff _),⟨_,Q,rfl⟩,aF,af⟩
 . rintro i u H1 eZ E T ⟨g0,g,g2,U,⟨c,v,gl⟩,gF,I⟩;have k2:u 2=.ref 0 0:=by rw[E 2 rfl];simp only[zB,seval];exact P
   have k5:u 5=.ref 3 0:=(by rw[E 5 rfl];simp only[zB,seval];exact f5);have a7:u 12=.bK 0 1 (pE ls):=E 12 rfl;have d:=fg eZ;have J:=Ag eZ;have iP:∀H,Sg 78 [.agg [.bK 0 3 (bU ls[i])]] H (.ret (.agg (mC (Mr ls[i])))) H:=aNd (hp.2 _ J);have t:ls.take (i+1)=ls.take i++[ls[i]]:=(by rw[Ao,Ai eZ];rfl);have a6:=M (i+1) A0 eZ;have OM:=F _ J;refine aM ?_;refine bP ?_;simp only[↓zP,zJ,seval,a7,T,aI,NC,eZ,d];refine bQ ?_;generalize hX:aB.set _ _ _=H4;generalize hr:H1.next=r at *;have u0:=Ku hX g0;have u1:=Ku hX g;have j:=Ku hX g2;have S:=Ku hX v;have ur:=Kz hX;have un:r+1=H4.next:=(by subst hX;simp only[aB.bB,aB.bJ,hr]);have uF:aY H4:=(by subst hX;exact(gF.alloc _).set (by simp only[aB.bJ,hr];omega) _);clear hX;refine aP fun K2 dJ=>?_;by_cases G:i=0
   . subst G;have hd:decide (((0:Nat):Int)=0)=true:=rfl;have C:ct (ls.take (0+1))=Mr ls[0]:=(by rw[t];rfl);rw[C] at a6;simp only[↓zP,zJ,seval,ur];refine eI (iP _) ?_;simp only[↓zP,zJ,seval,k5,S,gl,b];have ad:ct (ls.take 1)=Mr ls[0]:=C;rw[ad];have W:mC (Mr ls[0])++List.drop 3 c=mC (Mr ls[0]):=(by rw[Bl A0,Bx]);rw[W];exact⟨u0,u1,j,fun _=>rfl,⟨_,rfl,rfl⟩,uF.set A0 _,by omega⟩
   have hd:((i:Int)==0)=false:=Dc.2 A0
   have ae:ls.take i≠[]:=fun e=>by rcases List.take_eq_nil_iff.1 e with e|e<;>first|exact G e|exact s e
   have C:ct (ls.take (i+1))=fun p=>mT (ct (ls.take i) p) (Mr ls[i] p):=by funext p;rw[t];exact aFr ae _ _
   obtain rfl:c=mC (ct (ls.take i)):=by have :=U A0;rw[v] at this;cases this;rfl
   have q:=aNv (M i A0 A0) OM (by rw[<-C];exact a6);rw[<-C] at q;generalize ct (ls.take (i+1))=Y at *;generalize ct (ls.take i)=X at *;refine Ww ?_;apply dJ;clear dJ K2;refine bP ?_;refine Tz ?_;refine fQ ?_;refine Dz ?_;refine Wy ?_;refine bQ ?_;simp only[↓zP,zJ,seval,show((0:Int) != 0)=false from rfl];exact⟨u0,u1,j,trivial,⟨_,rfl,rfl⟩,uF.set A0 _,by omega⟩
 rintro u H1 E ⟨g0,g,g2,U,_,gF,I⟩;have k2:u 2=.ref 0 0:=by rw[E 2 rfl];simp only[zB,seval];exact P
 have k3:u 3=.ref 1 0:=by rw[E 3 rfl];simp only[zB,seval];exact f3
 have k4:u 4=.ref 2 0:=by rw[E 4 rfl];simp only[zB,seval];exact f4
 have k5:u 5=.ref 3 0:=by rw[E 5 rfl];simp only[zB,seval];exact f5
 rw[Ap] at U;have U:=U (Kn.2 s);refine Tx ?_;apply hK;clear hK K;have a:=yi (M ls.length (Kn.2 s) (Ad _)) (c:=fcB ls m);rw[Ap] at a;have a:=a hc ab ho;rw[show(fun p=>nX (ct ls p) (fcB ls m))=OU ls m from rfl] at a;have o6:=fx (z:=6) A1 A1;have m6:=Lt (lA.int (z:=6) A1 A1) hm;have iv:eJ (cO (JU ls)) (JU ls):=eJ.wK _ _;have L:=Tg iv;have dv:=qk (lA.mul (x:=some ((6:Int):Rat)) (y:=m)) (.mk iv (.enc (z:=1) A1));rw[show yN (nX (some ((6:Int):Rat)) m) (FK (JU ls) (some 1))=fcB ls m from rfl] at dv;have n:=oL (cZ m);refine bP ?_;refine fZ 1 A1 gF.at1 fun H2 n2 o=>?_;simp only[↓zP,zJ,seval,zD,k5,o,U,b,m3];refine gV (o6 _) ?_;simp only[↓zP,zJ,seval,zD,k3,o,g,n];refine gV (m6 _) ?_;simp only[↓zP,zJ,seval,zD,k2,o,g0,b6,oL b6];refine gV (O _) ?_;simp only[seval];refine gV (L _) ?_;simp only[seval];refine gV (dv _) ?_;simp only[seval];refine gV (a _) ?_;simp only[↓zP,zJ,seval,zD,n2,o,b];refine bQ ?_;have Z:((H2.set H1.next (eS.cells [AV.int IntKind.i64 0,AV.int IntKind.i64 0,AV.bG] false)).set H1.next (eS.cells (mC (OU ls m)) false)).get 2=some (.cells [.int .i64 0,.int .i64 0,.bG] false):=by rw[aB.aD,if_neg A0,aB.aD,if_neg A0,o];exact g2
 refine Wz ?_;refine⟨rfl,_,by simp only[↓zP,zR,seval,k4,m3];rfl,?_⟩;rfl
theorem Bq.IT{n d:Int}{a b:Nat}(hd:d≠0)(O:n.natAbs<=2^a)(Z:d.natAbs<=2^b):Bq ((n:Rat) / (d:Rat)) a b:=by rw[<-Rat.divInt_eq_div];exact .divInt hd O Z
theorem Ym{α:Type}{x:α->Option Rat}{m:α->Int}{c:Int}(R:0<c){a b:Nat}(d:c.natAbs<=2^b)(j:a+b<=510)(f:b+b<=511){B:Nat}:∀(T:List α) (s:Int),(∀t∈T,x t=some ((m t:Rat) / (c:Rat)))->(∀t∈T,(m t).natAbs<=B)->s.natAbs+T.length*B<=2^a->
 T.foldl (fun s t=>mT s (x t)) (some ((s:Rat) / (c:Rat)))=some (((s+dK m T:Int):Rat) / (c:Rat))
 |[],s,_,_,_=>by simp[dK]
 |t::T,s,hx,hB,hn=>by
  have O:=hB t Ay;rw[As,Cy] at hn;have g:c≠0:=by omega
  have e:=CL (x:=(s:Rat) / (c:Rat)) (y:=(m t:Rat) / (c:Rat)) (.IT (a:=a) g A0 d) (.IT (a:=a) g A0 d) j j f
  have o:(s:Rat) / (c:Rat)+(m t:Rat) / (c:Rat)=((s+m t:Int):Rat) / (c:Rat):=by grind
  rw[List.foldl_cons,hx t Ay,e,o,Ym R d j f T _ (fun u h=>hx u (Ax _ h)) (fun u h=>hB u (Ax _ h)) A0];simp[dK,Int.add_assoc]
def Bp(ls:List (List aH.V)):Prop:=ls≠[]/\ls.length<=8/\∀l∈ls,Vp l
noncomputable def VB (ls:List (List aH.V)):Int:=dK V6 ls
noncomputable def IB (ls:List (List aH.V)) (p:Nat):Int:=dK (fun l=>In l p) ls
theorem Bp.pok(h:Bp ls):Pok ls:=⟨h.2.1,fun l U=>(h.2.2 l U).1⟩
theorem Bp.le(h:Bp ls)(B:Nat):ls.length*B<=8*B:=Bc _ h.2.1
theorem ry(h:Bp ls):JU ls=some (VB ls)/\(VB ls).natAbs<=2^54/\0<VB ls:=by have A:=h.le (2^51);have X:∀l∈ls,(V6 l).natAbs<=2^51:=fun l U=>(aTk (h.2.2 l U)).2;refine⟨RQ (a:=54) A1 (fun l U=>(aTk (h.2.2 l U)).1) X A,Aw (EH X) A,?_⟩;obtain⟨l,U⟩:=List.exists_mem_of_ne_nil _ h.1;exact vT (fun l U=>Fv (aCb (h.2.2 l U))) ⟨l,U,aCb (h.2.2 l U)⟩
theorem cq(h:Vp l)(p:Nat):Mr l p=some ((In l p:Rat) / ((120:Int):Rat)):=by unfold Mr;rw[(aFm h p).1];simp only[FK];rw[if_neg A1,Rat.divInt_eq_div]
theorem VL(h:Bp ls)(p:Nat):ct ls p=some ((IB ls p:Rat) / ((120:Int):Rat))/\(IB ls p).natAbs<=2^84:=by
 have A:=h.le (2^81);have X:∀l∈ls,(In l p).natAbs<=2^81:=fun l U=>(aFm (h.2.2 l U) p).2;refine⟨?_,Aw (EH X) A⟩
 cases ls with
 |nil=>exact absurd rfl h.1
 |cons l r=>
  have :=Ym (x:=fun t=>Mr t p) (m:=fun l=>In l p) (c:=120) (a:=84) (b:=7) (B:=2^81) A1 A1 A1 A1 r (In l p) (fun t W=>cq (h.2.2 t (Ax _ W)) p) (fun t W=>X t (Ax _ W)) (by grind)
  show r.foldl (fun s t=>mT s (Mr t p)) (Mr l p)=_;rw[cq (h.2.2 l Ay),this];rfl
theorem Uo(h:Bp ls){k:Int}(E:k.natAbs<=2^10):fcB ls (some (k:Rat))=some (((6*k:Int):Rat) / (VB ls:Rat))/\Bq (((6*k:Int):Rat) / (VB ls:Rat)) 13 54:=by
 obtain⟨J,l,m⟩:=ry h;have G:(VB ls:Rat)≠0:=fun e=>by simp_all
 have w:(6*k).natAbs<=2^13:=by omega
 refine⟨?_,Bq.IT A0 w l⟩;unfold fcB;rw[qX (Bq.int (n:=6) (a:=3) A1) (Bq.int E) A1 A1,<-Rat.intCast_mul,J,ou,KO (Bq.int w) (Bq.int l) G A1 A1]
theorem qV(h:Bp ls){k:Int}(E:k.natAbs<=2^10)(p:Nat):OU ls (some (k:Rat)) p=some ((IB ls p:Rat) / ((120:Int):Rat)*(((6*k:Int):Rat) / (VB ls:Rat)))/\Bq ((IB ls p:Rat) / ((120:Int):Rat)*(((6*k:Int):Rat) / (VB ls:Rat))) 97 61:=by obtain⟨O,Z⟩:=VL h p;obtain⟨B,h4⟩:=Uo h E;have b:=Bq.IT (n:=IB ls p) (d:=120) (a:=84) (b:=7) A1 Z A1;refine⟨?_,b.mul h4⟩;unfold OU;rw[O,B,qX b h4 A1 A1]
theorem ZB.of{x:Nat->Option Rat}(h:∀p,∃q,x p=some q/\tP q):ZB x:=by
 refine⟨fun p _=>?_,?_⟩
 . obtain⟨q,e,N⟩:=h p;rw[e];exact .enc N
 refine Fp.2 fun p _=>?_;obtain⟨q,e,_⟩:=h p
 grind
theorem Bp.take(h:Bp ls){k:Nat}(E:0<k):Bp (ls.take k):=by
 refine⟨fun e=>?_,by rw[Fb];have :=h.2.1;omega,fun l U=>h.2.2 l (Cu U)⟩
 rcases List.take_eq_nil_iff.1 e with e|e
 . omega
 exact h.1 e
theorem aDb(h:Bp ls){k:Int}(E:k.natAbs<=2^10)(w R B r1:Int)(H:aB):
 Sg 20 [.agg (bd name ls w R B r1),.agg (cQ (k:Rat))] H (.ret (.agg (mC (OU ls (some (k:Rat)))))) H:=by
 have N:tP (k:Rat):=(Bq.int E).fit A1 A1
 refine aLr (m:=some (k:Rat)) h.pok h.1 (.enc N) (fun l U=>.of fun p=>⟨_,cq (h.2.2 l U) p,(Bq.IT (a:=81) (b:=7) A1 (aFm (h.2.2 l U) p).2 A1).fit A1 A1⟩)
  (fun k E _=>.of fun p=>⟨_,(VL (h.take E) p).1,(Bq.IT (a:=84) (b:=7) A1 (VL (h.take E) p).2 A1).fit A1 A1⟩) ?_ ?_ (.of fun p=>⟨_,(qV h E p).1,(qV h E p).2.fit A1 A1⟩) w R B r1 H
 . rw[(Uo h E).1];exact .enc ((Uo h E).2.fit A1 A1)
 rw[(Uo h E).1];rfl
noncomputable def JB (ls:List (List aH.V)) (i k:Nat):Int:=dK (fun l=>S2 l i k) ls
theorem bDn(ls:List (List aH.V)){i k:Nat}(E:k<3):IB ls (3*i+k)=if i=k then -JB ls i k+(JB ls 0 0+JB ls 1 1+JB ls 2 2) else -JB ls i k:=by
 have T:(3*i+k) / 3=i:=by omega
 have o:(3*i+k)%3=k:=by omega
 have neg:∀i k,-JB ls i k=dK (fun l=>(-1)*S2 l i k) ls:=fun i k=>by rw[vS];show _= -1*JB ls i k;omega
 unfold IB In;rw[T,o];split<;>simp_all[neg,JB,zZ,Tr]
section
theorem aKh(x y z:Int)(a b c:aH.V):Q3 ⟨x,y,z⟩ ⟨x,y,z⟩ a b c=x*x*Q3 (un 0) (un 0) a b c+y*y*Q3 (un 1) (un 1) a b c+z*z*Q3 (un 2) (un 2) a b c+2*(x*y*Q3 (un 0) (un 1) a b c)+2*(x*z*Q3 (un 0) (un 2) a b c)+2*(y*z*Q3 (un 1) (un 2) a b c):=by
 simp only[aQx,qq,un,dot]
 grind
theorem aIn(x y z:Int)(p:Nat->aH.V)(K:List ((aH.V×Int)×List Nat)):aH.sec ⟨x,y,z⟩ ⟨x,y,z⟩ p K=x*x*aH.sec (un 0) (un 0) p K+y*y*aH.sec (un 1) (un 1) p K+z*z*aH.sec (un 2) (un 2) p K+2*(x*y*aH.sec (un 0) (un 1) p K)+2*(x*z*aH.sec (un 0) (un 2) p K)+2*(y*z*aH.sec (un 1) (un 2) p K):=by
 simp only[aH.sec,<-aJd,<-aJc]
 grind[aKh]
noncomputable def JQ (ls:List (List aH.V)) (u:aH.V):Int:=dK (fun l=>aH.sec u u (nK l) (LM l)) ls
theorem KH(ls:List (List aH.V))(x y z:Int):JQ ls ⟨x,y,z⟩=x*x*JB ls 0 0+y*y*JB ls 1 1+z*z*JB ls 2 2+2*(x*y*JB ls 0 1)+2*(x*z*JB ls 0 2)+2*(y*z*JB ls 1 2):=by simp only[JQ,JB,<-vS,<-zZ];exact kY fun l _=>aIn x y z _ _
variable{ls:List (List aH.V)}
theorem ZT(h:Bp ls){u:aH.V}(B:u≠V0):0<JQ ls u:=by
 have m:∀l∈ls,0<aH.sec u u (nK l) (LM l):=fun l U=>by obtain⟨O,Z,a,_⟩:=(h.2.2 l U).hul;exact O.aQa Z a B
 obtain⟨l,U⟩:=List.exists_mem_of_ne_nil _ h.1;exact vT (fun l U=>Fv (m l U)) ⟨l,U,m l U⟩
theorem uA(h:Bp ls)(u:aH.V):0<=JQ ls u:=by
 by_cases B:u=V0
 . subst B;have :=KH ls 0 0 0;show 0<=JQ ls ⟨0,0,0⟩;omega
 exact Fv (ZT h B)
theorem aKd(ls:List (List aH.V))(i k:Nat):JB ls i k=JB ls k i:=kY fun l _=>aIo _ _ _ _
noncomputable def NB (ls:List (List aH.V)) (i k:Nat):Int:=IB ls (3*i+k)
theorem CJ(ls:List (List aH.V)){i k:Nat}(E:k<3):NB ls i k=if i=k then -JB ls i k+(JB ls 0 0+JB ls 1 1+JB ls 2 2) else -JB ls i k:=bDn ls E
theorem Od(ls:List (List aH.V)){i k:Nat}(F:i<3)(E:k<3):NB ls i k=NB ls k i:=by rw[CJ ls E,CJ ls F,aKd ls i k];omega
theorem aKf(h:Bp ls):NB ls 0 0<=NB ls 1 1+NB ls 2 2/\NB ls 1 1<=NB ls 0 0+NB ls 2 2/\NB ls 2 2<=NB ls 0 0+NB ls 1 1:=by rw[CJ ls A1,CJ ls A1,CJ ls A1,if_pos rfl,if_pos rfl,if_pos rfl];have p:=uA h ⟨1,0,0⟩;have q1:=uA h ⟨0,1,0⟩;have q2:=uA h ⟨0,0,1⟩;rw[KH] at p q1 q2;omega
theorem aKg(h:Bp ls)(x y z:Int)(G:¬(x=0/\y=0/\z=0)):0<x*x*NB ls 0 0+y*y*NB ls 1 1+z*z*NB ls 2 2+2*(x*y*NB ls 0 1)+2*(x*z*NB ls 0 2)+2*(y*z*NB ls 1 2):=by
 have e:x*x*NB ls 0 0+y*y*NB ls 1 1+z*z*NB ls 2 2+2*(x*y*NB ls 0 1)+2*(x*z*NB ls 0 2)+2*(y*z*NB ls 1 2)=JQ ls ⟨0,z,-y⟩+JQ ls ⟨-z,0,x⟩+JQ ls ⟨y,-x,0⟩:=by
  rw[KH,KH,KH,CJ ls A1,CJ ls A1,CJ ls A1,CJ ls A1,CJ ls A1,CJ ls A1,if_pos rfl,if_pos rfl,if_pos rfl,if_neg A1,if_neg A1,if_neg A1]
  grind
 have J:=uA h ⟨0,z,-y⟩;have p1:=uA h ⟨-z,0,x⟩;have p2:=uA h ⟨y,-x,0⟩;by_cases a:z=0/\y=0
 . have :=ZT h (u:=⟨-z,0,x⟩) fun e=>by
    grind[V0]
   omega
 have :=ZT h (u:=⟨0,z,-y⟩) fun e=>by grind[V0]
 omega
section
variable {N:Nat->Nat->Int} {t:Rat}
def mm(N:Nat->Nat->Int)(i j:Nat):Int:=N 0 0*N i j -N i 0*N 0 j
def dtN(N:Nat->Nat->Int):Int:=N 0 0*(N 1 1*N 2 2 -N 1 2*N 2 1) -N 0 1*(N 1 0*N 2 2 -N 1 2*N 2 0)+N 0 2*(N 1 0*N 2 1 -N 1 1*N 2 0)
structure Ps (N:Nat->Nat->Int) (t:Rat):Prop where
 n1:0<N 0 0
 n2:0<mm N 1 1
 n3:0<dtN N
 t0:0<t
 bt:Bq t 13 61
 b:∀i j,(N i j).natAbs<=2^84
theorem bMf:mm N 2 2*mm N 1 1 -mm N 2 1*mm N 1 2=N 0 0*dtN N:=by grind[mm,dtN]
theorem ow(i:Nat):mm N i 0=0:=by grind[mm]
theorem PB{x y:Int}{A:Nat}(h:x.natAbs<=A)(k:y.natAbs<=A):(x -y).natAbs<=A+A:=by omega
theorem Ps.mb(h:Ps N t)(i j:Nat):(mm N i j).natAbs<=2^169:=by have :=PB (gK (h.b 0 0) (h.b i j)) (gK (h.b i 0) (h.b 0 j));assumption
theorem Ps.db(h:Ps N t):(dtN N).natAbs<=2^255:=by have m:∀i j k l,(N i j*N k l).natAbs<=2^84*2^84:=fun i j k l=>gK (h.b i j) (h.b k l);have q:∀i j a b c d e f g k,(N i j*(N a b*N c d -N e f*N g k)).natAbs<=2^84*(2^84*2^84+2^84*2^84):=fun i j a b c d e f g k=>gK (h.b i j) (PB (m a b c d) (m e f g k));have a1:=q 0 0 1 1 2 2 1 2 2 1;have y:=q 0 1 1 0 2 2 1 2 2 0;have Q:=q 0 2 1 0 2 1 1 1 2 0;unfold dtN;omega
def qx(k:Nat)(x:Nat->Nat->Option Rat)(i j:Nat):Option Rat:=
 if i=k then yN (x k j) (x k k) else if zX (x i k)=0 then x i j else SN (x i j) (nX (x i k) (yN (x k j) (x k k)))
def s0(N:Nat->Nat->Int)(t:Rat)(i j:Nat):Rat:=t*N i j
def s1(N:Nat->Nat->Int)(t:Rat)(i j:Nat):Rat:=if i=0 then(N 0 j:Rat) / N 0 0 else t*(mm N i j:Rat) / N 0 0
def s2(N:Nat->Nat->Int)(t:Rat)(i j:Nat):Rat:=
 if i=1 then(mm N 1 j:Rat) / mm N 1 1 else if i=0 then((N 0 j*mm N 1 1 -N 0 1*mm N 1 j:Int):Rat) / ((N 0 0*mm N 1 1:Int):Rat) else if j=2 then t*(dtN N:Rat) / mm N 1 1 else 0
def s3(i j:Nat):Rat:=if i=j then 1 else 0
theorem jk{q:Rat}:zX (some q)=0↔q=0:=by grind[Rat.num_eq_zero,zX,iI]
theorem Qx{z:Int}(h:z≠0):(z:Rat)≠0:=fun e=>h (Rat.intCast_eq_zero_iff.1 e)
theorem Bq.z(a b:Nat):Bq 0 a b:=⟨Bh _,Nat.one_le_two_pow⟩
theorem Bq.one(a b:Nat):Bq 1 a b:=⟨Nat.one_le_two_pow,Nat.one_le_two_pow⟩
theorem Bq.tm(h:Ps N t){m n:Int}(A:n≠0){a b:Nat}(c:m.natAbs<=2^a)(X:n.natAbs<=2^b):Bq (t*(m:Rat) / n) (13+a) (61+b):=by
 have e:t*(m:Rat) / n=t*((m:Rat) / n):=by grind
 rw[e];exact h.bt.mul (.IT A c X)
theorem Ps.b0(h:Ps N t)(i j:Nat):Bq (s0 N t i j) 97 61:=h.bt.mul (.int (h.b i j))
theorem Ps.b1(h:Ps N t)(i j:Nat):Bq (s1 N t i j) 182 145:=by
 have O:=h.n1;unfold s1;split
 . exact(Bq.IT A0 (h.b 0 j) (h.b 0 0)).mono A1 A1
 exact Bq.tm h A0 (h.mb i j) (h.b 0 0)
theorem Ps.b2(h:Ps N t)(i j:Nat):Bq (s2 N t i j) 268 253:=by
 have O:=h.n1;have Z:=h.n2;unfold s2;split
 . exact(Bq.IT A0 (h.mb 1 j) (h.mb 1 1)).mono A1 A1
 split
 . have a1:=PB (gK (h.b 0 j) (h.mb 1 1)) (gK (h.b 0 1) (h.mb 1 j));exact(Bq.IT (a:=254) (b:=253) (Int.mul_ne_zero A0 A0) (Aw a1 A1) (Aw (gK (h.b 0 0) (h.mb 1 1)) A1)).mono A1 A1
 exact Zce
theorem Ps.bSc(h:Ps N t){i j:Nat}:qx 0 (fun i j=>some (s0 N t i j)) i j=some (s1 N t i j):=by
 have O:=h.n1;have g:=Qx (show N 0 0≠0 by omega);have l:t≠0:=fun e=>absurd h.t0 (by grind);have J:s0 N t 0 0≠0:=fun e=>by unfold s0 at e;grind
 have D:yN (some (s0 N t 0 j)) (some (s0 N t 0 0))=some ((N 0 j:Rat) / N 0 0):=by
  rw[KO (h.b0 0 j) (h.b0 0 0) J A1 A1]
  grind[s0]
 unfold qx s1;by_cases F:i=0
 . grind
 have d:Bq ((N 0 j:Rat) / N 0 0) 84 84:=.IT A0 (h.b 0 j) (h.b 0 0);have L:(mm N i j:Rat)=(N 0 0:Rat)*N i j -(N i 0:Rat)*N 0 j:=by simp[mm,Rat.intCast_sub,Rat.intCast_mul]
 by_cases s:s0 N t i 0=0
 . rw[if_pos (jk.2 s)];have :(N i 0:Rat)=0:=by unfold s0 at s;grind
   have e:s0 N t i j=t*(N i j:Rat):=rfl
   grind
 rw[if_neg (fun e=>s (jk.1 e)),D,qX (h.b0 i 0) d A1 A1,RP (h.b0 i j) ((h.b0 i 0).mul d) A1 A1 A1];unfold s0
 grind
theorem Ps.p1(h:Ps N t):s1 N t 1 1≠0:=fun e=>by
 have O:=h.n1;have Z:=h.n2;have g:=Qx (show N 0 0≠0 by omega);have n1:=Qx (show mm N 1 1≠0 by omega);have l:t≠0:=fun e=>absurd h.t0 (by grind);unfold s1 at e
 grind
theorem Ps.bSd(h:Ps N t){i j:Nat}(F:i<3)(Y:j<3):qx 1 (fun i j=>some (s1 N t i j)) i j=some (s2 N t i j):=by
 have O:=h.n1;have Z:=h.n2;have g:=Qx (show N 0 0≠0 by omega);have n1:=Qx (show mm N 1 1≠0 by omega);have l:t≠0:=fun e=>absurd h.t0 (by grind)
 have D:yN (some (s1 N t 1 j)) (some (s1 N t 1 1))=some ((mm N 1 j:Rat) / mm N 1 1):=by
  rw[KO (h.b1 1 j) (h.b1 1 1) h.p1 A1 A1];congr 1;unfold s1
  grind
 have d:Bq ((mm N 1 j:Rat) / mm N 1 1) 169 169:=.IT A0 (h.mb 1 j) (h.mb 1 1)
 have val:i≠1->s1 N t i j -s1 N t i 1*((mm N 1 j:Rat) / mm N 1 1)=s2 N t i j:=fun u=>by
  unfold s1 s2;rw[if_neg u];by_cases a:i=0
  . grind
  rw[if_neg a,if_neg a,if_neg a];by_cases v:j=2
  . have e:=Al (fun z:Int=>(z:Rat)) (bMf (N:=N))
    grind
  obtain rfl|rfl:j=0\/j=1:=by omega
  . rw[ow,ow]
    grind
  grind
 unfold qx;by_cases u:i=1
 . simp[if_pos,u,D,s2]
 rw[if_neg u,<-val u];by_cases s:s1 N t i 1=0
 . exact ZbQ
 rw[if_neg (fun e=>s (jk.1 e)),D,qX (h.b1 i 1) d A1 A1,RP (h.b1 i j) ((h.b1 i 1).mul d) A1 A1 A1]
theorem Ps.p2(h:Ps N t):s2 N t 2 2=t*(dtN N:Rat) / mm N 1 1/\s2 N t 2 2≠0:=by
 have Z:=h.n2;have B:=h.n3;have n1:=Qx (show mm N 1 1≠0 by omega);have n2:=Qx (show dtN N≠0 by omega);have l:t≠0:=fun e=>absurd h.t0 (by grind)
 have e:s2 N t 2 2=t*(dtN N:Rat) / mm N 1 1:=by rfl
 grind
theorem Ps.bSe(h:Ps N t){i j:Nat}(F:i<3)(Y:j<3):qx 2 (fun i j=>some (s2 N t i j)) i j=some (s3 i j):=by
 have O:=h.n1;have Z:=h.n2;have g:=Qx (show N 0 0≠0 by omega);have n1:=Qx (show mm N 1 1≠0 by omega)
 have k:∀j,Bq (s2 N t 2 j) 268 230:=fun j=>by
  unfold s2;rw[if_neg A1,if_neg A1];exact Zce
 have f:i≠2->∀j,Bq (s2 N t i j) 254 253:=fun c j=>by
  have :=(h.b2 i j);unfold s2;split
  . exact(Bq.IT A0 (h.mb 1 j) (h.mb 1 1)).mono A1 A1
  rw[if_pos A0];have a1:=PB (gK (h.b 0 j) (h.mb 1 1)) (gK (h.b 0 1) (h.mb 1 j));exact(Bq.IT (a:=254) (b:=253) (Int.mul_ne_zero A0 A0) (Aw a1 A1) (Aw (gK (h.b 0 0) (h.mb 1 1)) A1))
 have D:yN (some (s2 N t 2 j)) (some (s2 N t 2 2))=some (s3 2 j):=by
  rw[KO (k j) (k 2) h.p2.2 A1 A1];congr 1;have :=h.p2.2;unfold s3;by_cases v:j=2
  . grind
  rw[if_neg (Ne.symm v)]
  have :s2 N t 2 j=0:=by
   unfold s2
   grind
  grind
 have d:Bq (s3 2 j) 0 0:=by
  unfold s3;split
  . exact .one _ _
  exact .z _ _
 have val:i≠2->s2 N t i j -s2 N t i 2*s3 2 j=s3 i j:=fun c=>by
  have r:((0:Int):Rat)=0:=rfl;by_cases v:j=2
  . subst v;unfold s3
    grind
  have C:s3 2 j=0:=by unfold s3;grind
  rw[C,Rat.mul_zero,Rat.sub_eq_add_neg,Rat.neg_zero,Rat.add_zero];unfold s2 s3;obtain rfl|rfl:i=0\/i=1:=by omega
  . obtain rfl|rfl:j=0\/j=1:=by omega
    . rw[if_pos rfl,ow,Fu,Int.sub_zero,Rat.intCast_mul]
      grind
    grind
  rw[if_pos rfl];obtain rfl|rfl:j=0\/j=1:=by omega
  . rw[if_neg A1,ow,r,Rat.div_def,Rat.zero_mul]
  grind
 unfold qx;by_cases c:i=2
 . grind
 rw[if_neg c,<-val c];by_cases s:s2 N t i 2=0
 . exact ZbQ
 rw[if_neg (fun e=>s (jk.1 e)),D,qX (f c 2) d A1 A1,RP (f c j) ((f c 2).mul d) A1 A1 A1]
def sk(N:Nat->Nat->Int)(t:Rat):Nat->Nat->Nat->Rat
 |0=>s0 N t
 |1=>s1 N t
 |2=>s2 N t
 |_=>s3
theorem Ps.bSf(h:Ps N t){k i j:Nat}(E:k<3)(F:i<3)(Y:j<3):qx k (fun i j=>some (sk N t k i j)) i j=some (sk N t (k+1) i j):=
 match k,E with
 |0,_=>h.bSc
 |1,_=>h.bSd F Y
 |2,_=>h.bSe F Y
theorem Ps.bk(h:Ps N t){k:Nat}(i j:Nat):tP (sk N t k i j):=by
 match k with
 |0=>exact(h.b0 i j).fit A1 A1
 |1=>exact(h.b1 i j).fit A1 A1
 |2=>exact(h.b2 i j).fit A1 A1
 |n+3=>show tP (s3 i j);unfold s3;split<;>decide
theorem Ps.pk(h:Ps N t){k:Nat}(E:k<3):sk N t k k k≠0:=by
 match k,E with
 |0,_=>
  have O:=h.n1;have l:t≠0:=fun e=>absurd h.t0 (by grind)
  exact fun e=>by rcases Rat.mul_eq_zero.1 (show t*(N 0 0:Rat)=0 from e) with e|e<;>simp_all
 |1,_=>exact h.p1
 |2,_=>exact h.p2.2
def dk(N:Nat->Nat->Int)(t:Rat):Nat->Rat
 |0=>1
 |1=>t*N 0 0
 |2=>t*t*mm N 1 1
 |_=>t*t*t*dtN N
theorem Ps.bDy(h:Ps N t){k:Nat}(E:k<3):nX (some (dk N t k)) (some (sk N t k k k))=some (dk N t (k+1)):=by
 have O:=h.n1;have Z:=h.n2;have g:=Qx (show N 0 0≠0 by omega);have n1:=Qx (show mm N 1 1≠0 by omega)
 match k,E with
 |0,_=>show nX (some 1) (some (s0 N t 0 0))=some (t*N 0 0);rw[qX (.one 0 0) (h.b0 0 0) A1 A1,Rat.one_mul];rfl
 |1,_=>
  show nX (some (s0 N t 0 0)) (some (s1 N t 1 1))=some (t*t*mm N 1 1);rw[qX (h.b0 0 0) (h.b1 1 1) A1 A1];unfold s0 s1
  grind
 |2,_=>
  show nX (some (t*t*mm N 1 1)) (some (s2 N t 2 2))=some (t*t*t*dtN N);have e:=h.p2.1;have b:=Bq.tm h (show mm N 1 1≠0 by omega) h.db (h.mb 1 1);rw[e,qX ((h.bt.mul h.bt).mul (.int (h.mb 1 1))) b A1 A1]
  grind
theorem Ps.aYw(h:Ps N t){k:Nat}(E:k<4):0<dk N t k/\tP (dk N t k):=by
 have a:∀z:Int,0<z->(0:Rat)<z:=fun z s=>by simpa using Rat.intCast_lt_intCast.2 s
 have b:=Rat.mul_pos h.t0 h.t0
 match k,E with
 |0,_=>exact⟨show(0:Rat)<1 by decide,show tP 1 by decide⟩
 |1,_=>exact⟨Rat.mul_pos h.t0 (a _ h.n1),(h.b0 0 0).fit A1 A1⟩
 |2,_=>exact⟨Rat.mul_pos b (a _ h.n2),((h.bt.mul h.bt).mul (.int (h.mb 1 1))).fit A1 A1⟩
 |3,_=>exact⟨Rat.mul_pos (Rat.mul_pos b h.t0) (a _ h.n3),(((h.bt.mul h.bt).mul h.bt).mul (.int h.db)).fit A1 A1⟩
end
theorem aQv{ls:List (List aH.V)}(h:Bp ls){k:Int}(d:0<k)(E:k.natAbs<=2^10):Ps (NB ls) (((6*k:Int):Rat) / ((120*VB ls:Int):Rat))/\∀p,OU ls (some (k:Rat)) p=some (((6*k:Int):Rat) / ((120*VB ls:Int):Rat)*IB ls p):=by
 obtain⟨J,l,m⟩:=ry h;have b:=Od ls (i:=0) (k:=1) A1 A1;have e:=Od ls (i:=0) (k:=2) A1 A1;have c:=Od ls (i:=1) (k:=2) A1 A1;obtain⟨R,Y,a⟩:=minors (aKg h);have w:(6*k).natAbs<=2^13:=by omega
 have M:(120*VB ls).natAbs<=2^61:=by omega
 refine⟨⟨R,?_,?_,?_,.IT A0 w M,fun i j=>(VL h (3*i+j)).2⟩,fun p=>?_⟩
 . simp_all[mm,b]
 . simp_all[dtN,b,e,c]
 . have a1:(0:Rat)<((6*k:Int):Rat):=by simpa using Rat.intCast_lt_intCast.2 (show(0:Int)<6*k by omega)
   have y:(0:Rat)<((120*VB ls:Int):Rat):=(by simpa using Rat.intCast_lt_intCast.2 (show(0:Int)<120*VB ls by omega));exact Rat.mul_pos a1 (Rat.inv_pos.2 y)
 rw[(qV h E p).1]
 grind
end
end Go.Proofs.YtogfcjbgeebfkaaGreatDoor
namespace Go.Proofs.YtogfcjbgeebfkaaGreatDoor
open Go Go.Av
def aXv:{x:CC // xT Tryz.prog gv false Tryz.f295=some x}:=⟨
 ⟨124,[],.seq (.ops [⟨(some 13),.xM 2 (.tmp 1),none⟩,⟨(some 14),.load false 1 (.tmp 13),none⟩,⟨(some 15),.xM 1 (.tmp 1),none⟩,⟨(some 16),.load false 1 (.tmp 15),none⟩,⟨(some 17),.VO (.const (.int .i64 1)) (.tmp 16),none⟩,⟨(some 18),.call (.const (.func (.func 297) [] [])) [(.tmp 14),(.tmp 17)],none⟩,⟨(some 19),.call (.const
   (.func (.func 296) [] [])) [(.tmp 18)],none⟩,⟨(some 3),.alloc [.bG],none⟩,⟨none,.store 1 (.tmp 3) (.tmp 19),none⟩]) (.seq (.ops [⟨(some 4),.alloc [.int .i64 0],none⟩,⟨none,.store 1 (.tmp 4) (.const (.int .i64 0)),none⟩]) (.seq (.ops [⟨(some 5),.alloc [.int .i64 0],none⟩,⟨none,.store 1 (.tmp 5) (.const (.int .i64 0)),none⟩]) (.block 0 (.loop
   (.seq (.seq (.ops [⟨(some 20),.load false 1 (.tmp 5),none⟩,⟨(some 21),.xM 1 (.tmp 1),none⟩,⟨(some 22),.load false 1 (.tmp 21),none⟩,⟨(some 23),.bin .lss (.tmp 20) (.tmp 22),none⟩,⟨(some 24),.mO (.tmp 23),none⟩,⟨(some 25),.load false 1 (.tmp 4),some (24,true)⟩,⟨(some 26),.xM 0 (.tmp 1),some (24,true)⟩,⟨(some 27),.load false 1 (.tmp 26),some (24,true)⟩,⟨(some 28),
   .bin .lss (.tmp 25) (.tmp 27),some (24,true)⟩,⟨(some 29),.pick (.tmp 24) (.tmp 28) (.const (.bool false)),none⟩]) (.cond (.tmp 29) (.skip) (.exit 0))) (.seq (.block 1 (.seq (.draw [⟨(some 32),.load false 1 (.tmp 4),none⟩,⟨(some 33),.load false 1 (.tmp 3),none⟩,⟨(some 34),.load false 1 (.tmp 4),none⟩,⟨(some 35),.Yi 1 (.tmp 33) (some (.tmp 34)) none none,none⟩,⟨(some 36),.SE
   (.func 299) [] [(.tmp 5)],none⟩,⟨(some 37),.call (.const (.func (.func 298) [] [])) [(.tmp 35),(.tmp 36)],none⟩,⟨(some 38),.bin .add (.tmp 32) (.tmp 37),none⟩,⟨(some 6),.mO (.tmp 38),none⟩] [(0,5)]) (.seq (.seq (.ops [⟨(some 39),.mO (.tmp 6),none⟩,⟨(some 40),.load false 1 (.tmp 4),none⟩,⟨(some 41),.bin
   .lss (.tmp 39) (.tmp 40),none⟩]) (.cond (.tmp 41) (.exit 1) (.skip))) (.seq (.seq (.ops [⟨(some 42),.xM 1 (.tmp 1),none⟩,⟨(some 43),.load false 1 (.tmp 42),none⟩,⟨(some 44),.mO (.const (.int .i64 0)),none⟩]) (.block 2 (.loop (.seq (.ops [⟨(some 45),.bin .lss (.tmp 44) (.tmp 43),none⟩]) (.seq (.cond (.tmp 45) (.skip) (.exit 2)) (.seq (.block 3 (.seq (.ops [⟨(some 46),.mO (.tmp
   44),none⟩,⟨(some 7),.mO (.tmp 46),none⟩]) (.draw [⟨(some 47),.load false 1 (.tmp 3),none⟩,⟨(some 48),.mO (.tmp 6),none⟩,⟨(some 49),.rH none 1 (.tmp 47) (.tmp 48),none⟩,⟨(some 50),.load false 1 (.tmp 49),none⟩,⟨(some 51),.mO (.tmp 7),none⟩,⟨(some 52),.load false 1 (.tmp 3),none⟩,⟨(some 53),.load false 1 (.tmp 4),none⟩,⟨(some 54),.rH none 1 (.tmp 52) (.tmp 53),
   none⟩,⟨(some 55),.load false 1 (.tmp 54),none⟩,⟨(some 56),.mO (.tmp 7),none⟩,⟨(some 57),.load false 1 (.tmp 3),none⟩,⟨(some 58),.load false 1 (.tmp 4),none⟩,⟨(some 59),.rH none 1 (.tmp 57) (.tmp 58),none⟩,⟨(some 60),.load false 1 (.tmp 59),none⟩,⟨(some 61),.mO (.tmp 7),none⟩,⟨(some 62),.rH none 36 (.tmp 60) (.tmp 61),none⟩,⟨(some 63),.load true 36 (.tmp 62),
   none⟩,⟨(some 64),.load false 1 (.tmp 3),none⟩,⟨(some 65),.mO (.tmp 6),none⟩,⟨(some 66),.rH none 1 (.tmp 64) (.tmp 65),none⟩,⟨(some 67),.load false 1 (.tmp 66),none⟩,⟨(some 68),.mO (.tmp 7),none⟩,⟨(some 69),.rH none 36 (.tmp 67) (.tmp 68),none⟩,⟨(some 70),.load true 36 (.tmp 69),none⟩,⟨(some 71),.rH none 36 (.tmp 50) (.tmp 51),none⟩,⟨none,.store 36 (.tmp 71)
   (.tmp 63),none⟩,⟨(some 72),.rH none 36 (.tmp 55) (.tmp 56),none⟩,⟨none,.store 36 (.tmp 72) (.tmp 70),none⟩] []))) (.ops [⟨(some 73),.bin .add (.tmp 44) (.const (.int .i64 1)),none⟩,⟨(some 44),.mO (.tmp 73),none⟩]))))))) (.seq (.draw [⟨(some 74),.load false 1 (.tmp 5),none⟩,⟨(some 75),.load false 1 (.tmp 3),none⟩,⟨(some 76),.load false 1 (.tmp 4),none⟩,⟨(some 77),.rH
   none 1 (.tmp 75) (.tmp 76),none⟩,⟨(some 78),.load false 1 (.tmp 77),none⟩,⟨(some 79),.load false 1 (.tmp 5),none⟩,⟨(some 80),.rH none 36 (.tmp 78) (.tmp 79),none⟩,⟨(some 81),.load true 36 (.tmp 80),none⟩,⟨(some 82),.mO (.tmp 6),none⟩,⟨(some 83),.load false 1 (.tmp 4),none⟩,⟨(some 84),.bin .neq (.tmp 82) (.tmp 83),none⟩,⟨(some 85),.build [.int .i64 0,.bool false,
   .bool false,.int .u32 0,.int .u32 0,.int .u32 0,.int .u32 0,.int .u32 0,.int .u32 0,.int .u32 0,.int .u32 0,.int .u32 0,.int .u32 0,.int .u32 0,.int .u32 0,.int .u32 0,.int .u32 0,.int .u32 0,.int .u32 0,.bool false,.bool false,.int .u32 0,.int .u32 0,.int .u32 0,.int .u32 0,.int .u32 0,.int .u32 0,.int .u32 0,.int .u32 0,.int .u32 0,.int .u32 0,.int .u32 0,.int
   .u32 0,.int .u32 0,.int .u32 0,.int .u32 0,.int .u32 0,.bool false] [(0,1,(.tmp 74)),(1,36,(.tmp 81)),(37,1,(.tmp 84))],none⟩,⟨(some 8),.alloc [.int .i64 0,.bool false,.bool false,.int .u32 0,.int .u32 0,.int .u32 0,.int .u32 0,.int .u32 0,.int .u32 0,.int .u32 0,.int .u32 0,.int .u32 0,.int .u32 0,.int .u32 0,.int .u32 0,.int .u32 0,.int .u32 0,.int .u32 0,
   .int .u32 0,.bool false,.bool false,.int .u32 0,.int .u32 0,.int .u32 0,.int .u32 0,.int .u32 0,.int .u32 0,.int .u32 0,.int .u32 0,.int .u32 0,.int .u32 0,.int .u32 0,.int .u32 0,.int .u32 0,.int .u32 0,.int .u32 0,.int .u32 0,.bool false],none⟩,⟨none,.store 38 (.tmp 8) (.tmp 85),none⟩] []) (.seq (.ops [⟨(some 9),.mO (.const (.func (.func 300) [] [])),
   none⟩]) (.seq (.ops [⟨(some 86),.mO (.tmp 9),none⟩,⟨(some 87),.load false 1 (.tmp 3),none⟩,⟨(some 88),.load false 1 (.tmp 4),none⟩,⟨(some 89),.rH none 1 (.tmp 87) (.tmp 88),none⟩,⟨(some 90),.load false 1 (.tmp 89),none⟩,⟨(some 91),.SE (.func 301) [] [(.tmp 3),(.tmp 4),(.tmp 8)],none⟩,⟨(some 92),.call (.tmp 86) [(.tmp 90),(.tmp 91)],none⟩]) (.seq (.seq
   (.ops [⟨(some 93),.load false 1 (.tmp 3),none⟩,⟨(some 94),.QT (.tmp 93),none⟩,⟨(some 95),.mO (.const (.int .i64 0)),none⟩]) (.block 4 (.loop (.seq (.ops [⟨(some 96),.bin .lss (.tmp 95) (.tmp 94),none⟩]) (.seq (.cond (.tmp 96) (.skip) (.exit 4)) (.seq (.block 5 (.seq (.ops [⟨(some 97),.mO (.tmp 95),none⟩,⟨(some 98),.rH none 1 (.tmp 93) (.tmp 95),none⟩,⟨(some 99),.load
   false 1 (.tmp 98),none⟩,⟨(some 11),.alloc [.bG],none⟩,⟨(some 10),.mO (.tmp 97),none⟩,⟨none,.store 1 (.tmp 11) (.tmp 99),none⟩]) (.seq (.ops [⟨(some 100),.load false 1 (.tmp 11),none⟩,⟨(some 101),.load false 1 (.tmp 5),none⟩,⟨(some 102),.rH none 36 (.tmp 100) (.tmp 101),none⟩,⟨(some 103),.load true 36 (.tmp 102),none⟩,⟨(some 12),.alloc HO,none⟩,⟨none,.store 36
   (.tmp 12) (.tmp 103),none⟩]) (.seq (.ops [⟨(some 104),.mO (.tmp 10),none⟩,⟨(some 105),.load false 1 (.tmp 4),none⟩,⟨(some 106),.bin .neq (.tmp 104) (.tmp 105),none⟩,⟨(some 107),.mO (.tmp 106),none⟩,⟨(some 108),.load true 36 (.tmp 12),some (107,true)⟩,⟨(some 109),.call (.const (.func (.func 111) [] [])) [(.tmp 108)],some (107,true)⟩,⟨(some 110),.bin .neq (.tmp
   109) (.const (.int .i64 0)),some (107,true)⟩,⟨(some 111),.pick (.tmp 107) (.tmp 110) (.const (.bool false)),none⟩]) (.cond (.tmp 111) (.ops [⟨(some 112),.mO (.tmp 9),none⟩,⟨(some 113),.load false 1 (.tmp 11),none⟩,⟨(some 114),.SE (.func 302) [] [(.tmp 11),(.tmp 12),(.tmp 3),(.tmp 4)],none⟩,⟨(some 115),.call (.tmp 112) [(.tmp 113),(.tmp 114)],none⟩])
   (.skip)))))) (.ops [⟨(some 116),.bin .add (.tmp 95) (.const (.int .i64 1)),none⟩,⟨(some 95),.mO (.tmp 116),none⟩]))))))) (.seq (.seq (.ops [⟨(some 117),.mO (.tmp 0),none⟩,⟨(some 118),.load true 38 (.tmp 8),none⟩,⟨(some 119),.call (.tmp 117) [(.tmp 118)],none⟩,⟨(some 120),.un .not (.tmp 119),none⟩]) (.cond (.tmp 120) (.ret) (.skip))) (.ops [⟨(some 121),.load false 1 (.tmp 4),
   none⟩,⟨(some 122),.bin .add (.tmp 121) (.const (.int .i64 1)),none⟩,⟨none,.store 1 (.tmp 4) (.tmp 122),none⟩])))))))))) (.seq (.seq (.ops [⟨(some 123),.load false 1 (.tmp 5),none⟩]) (.ops [⟨(some 5),.alloc [.int .i64 0],none⟩,⟨none,.store 1 (.tmp 5) (.tmp 123),none⟩])) (.ops [⟨(some 30),.load false 1 (.tmp 5),none⟩,⟨(some 31),.bin .add (.tmp 30) (.const (.int .i64 1)),none⟩,
   ⟨none,.store 1 (.tmp 5) (.tmp 31),none⟩]))))))))⟩,by kernel_rfl⟩
theorem bKe:gX Tryz.prog gv false 295 aXv.1:=dT Tryz.func295 (by kernel_rfl) aXv.2
end Go.Proofs.YtogfcjbgeebfkaaGreatDoor
namespace Go.Proofs.YtogfcjbgeebfkaaGreatDoor
open Go Go.Av Go.iW Go.aH
attribute [local congr] aZ aQ aR aL bD aU aS aG bE
attribute [local irreducible] FC bS eE
def Nu(k:Nat)(q:Option Rat):List AV:=.int .i64 k::(gL q++[.bool false])
def z38:List AV:=.int .i64 0::(HO++[.bool false])
theorem WD:[AV.int .i64 0,AV.bool false,.bool false,.int .u32 0,.int .u32 0,.int .u32 0,.int .u32 0,.int .u32 0,.int .u32 0,.int .u32 0,.int .u32 0,.int .u32 0,.int .u32 0,.int .u32 0,.int .u32 0,.int .u32 0,.int .u32 0,.int .u32 0,.int .u32 0,.bool false,.bool false,.int .u32 0,.int .u32 0,.int .u32 0,.int .u32 0,.int .u32 0,.int .u32 0,.int .u32 0,.int .u32 0,.int .u32 0,.int .u32 0,.int .u32 0,.int .u32 0,.int .u32 0,.int .u32 0,.int .u32 0,.int .u32 0,.bool false]=z38:=rfl
theorem PG:z38.length=38:=rfl
theorem Ov(k:Nat)(q:Option Rat):(Nu k q).length=38:=by rw[Nu,As,Aq,cZ];rfl
theorem bNm{v:List AV}(J:v.length=36):List.drop 1 z38=HO++[AV.bool false]/\(HO++[AV.bool false]).length=37/\List.drop 36 (HO++[AV.bool false])=[.bool false]/\(v++[AV.bool false]).length=37/\List.take 36 (v++[AV.bool false])=v/\List.drop 37 (v++[AV.bool false])=[]:=
 ⟨rfl,rfl,rfl,by rw[Aq,J];rfl,by rw[<-J,List.take_left],Bl (by rw[Aq,J];decide)⟩
theorem aHq(k:Nat)(q:Option Rat):List.take 37 (Nu k q)++[AV.bool false]=Nu k q:=by rw[Nu,Ft,show 36=(gL q).length from (cZ q).symm,List.take_left];rfl
theorem aDa{n i j:Nat}{x:Nat->Nat->Option Rat}(F:i<n)(Y:j<n):gH (mF (fl n x) (n*n)) (n*i*36+j*36) (gL (x i j))=mF (fl n x) (n*n):=by
 rw[kh F Y];congr 1;unfold fl;funext p;unfold ups;split
 . rename_i h;rw[h.1,h.2]
 rfl
def mix(k:Nat)(x y:Nat->Nat->Option Rat)(i p q:Nat):Option Rat:=if p<i\/p=k then y p q else x p q
theorem aGn{k i:Nat}{x y:Nat->Nat->Option Rat}(h:i≠k)(q:Nat):mix k x y i i q=x i q:=by unfold mix;rw[if_neg A0]
theorem bMe{k i:Nat}{x y:Nat->Nat->Option Rat}(q:Nat):mix k x y i k q=y k q:=by unfold mix;rw[if_pos (.inr rfl)]
theorem aGo{n k i:Nat}{x y:Nat->Nat->Option Rat}(h:i=k\/∀q,q<n->y i q=x i q):∀p q,p<n->q<n->mix k x y i p q=mix k x y (i+1) p q:=fun p q _ D=>by
 unfold mix;by_cases e:p=i
 . subst e
   rcases h with h|h
   . rw[if_pos (.inr h),if_pos (.inr h)]
   rw[if_pos (show p<p+1\/p=k from .inl A0),h q D];split<;>rfl
 exact Zcb
theorem aOa{n k i:Nat}{x y:Nat->Nat->Option Rat}{v:Nat->Option Rat}(J:∀q,q<n->v q=y i q):∀p q,p<n->q<n->(if p=i then v q else mix k x y i p q)=mix k x y (i+1) p q:=fun p q _ D=>by
 unfold mix;by_cases e:p=i
 . rw[if_pos e,if_pos (.inl A0),J q D,e]
 rw[if_neg e];exact Zcb
variable{H:aB}
theorem vW.congr{a n:Nat}{x y:Nat->Nat->Option Rat}(h:vW H a n x)(e:∀i j,i<n->j<n->x i j=y i j):vW H a n y:=by unfold vW at *;rw[h,SZ e]
theorem SP.set{a:Nat}{H':aB}(h:SP a H H')(o:eS):SP a H (H'.set a o):=⟨by rw[aB.bB];exact h.1,fun j O Z=>by rw[aB.aD,if_neg Z];exact h.2 j O Z⟩
theorem jn{n:Nat}(n1:0<n)(n3:n<=3){xs:Nat->Nat->Nat->Option Rat}(D:∀k i j,k<=n->i<n->j<n->lA (gL (xs k i j)) (xs k i j))
 (xR:∀k i j,k<n->i<n->j<n->qx k (xs k) i j=xs (k+1) i j) (MK:∀k,k<n->zX (xs k k k)≠0)
 {a id rm:Nat} {o:Bool} {H:aB} (ha:a<H.next) (c6:rm<H.next) (cU:rm≠a) (I:Nat->Nat->aB->Prop)
 (LP:∀r k H',I r k H'->H'.get rm=some (.cells [.int .i64 n,.int .i64 n,.sl a 36 0 (n*n) (n*n)] o))
 (mono:∀r k H1 H2,I r k H1->H1.next<=H2.next->(∀j,j<H1.next->j≠a->j≠r->H2.get j=H1.get j)->I r k H2)
 (eX:∀r k,k<n->∀H1,I r k H1->aY H1->H.next<=r->r<H1.next->vW H1 a n (xs (k+1))->∃H2,mS Tryz.prog gv id [.agg (Nu k (xs k k k))] H1 (.ret (.bool true)) H2/\I r (k+1) H2/\H1.next<=H2.next/\aY H2/\vW H2 a n (xs (k+1))/\∀j,H.next<=j->j<H1.next->H1.get j≠some .tok->H2.get j=H1.get j)
 (h0:∀r,H.next<=r->I r 0 H) (hA:vW H a n (xs 0)) (hF:aY H):
 ∃r H',H.next<=r/\I r n H'/\aY H'/\vW H' a n (xs n)/\Sg 295 [.yield id,.ref rm 0] H (.ret (.iV [])) H':=by
 suffices h:∃out H',(out=.ret (.iV [])/\∃r,H.next<=r/\I r n H'/\aY H'/\vW H' a n (xs n))/\Sg 295 [.yield id,.ref rm 0] H out H' by obtain⟨_,H',⟨rfl,r,O,h2,h3,h4⟩,hS⟩:=h;exact⟨r,H',O,h2,h3,h4,hS⟩
 refine bZ fit bKe (Ab rfl) ?_;unfold aXv;dsimp only;simp only[WD];have n9:=Lz n3;have gm:=LP _ 0 H (h0 _ (Ad _));have m1:(if(1:Int)<(n:Int) then(n:Int) else 1)=(n:Int):=by split<;>omega
 have S1:=aDi (a:=a) n1 H;generalize hX:(H.alloc (.cells [.sl a 36 0 (n*n) (n*n)] false)).alloc (.cells [.int .i64 n] false)=Q at S1;have x2:Q.get H.next=some (.cells [.sl a 36 0 (n*n) (n*n)] false):=by subst hX;rw[aB.aJ,if_neg Zal,aB.aJ,if_pos rfl]
 have x3:Q.get (H.next+1)=some (.cells [.int .i64 n] false):=by subst hX;rw[aB.aJ,if_pos (by simp only[aB.bJ])]
 have xn:Q.next=H.next+2:=by subst hX;simp only[aB.bJ]
 have xO:Over H Q:=by subst hX;exact((Over.refl H).alloc _).alloc _
 have xF:aY Q:=by subst hX;exact(hF.alloc _).alloc _
 clear hX;obtain⟨HY,t,yO,yF,y1,y2,y3,S2⟩:=aMc n1 n3 (a:=a) A0 A0 x2 x3 xF;have hO:Over H HY:=⟨Aw xO.le yO.le,fun j Y=>(yO.same j (Au Y xO.le)).trans (xO.same j Y)⟩;refine aP fun K hK=>?_;simp only[↓zP,zG,seval,zI,gm,m1];refine eI (S1) ?_;refine eI (S2) ?_;simp only[↓zP,zG,seval,zI];apply hK;clear hK K;refine aP fun K hK=>?_;simp only[↓zP,zG,seval,zI];apply hK;clear hK K;refine aP fun K hK=>?_;simp only[↓zP,zG,seval,zI];apply hK;clear hK K;generalize hX:aB.set _ _ _=HB;obtain⟨r3,ab⟩:∃r3,r3=HY.next:=⟨_,rfl⟩;obtain⟨r4,ae⟩:∃r4,r4=r3+1:=⟨_,rfl⟩;have c5:=hO.le;have b3:HB.get r3=some (.cells [.bK (t+2) 1 (Ow a n)] false):=by subst hX;subst ab;simp only[zI,seval];rw[if_neg A0,if_neg A0,if_neg A0,if_neg A0]
 have b4:HB.get r4=some (.cells [.int .i64 0] false):=by subst hX;subst ae;subst ab;simp only[zI,seval];rw[if_neg A0,if_neg A0]
 have b5:HB.get (r4+1)=some (.cells [.int .i64 0] false):=by subst hX;subst ae;subst ab;simp only[zI,seval]
 have bn:HB.next=r4+2:=by subst hX;subst ae;subst ab;simp only[zI,seval]
 have bO:Over H HB:=⟨by omega,fun j Y=>by
  have TN:j<HY.next:=by omega
  subst hX;refine Tv ?_;rw[if_neg A0,if_neg A0,if_neg A0,if_neg A0,if_neg A0,if_neg A0]
  exact hO.same j Y⟩
 have bF:aY HB:=by subst hX;exact(((((yF.alloc _).set Zah _).alloc _).set Zah _).alloc _).set Zah _
 clear hX;have bA:=hA.over bO ha;have bI:I r4 0 HB:=mono _ _ _ _ (h0 r4 A0) bO.le fun j Y _ _=>bO.same j Y;refine UI (id:=0) (c:=29) (fun k f H'=>f 0=.yield id/\f 1=.ref rm 0/\f 3=.ref r3 0/\f 4=.ref r4 0/\∃M,f 5=.ref M 0/\r4<M/\M<H'.next/\H'.get M=some (.cells [.int .i64 k] false)/\H'.get r4=some (.cells [.int .i64 k] false)/\H'.get r3=some (.cells [.bK (t+2) 1 (Ow a n)] false)/\I r4 k H'/\vW H' a n (xs k)/\aY H') n ?_ ?_ ?_ ?_
 . refine⟨by simp only[zB,seval,dY,Ce],by simp only[zB,seval,dY,Ce,Ed],by simp only[zB,seval,ab],by simp only[zB,seval,ab,ae],r4+1,by simp only[zB,seval,ab,ae],by omega,by omega,b5,b4,b3,bI,bA,bF⟩
 . rintro k f H1 E ⟨f0,u,S,l,M,s,aq,ag,A,R,U,gI,gA,gF⟩ K hK Q';have gm:=LP _ _ _ gI;by_cases eZ:k<n
   . have d1:decide ((k:Int)<(n:Int))=true:=Af A0;simp only[↓zP,zG,seval,zI,u,l,s,R,A,gm,d1];exact⟨trivial,trivial,hK _ (by simp only[zB,seval];rw[Af eZ]) ⟨by simp only[zB,seval];exact f0,by simp only[zB,seval];exact u,by simp only[zB,seval];exact S,by simp only[zB,seval];exact l,M,by simp only[zB,seval];exact s,aq,ag,A,R,U,gI,gA,gF⟩⟩
   have d1:decide ((k:Int)<(n:Int))=false:=Ac A0;simp only[↓zP,zG,seval,zI,u,s,A,gm,d1];exact⟨trivial,trivial,hK _ (by simp only[zB,seval];rw[Ac eZ]) ⟨by simp only[zB,seval];exact f0,by simp only[zB,seval];exact u,by simp only[zB,seval];exact S,by simp only[zB,seval];exact l,M,by simp only[zB,seval];exact s,aq,ag,A,R,U,gI,gA,gF⟩⟩
 . rintro k f H1 E ⟨f0,u,S,l,M,s,aq,ag,A,R,U,gI,gA,gF⟩;have gm:=LP _ _ _ gI;have ad:∀i j,i<n->j<n->lA (gL (xs k i j)) (xs k i j):=fun i j F Y=>D k i j A0 F Y;have bx:a<H1.next:=by omega
   have a6:r3≠a:=A0;have a7:r4≠a:=A0;have az:M≠a:=A0;have Mk:=Vm a n;have ak:(Ow a n).getD k []=[.sl a 36 (n*k*36) n n]:=Ox a E;have ix:=aNl (tag:=t+2) (els:=(Ow a n).drop k) (i:=k) (by rw[show [JX a n k]=(Ow a n).getD k [] from ak.symm];simp[List.getD]) (by rw[Hi,Mk];omega) (by rw[Hi,Mk];omega) E E (ad k k E E) (MK k E) gA A
   have s1:nA 1 (.bK (t+2) 1 (Ow a n)) (some k) none none=some (.bK (t+2) 1 ((Ow a n).drop k)):=by simp only[nA,By,Du];rw[if_pos ⟨trivial,by omega,Ad _⟩,if_pos ⟨trivial,.inl A0⟩]
   have w1:IntKind.i64.wrap ((k:Int)+0)=(k:Int):=wI A0;have d1:decide ((k:Int)<(k:Int))=false:=Ac A0;refine aM ?_;refine aP fun K hK=>?_;refine Dz ?_;simp only[↓zP,zG,seval,zD,zI,S,l,s,U,R,eD,aI,s1,Ci];refine gV (ix) ?_;simp only[↓zP,zG,seval,zD,zI,w1];apply hK;clear hK K;refine aP fun K hK=>?_;simp only[↓zP,zG,seval,zI,l,R,d1];apply hK;clear hK K;refine cC fun g d=>?_;have q0:=Ks d f0;have q1:=Ks d u;have q3:=Ks d S;have q4:=Ks d l;have q5:=Ks d s;have q6:g 6=.int .i64 k:=(by subst d;simp only[zB,seval]);clear d f0 u S l s ix;refine aP fun K hK=>?_;refine aP fun L dJ=>?_;simp only[↓zP,zG,seval,zI,q1,gm];apply dJ;clear dJ L;refine bR [] (fun j _ H'=>SP a H1 H'/\vW H' a n (xs k)/\aY H') n A0 A1 ?_ ?_ ?_ ?_ ?_
   . exact zq
   . exact zq
   . exact⟨.refl _ _,gA,gF⟩
   . rintro j V H2 Y GW T ⟨m,u2,u3⟩;have P:V 3=.ref r3 0:=(by rw[GW 3 rfl];simp only[zB,seval];exact q3);have X:V 4=.ref r4 0:=(by rw[GW 4 rfl];simp only[zB,seval];exact q4);have p6:V 6=.int .i64 k:=(by rw[GW 6 rfl];simp only[zB,seval];exact q6);have v3:=(m.2 r3 A0 a6).trans U;have v4:=(m.2 r4 A0 a7).trans R;have e2:=IH (x:=xs k) E Y;have e3:=CP (x:=xs k) E Y;have e4:=aDa (x:=xs k) E Y;have Z:=cZ (xs k k j);have y:=u2;unfold gH at e4;rw[Z] at e4;unfold vW at y;unfold vW;generalize mF (fl n (xs k)) (n*n)=cs at *;generalize n*k*36=off at *;generalize Ow a n=els at *;refine aM ?_;refine aP fun L dJ=>?_;simp only[↓zP,zG,seval,T];apply dJ;clear dJ L;refine Dz ?_;simp only[↓zP,zG,seval,zD,zI,P,X,p6,v3,v4,aI,Mk,E,Y,ak,y,e2,e3,e4,Z];have an:a<H2.next:=Au bx m.1;exact⟨(m.set _).set _,(u3.set an _).set (by rw[aB.bB];exact an) _⟩
   rintro V H2 GW ⟨m,u2,u3⟩;have J:V 0=.yield id:=(by rw[GW 0 rfl];simp only[zB,seval];exact q0);have p1:V 1=.ref rm 0:=(by rw[GW 1 rfl];simp only[zB,seval];exact q1);have P:V 3=.ref r3 0:=(by rw[GW 3 rfl];simp only[zB,seval];exact q3);have X:V 4=.ref r4 0:=(by rw[GW 4 rfl];simp only[zB,seval];exact q4);have B:V 5=.ref M 0:=(by rw[GW 5 rfl];simp only[zB,seval];exact q5);have p6:V 6=.int .i64 k:=(by rw[GW 6 rfl];simp only[zB,seval];exact q6);clear GW q0 q1 q3 q4 q5 q6;refine Tx ?_;apply hK;clear hK K;have v3:=(m.2 r3 A0 a6).trans U;have v4:=(m.2 r4 A0 a7).trans R;have C:=(m.2 M ag az).trans A;have OQ:=m.1;have i2:I r4 k H2:=mono _ _ _ _ gI m.1 fun j O h2 _=>m.2 j O h2;have an:a<H2.next:=A0;clear U R A gA gI gF gm;have e2:=IH (x:=xs k) E E;have e3:=CP (x:=xs k) E E;have Z:=cZ (xs k k k);have y:=u2;unfold vW at y;have d2:((k:Int) != (k:Int))=false:=A3;refine aP fun K hK=>?_;refine fZ 1 A1 u3.at1 fun HC nC eC=>?_;have bs:(AV.int .i64 k::(gL (xs k k k)++[AV.bool false]))=Nu k (xs k k k):=rfl;have fw:=Ov k (xs k k k);simp only[↓zP,zG,seval,zD,zI,P,X,B,p6,eC,v3,v4,C,aI,Mk,E,ak,y,e2,e3,Z,d2,bNm Z,bs,fw,oL fw,aHq,oL PG];apply hK;clear hK K;generalize hX:aB.set _ H2.next (eS.cells (Nu k (xs k k k)) false)=HD;obtain⟨r8,W⟩:∃r8,r8=H2.next:=⟨_,rfl⟩;have dn:HD.next=r8+1:=(by subst hX;subst W;simp only[zI,seval,nC]);have dO:Over H2 HD:=⟨by omega,fun j Y=>by subst hX;simp only[zI,seval];rw[if_neg A0,if_neg A0,eC]⟩
   have dF:aY HD:=by
    subst hX;have bt:aY HC:=fun q D=>by rw[eC q];exact u3 q A0
    exact(bt.set A0 _).set Zah _
   have d8:HD.get r8=some (.cells (Nu k (xs k k k)) false):=(by subst hX;subst W;rw[aB.aD,if_pos rfl]);clear hX nC eC HC;have dA:=u2.over dO an;have x3:=(dO.same r3 A0).trans v3;have x4:=(dO.same r4 A0).trans v4;have x5:=(dO.same M A0).trans C;have iD:I r4 k HD:=mono _ _ _ _ i2 dO.le fun j O _ _=>dO.same j O;refine cC fun g d=>?_;have q0:=Ks d J;have q1:=Ks d p1;have q3:=Ks d P;have q4:=Ks d X;have q5:=Ks d B;have q8:g 8=.ref r8 0:=(by subst d;simp only[zB,seval,W]);clear d J p1 P X B p6;have bj:∀(v:Nat->Option Rat) (i j:Nat),UY (xs k) i v j i j=xs k i j:=fun v i j=>by unfold UY;rw[if_neg A0]
   obtain⟨H3,S3,bp,aA,aF⟩:=Se (v:=fun q=>yN (xs k k q) (xs k k k)) (fid:=301) (cs:=[.ref r3 0,.ref r4 0,.ref r8 0]) E n3 A0 dA dF (fun j Y UP bb cA cF=>by
    have bn:=bb.1;have :=aYv (r3:=r3) (r4:=r4) (r8:=r8) (t:=t+2) (p:=xs k k k) (kk:=.int .i64 k) (b:=false) E Y (by rw[bj];exact ad k j E Y) (ad k k E E) A0 A0 A0 A0 cA ((bb.2 r3 A0 a6).trans x3) ((bb.2 r4 A0 a7).trans x4) ((bb.2 r8 A0 A0).trans d8) cF
    rwa [bj] at this)
   have mA:vW H3 a n (mix k (xs k) (xs (k+1)) 0):=aA.congr fun i j F Y=>by
    have :=xR k k j E E Y;unfold qx at this;rw[if_pos rfl] at this;unfold mix;by_cases e:i=k
    . rw[if_pos e,if_pos (.inr e),e,this]
    rw[if_neg e,if_neg A0]
   clear aA;refine aP fun K hK=>?_;refine Tz ?_;apply hK;clear hK K;refine aP fun K hK=>?_;simp only[↓zP,zG,seval,zI,q3,q4,q8,x3,x4,aI,Mk,E,ak];refine nM A1 (fs:=[]) (cs:=[]) (fid:=300) zq (by simp only[Bw,Er,zB,seval,Cw,Bx];rfl) S3 ?_;refine Tx ?_;apply hK;clear hK K S3;refine cC fun f N=>?_;have f0:=Ks N q0;have u:=Ks N q1;have S:=Ks N q3;have l:=Ks N q4;have s:=Ks N q5;have z:=Ks N q8;have f9:f 9=.func (.func 300) [] []:=(by subst N;simp only[zB,seval]);clear N q0 q1 q3 q4 q5 q8;have y3:=(bp.2 r3 A0 a6).trans x3;refine aP fun K hK=>?_;refine aP fun L dJ=>?_;simp only[↓zP,zG,seval,zI,S,y3,Mk];apply dJ;clear dJ L;refine bR [] (fun i _ H'=>SP a HD H'/\vW H' a n (mix k (xs k) (xs (k+1)) i)/\aY H') n A0 A1 ?_ ?_ ?_ ?_ ?_
   . exact zq
   . exact zq
   . exact⟨bp,mA,aF⟩
   . rintro i V G F GW T ⟨jx,ay,ar⟩;have P:V 3=.ref r3 0:=(by rw[GW 3 rfl];simp only[zB,seval];exact S);have X:V 4=.ref r4 0:=(by rw[GW 4 rfl];simp only[zB,seval];exact l);have B:V 5=.ref M 0:=(by rw[GW 5 rfl];simp only[zB,seval];exact s);have p9:V 9=.func (.func 300) [] []:=(by rw[GW 9 rfl];simp only[zB,seval];exact f9);have ba:V 93=.bK (t+2) 1 (Ow a n):=GW 93 rfl;clear GW;have v3:=(jx.2 r3 A0 a6).trans x3;have v4:=(jx.2 r4 A0 a7).trans x4;have C:=(jx.2 M A0 az).trans x5;have cb:=jx.1;have bu:(Ow a n).getD i []=[.sl a 36 (n*i*36) n n]:=Ox a F;refine aM ?_;refine aP fun L dJ=>?_;simp only[↓zP,zG,seval,zI,T,ba,aI,Mk,F,bu];apply dJ;clear dJ L;generalize hX:aB.set _ G.next _=HE;obtain⟨r11,b6⟩:∃r11,r11=G.next:=⟨_,rfl⟩;have en:HE.next=r11+1:=(by subst hX;subst b6;simp only[zI,seval]);have eO:Over G HE:=(by subst hX;exact((Over.refl G).alloc _).set (Ad _) _);have eF:aY HE:=(by subst hX;exact(ar.alloc _).set Zah _);have bm:HE.get r11=some (.cells [.sl a 36 (n*i*36) n n] false):=(by subst hX;subst b6;rw[aB.aD,if_pos rfl]);clear hX;have w5:=(eO.same M A0).trans C;have eA:=ay.over eO A0
     have iy:lA (gL (mix k (xs k) (xs (k+1)) i i k)) (mix k (xs k) (xs (k+1)) i i k):=by
      unfold mix;split
      . exact D (k+1) i k E F E
      exact ad i k F E
     have e2:=IH (x:=mix k (xs k) (xs (k+1)) i) F E;have e3:=CP (x:=mix k (xs k) (xs (k+1)) i) F E;have Z:=cZ (mix k (xs k) (xs (k+1)) i i k);have y:=eA;unfold vW at y;refine cC fun g d=>?_;have q3:=Ks d P;have q4:=Ks d X;have q5:=Ks d B;have q9:=Ks d p9;have b9:g 10=.int .i64 i:=(by subst d;simp only[zB,seval]);have aE:g 11=.ref r11 0:=(by subst d;simp only[zB,seval,b6]);clear d P X B p9 ba;refine aP fun L dJ=>?_;simp only[↓zP,zG,seval,zI,q5,aE,bm,w5,aI,E,y,e2,e3,Z,oL fV];apply dJ;clear dJ L;generalize hX:aB.set _ HE.next _=HG;obtain⟨r12,aO⟩:∃r12,r12=HE.next:=⟨_,rfl⟩;have gn:HG.next=r12+1:=(by subst hX;subst aO;simp only[zI,seval]);have gO:Over HE HG:=(by subst hX;exact((Over.refl HE).alloc _).set (Ad _) _);have gF:aY HG:=(by subst hX;exact(eF.alloc _).set Zah _);have aN:HG.get r12=some (.cells (gL (mix k (xs k) (xs (k+1)) i i k)) false):=(by subst hX;subst aO;rw[aB.aD,if_pos rfl]);clear hX;have bl:=(gO.same r11 A0).trans bm;have gA:=eA.over gO A0;have gB:SP a HD HG:=(jx.of eO).of gO;have cc:=gB.1;have z3:=(gB.2 r3 A0 a6).trans x3;have z4:=(gB.2 r4 A0 a7).trans x4;refine cC fun f N=>?_;have t3:=Ks N q3;have t4:=Ks N q4;have t9:=Ks N q9;have b8:=Ks N b9;have br:=Ks N aE;have b7:f 12=.ref r12 0:=(by subst N;simp only[zB,seval,aO]);clear N q3 q4 q5 q9 b9 aE
     have skip:∀{HZ:aB},HZ=HG->(i=k\/∀q,q<n->xs (k+1) i q=xs k i q)->SP a HD HZ/\vW HZ a n (mix k (xs k) (xs (k+1)) (i+1))/\aY HZ:=fun {HZ} O h2=>by subst O;exact⟨gB,gA.congr (aGo h2),gF⟩
     refine aP fun L dJ=>?_;by_cases af:i=k
     . have d3:((i:Int) != (k:Int))=false:=(by rw[af];simp);simp only[↓zP,zG,seval,zI,t4,b8,z4,d3];apply dJ;clear dJ L;refine Tz ?_;exact skip rfl (.inl af)
     have d3:((i:Int) != (k:Int))=true:=Zag;have sg:=Qv iy;rw[aGn af] at sg aN Z iy
     have bo:∀q,q<n->xs (k+1) i q=if zX (xs k i k)=0 then xs k i q else SN (xs k i q) (nX (xs k i k) (yN (xs k k q) (xs k k k))):=fun q OR=>by have :=xR k i q E F OR;unfold qx at this;rw[if_neg af] at this;exact this.symm
     simp only[↓zP,zG,seval,zI,t4,b8,b7,z4,d3,aN,Z,oL Z];refine eI (sg _) ?_;by_cases aj:zX (xs k i k)=0
     . have d4:(zX (xs k i k) != 0)=false:=(by rw[aj];rfl);simp only[↓zP,zG,seval,d4];apply dJ;clear dJ L;refine Tz ?_;exact skip rfl (.inr fun q OR=>by rw[bo q OR,if_pos aj])
     have d4:(zX (xs k i k) != 0)=true:=(by simpa using aj);simp only[↓zP,zG,seval,d4];apply dJ;clear dJ L;have bf:∀(v:Nat->Option Rat) (j:Nat),UY (mix k (xs k) (xs (k+1)) i) i v j i j=xs k i j:=fun v j=>by unfold UY;rw[if_neg A0,aGn af]
     have bc:∀(v:Nat->Option Rat) (j:Nat),UY (mix k (xs k) (xs (k+1)) i) i v j k j=xs (k+1) k j:=fun v j=>by unfold UY;rw[if_neg A0,bMe]
     obtain⟨H5,S5,bz,c4,c0⟩:=Se (v:=fun q=>SN (xs k i q) (nX (xs k i k) (xs (k+1) k q))) (fid:=302) (cs:=[.ref r11 0,.ref r12 0,.ref r3 0,.ref r4 0]) F n3 A0 gA gF (fun j Y UP bb cA cF=>by
      have bn:=bb.1;have :=bDh (r3:=r3) (r4:=r4) (r11:=r11) (r12:=r12) (t:=t+2) (w:=xs k i k) F E Y (by rw[bc];exact D (k+1) k j E E Y) (by rw[bf];exact ad i j F Y) iy A0 A0 A0 A0 A0 cA ((bb.2 r3 A0 a6).trans z3) ((bb.2 r4 A0 a7).trans z4) ((bb.2 r11 A0 A0).trans bl) ((bb.2 r12 A0 A0).trans aN) cF
      rwa [bf,bc] at this)
     simp only[↓zP,zG,seval,zI,t3,t4,t9,br,b7,bl];refine nM A1 (fs:=[]) (cs:=[]) (fid:=300) zq (by simp only[Bw,Er,zB,seval,Cw,Bx];rfl) S5 ?_;refine Tx ?_;refine⟨gB.trans bz,c4.congr (aOa fun q OR=>?_),c0⟩;have aK:=xR k k q E E OR;unfold qx at aK;rw[if_pos rfl] at aK;rw[bo q OR,if_neg aj,aK]
   rintro V H5 GW ⟨jx,ay,ar⟩;have J:V 0=.yield id:=(by rw[GW 0 rfl];simp only[zB,seval];exact f0);have p1:V 1=.ref rm 0:=(by rw[GW 1 rfl];simp only[zB,seval];exact u);have P:V 3=.ref r3 0:=(by rw[GW 3 rfl];simp only[zB,seval];exact S);have X:V 4=.ref r4 0:=(by rw[GW 4 rfl];simp only[zB,seval];exact l);have B:V 5=.ref M 0:=(by rw[GW 5 rfl];simp only[zB,seval];exact s);have p8:V 8=.ref r8 0:=(by rw[GW 8 rfl];simp only[zB,seval];exact z);clear GW f0 u S l s z f9;refine Tx ?_;apply hK;clear hK K;have ca:=jx.1;have v3:=(jx.2 r3 A0 a6).trans x3;have v4:=(jx.2 r4 A0 a7).trans x4;have C:=(jx.2 M A0 az).trans x5;have v8:=(jx.2 r8 A0 A0).trans d8;have i5:I r4 k H5:=mono _ _ _ _ iD jx.1 fun j O h2 _=>jx.2 j O h2;have A5:vW H5 a n (xs (k+1)):=ay.congr fun i j F Y=>by unfold mix;rw[if_pos (.inl F)]
   obtain⟨H6,hy,i6,c8,bG,bq,h6⟩:=eX r4 k E H5 i5 ar A0 A0 A5;have nt:∀j cs o,H5.get j=some (.cells cs o)->H5.get j≠some .tok:=fun j cs o h=>by rw[h];simp
   have y3:=(h6 r3 A0 A0 (nt _ _ _ v3)).trans v3;have y4:=(h6 r4 A0 A0 (nt _ _ _ v4)).trans v4;have y5:=(h6 M A0 A0 (nt _ _ _ C)).trans C;have fw:=Ov k (xs k k k);have w2:IntKind.i64.wrap ((k:Int)+1)=((k+1:Nat):Int):=wI A0;refine aP fun K hK=>?_;simp only[↓zP,zG,seval,zI,J,p8,v8,fw,oL fw];refine uN A1 zq (by simp only[Bw,Er,zB,seval]) hy ?_;simp only[↓zP,zG,seval,zI];apply hK;clear hK K;have n5:¬M=r4:=A0;have n6:¬H6.next=r4:=A0;simp only[↓zP,zG,seval,zI,X,B,y4,y5,w2,n5];refine⟨trivial,trivial,J,p1,P,trivial,H6.next,rfl,by omega,by omega,by rw[if_pos rfl],by rw[if_neg A0,if_neg A0,if_neg A0],by rw[if_neg A0,if_neg A0,if_neg A0,if_neg A0];exact y3,?_,?_,?_⟩
   . exact mono _ _ _ _ i6 Zah fun j O h2 h3=>by simp only[zI,seval];rw[if_neg A0,if_neg A0,if_neg A0,if_neg h3]
   . unfold vW at bq ⊢;refine Tv ?_;rw[if_neg A0,if_neg A0,if_neg A0,if_neg A0];exact bq
   exact(((bG.set A0 _).alloc _).set Zah _).set Zah _
 rintro f H1 ⟨f0,u,S,l,M,s,aq,ag,A,R,U,gI,gA,gF⟩;exact⟨rfl,[],rfl,rfl,r4,by omega,gI,gF,gA⟩
theorem PL.fl{n:Nat}{x:Nat->Nat->Option Rat}(h:∀i j,i<n->j<n->∃q,x i j=some q/\tP q):PL n (fl n x):=by
 have m:∀p,p<n*n->p / n<n/\p%n<n:=fun p m=>by
  have A:0<n:=by rcases Fy n with e|e;rw[e] at m;omega;exact e
  exact⟨Kh m,Bz _ A⟩
 refine⟨fun p M=>?_,?_⟩
 . obtain⟨q,e,N⟩:=h _ _ (m p M).1 (m p M).2;show lA (gL (x (p / n) (p%n))) (x (p / n) (p%n));rw[e];exact .enc N
 unfold Wl;refine Fp.2 fun p M=>?_;obtain⟨q,e,N⟩:=h _ _ (m p (Bb.1 M)).1 (m p (Bb.1 M)).2;show ¬(!(x (p / n) (p%n)).isSome)=true;rw[e];exact Bool.false_ne_true
theorem aEr{a n:Nat}(J:n<=3){x:Nat->Nat->Option Rat}(h:∀i j,i<n->j<n->∃q,x i j=some q/\tP q){H:aB}(b:vW H a n x):Sg 203 [.sl a 36 0 (n*n) (n*n)] H (.ret (.bool true)) H:=by
 have t:=PL.fl h;have L:=Lz J;refine Sound.snap dZ (args':=[.bK 0 36 (mR (fl n x) (n*n))]) (H2:=⟨0,.nil⟩) ?_ (by simp only[sf,pB]) ?_ (.inl (.inl rfl))
 . have R:H.eV a=some (mF (fl n x) (n*n)):=by unfold aB.eV;rw[b]
   have U:Nat.ble (0+n*n*36) (mF (fl n x) (n*n)).length=true:=(by rw[dm];exact Jy A0);have N:cP (mF (fl n x) (n*n))=true:=jH (pB _ _)
   have E:gE 36 (n*n) (mF (fl n x) (n*n))=mR (fl n x) (n*n):=by
    have :=AJ (Xw (fl n x) (n*n))
    rwa [jR] at this
   simp only[GI,kK,R,Eo,U,N,Dx,E]
 have :=QY t.1 A0 ⟨0,.nil⟩
 rwa [t.2] at this
theorem aLz{n:Nat}(n1:0<n)(J:n<=3)(x:Nat->Option Rat)(H:aB):Sg 262 [.bK 0 36 (mR x (n*n))] H (.ret (.sl H.next 36 0 (n*n) (n*n))) (H.alloc (.cells (mF x (n*n)) true)):=by
 have L:=Lz J;have a:=Hn n1 n1
 have s:(mR x (n*n)).isEmpty=false:=by
  cases h:mR x (n*n) with
  |nil=>have :=Al List.length h;rw[jR,Bo] at this;omega
  |cons _ _=>rfl
 have I:fM H 36 136 true (.bK 1 36 []) (mR x (n*n))=some (.sl H.next 36 0 (n*n) (n*n),H.alloc (.cells (mF x (n*n)) true)):=by
  have U:(0+(mR x (n*n)).length)*136<=2^40:=by rw[jR];omega
  simp only[fM,s,Bo,lE,Cw,jR,if_true,Db,Br];rw[if_pos ⟨trivial,by omega⟩];rfl
 obtain⟨_,H',⟨rfl,rfl⟩,w⟩:=bZ (R:=fun o H'=>o=.ret (.sl H.next 36 0 (n*n) (n*n))/\H'=H.alloc (.cells (mF x (n*n)) true)) fit bJo (args:=[.bK 0 36 (mR x (n*n))]) (H:=H) (Ab rfl) (by
  unfold aXf;dsimp only;generalize mR x (n*n)=els at *;simp only[↓zP,zJ,seval,DQ,Bool.or_true,Ig,wN,dM,I];refine Rx ?_
  exact⟨rfl,rfl⟩)
 exact w
theorem aJb{a n:Nat}(H:aB):Sg 263 [.agg [.int .i64 n,.int .i64 n,.sl a 36 0 (n*n) (n*n)]] H (.ret (.func (.func 295) [] [.ref H.next 0])) (H.alloc (.cells [.int .i64 n,.int .i64 n,.sl a 36 0 (n*n) (n*n)] false)):=by
 obtain⟨_,H',⟨rfl,rfl⟩,w⟩:=bZ (R:=fun o H'=>o=.ret (.func (.func 295) [] [.ref H.next 0])/\H'=H.alloc (.cells [.int .i64 n,.int .i64 n,.sl a 36 0 (n*n) (n*n)] false)) fit bJp (args:=[.agg [.int .i64 n,.int .i64 n,.sl a 36 0 (n*n) (n*n)]]) (H:=H) (Ab rfl) (by
  unfold aXg;dsimp only;refine Ty ?_;refine Rx ?_
  exact⟨rfl,rfl⟩)
 exact w
def WN(xs:Nat->Nat->Nat->Option Rat)(n:Nat):List (List AV):=(List.range n).map fun k=>Nu k (xs k k k)
theorem Vf(xs:Nat->Nat->Nat->Option Rat)(n:Nat):(WN xs n).length=n:=by simp[WN]
theorem aPn(xs:Nat->Nat->Nat->Option Rat){n k:Nat}(h:k<n):(WN xs n).getD k []=Nu k (xs k k k):=by simp[WN,List.getD,h]
theorem aHs(xs:Nat->Nat->Nat->Option Rat)(k:Nat):WN xs (k+1)=WN xs k++[Nu k (xs k k k)]:=by unfold WN;rw[Dh,Cg];rfl
theorem aHp(k:Nat)(q:Option Rat):cP (Nu k q)=true:=by simp only[Nu,sf,jX,eW]
theorem aHr(xs:Nat->Nat->Nat->Option Rat)(n:Nat):fK (WN xs n)=true:=dQ (fun k=>aHp k _) _
theorem aAb{n:Nat}(n1:0<n)(J:n<=3){xs:Nat->Nat->Nat->Option Rat}(C:∀k i j,k<=n->i<n->j<n->∃q,xs k i j=some q/\tP q)(xR:∀k i j,k<n->i<n->j<n->qx k (xs k) i j=xs (k+1) i j)(MK:∀k,k<n->zX (xs k k k)≠0)(H:aB):
 Sg 204 [.agg (mN n (fl n (xs 0)))] H (.ret (.iV [.agg [.int .i64 n,.int .i64 n,.bK 0 36 (mR (fl n (xs n)) (n*n)),.bK 0 38 (WN xs n)],.int .i64 0])) H:=by
 suffices h:∃out H',(∃v m,out=.ret v/\∀nw,iH H' none nw m v=some (.iV [.agg [.int .i64 n,.int .i64 n,.bK 0 36 (mR (fl n (xs n)) (n*n)),.bK 0 38 (WN xs n)],.int .i64 0]))/\Sg 204 [.agg (mN n (fl n (xs 0)))] ⟨0,.nil⟩ out H' by obtain⟨_,H',⟨v,m,rfl,M⟩,w⟩:=h;exact Sound.frame dZ Zbs w (tk:=none) (fun k E=>by cases E) (n:=m) H (M _)
 refine qH fit bIa (Ab rfl) ?_;unfold aVr;dsimp only;simp only[WD];have n9:=Lz J;refine bP ?_;refine Ty ?_;refine bQ ?_;generalize hX:(((aB.mk 0 .nil).alloc _).alloc _).alloc _=HA;have a0:=Kv (i:=0) hX;have a1:=Kv (i:=1) hX;have y:=Kv (i:=2) hX;have an:HA.next=3:=by subst hX;rfl
 have W:aY HA:=by subst hX;exact(((aY.nil _).alloc _).alloc _).alloc _
 clear hX;have g0:(mN n (fl n (xs 0))).getD 0 aC=.int .i64 n:=rfl;have g1:(mN n (fl n (xs 0))).getD 1 aC=.int .i64 n:=rfl;have g2:(mN n (fl n (xs 0))).getD 2 aC=.bK 0 36 (mR (fl n (xs 0)) (n*n)):=rfl;have gl:(mN n (fl n (xs 0))).length=3:=rfl;refine bP ?_;refine fZ 1 A1 W.at1 fun H1 GX T=>?_;refine Wz ?_;refine yG A1 ZaI (aLz n1 J (fl n (xs 0)) _) Zah (fun x C hp=>?_) ?_
 . have G:x.2=0:=by
    simp only[Ba,Cn,Fg] at C
    rcases C with rfl|rfl|rfl<;>rfl
   rw[G,aB.aJ,if_neg A0]
 have a6:H1.next=4:=by omega
 refine Wz ?_;refine bQ ?_
 refine UG (by
  repeat (first|exact(sB (Ab rfl)).1|refine nH.jF ?_ A1 _)) (fun f t WG N hX=>?_)
 have f2:=Kf (i:=2) N;have S:=Kf (i:=3) N;have l:=Kf (i:=4) N;have b1:t.get 1=some (.cells [.int .i64 0,.int .i64 0,.bG,.bG] false):=by subst hX;simp only[zI,seval,a6,T,a1]
 have b2:t.get 2=some (.cells [.int .i64 0] false):=by subst hX;simp only[zI,seval,a6,T,y]
 have D:t.get 3=some (.cells [.int .i64 n,.int .i64 n,.sl 4 36 0 (n*n) (n*n),.bG] false):=by subst hX;simp only[zI,seval]
 have bA:vW t 4 n (xs 0):=by subst hX;unfold vW;simp only[zI,seval,a6]
 have bn:t.next=5:=by subst hX;simp only[zI,seval,a6]
 have bF:aY t:=by
  subst hX;have af:aY H1:=fun q hq=>by rw[T q];exact W q A0
  exact((af.alloc _).set (by simp only[zI,seval,a6]<;>omega) _).set (by simp only[zI,seval,a6]<;>omega) _
 clear N hX T a0 a1 y an W GX a6 g0 g1 g2 gl H1 HA;refine aP fun K hK=>?_;refine bP ?_;have :=aJb (a:=4) (n:=n);refine Wy ?_;refine bQ ?_;generalize hX:aB.alloc t _=HC;have c1:=Kx (i:=1) hX;have c2:=Kx (i:=2) hX;have aj:=Kx (i:=3) hX;have c5:=Kx (i:=5) hX;have cA:vW HC 4 n (xs 0):=by subst hX;unfold vW at *;simp only[zI,seval,bn,bA]
 have cn:HC.next=6:=by subst hX;simp only[zI,seval,bn]
 have cF:aY HC:=by subst hX;exact bF.alloc _
 clear hX b1 b2 D bA bn bF;refine aM ?_
 refine UG (by
  repeat (first|exact WG|refine nH.jF ?_ A1 _)) (fun g Q ag d hX=>?_)
 subst hX;have q2:=Ks d f2;have q3:=Ks d S;have q4:=Ks d l;have ab:=Kf (i:=17) d;clear d f2 S l WG;refine uL (by rw[iG];exact ab) ?_;simp only[cn,seval];generalize A:HU.mk [18] _ _=key
 let I:Nat->Nat->aB->Prop:=fun r k H'=>8<=r/\8<=H'.next/\H'.get 1=some (.cells [.int .i64 0,.int .i64 0,.bG,.bG] false)/\H'.get 2=some (.cells [.int .i64 0] false)/\H'.get 5=some (.cells [.int .i64 n,.int .i64 n,.sl 4 36 0 (n*n) (n*n)] false)/\H'.get 6=some .AN/\H'.get 7=some (.loop key (LF 32 g) .ready)/\
  ∃v,H'.get 3=some (.cells [.int .i64 n,.int .i64 n,.sl 4 36 0 (n*n) (n*n),v] false)/\OwL H' 8 38 v (WN xs k)/\∀tk,v=.bK (tk+2) 38 (WN xs k)->tk≠r
 have WJ:((Q.alloc .AN).alloc (.loop key (LF 32 g) .ready)).next=8:=by simp only[zI,seval,cn]
 have gg:∀j,j<6->((Q.alloc .AN).alloc (.loop key (LF 32 g) .ready)).get j=Q.get j:=fun j Y=>by rw[aB.aJ,if_neg (by simp only[zI,seval,cn];omega),aB.aJ,if_neg A0]
 have G:∀r,((Q.alloc .AN).alloc (.loop key (LF 32 g) .ready)).next<=r->I r 0 ((Q.alloc .AN).alloc (.loop key (LF 32 g) .ready)):=fun r V=>⟨by omega,by omega,(gg 1 A1).trans c1,(gg 2 A1).trans c2,(gg 5 A1).trans c5,by simp only[zI,seval,cn],by simp only[zI,seval,cn],.bG,(gg 3 A1).trans aj,.inl ⟨rfl,rfl⟩,fun tk h=>by cases h⟩
 have mono:∀r k H1 H2,I r k H1->H1.next<=H2.next->(∀j,j<H1.next->j≠4->j≠r->H2.get j=H1.get j)->I r k H2:=by
  rintro r k H1 H2 ⟨w0,w1,w2,R,w5,U,c,v,p,w9,a7⟩ hn X;refine⟨w0,by omega,(X 1 A0 A1 A0).trans w2,(X 2 A0 A1 A0).trans R,(X 5 A0 A1 A0).trans w5,(X 6 A0 A1 A0).trans U,(X 7 A0 A1 A0).trans c,v,(X 3 A0 A1 A0).trans p,?_,a7⟩
  rcases w9 with h|⟨tk,O,Z,B,h4⟩
  . exact .inl h
  exact .inr ⟨tk,O,Z,by omega,(X tk B A0 (a7 tk O)).trans h4⟩
 have eX:∀r k,k<n->∀H1,I r k H1->aY H1->((Q.alloc .AN).alloc (.loop key (LF 32 g) .ready)).next<=r->r<H1.next->vW H1 4 n (xs (k+1))->∃H2,mS Tryz.prog gv 7 [.agg (Nu k (xs k k k))] H1 (.ret (.bool true)) H2/\I r (k+1) H2/\H1.next<=H2.next/\aY H2/\vW H2 4 n (xs (k+1))/\∀j,((Q.alloc .AN).alloc (.loop key (LF 32 g) .ready)).next<=j->j<H1.next->H1.get j≠some .tok->H2.get j=H1.get j:=by
  rintro r k E H1 ⟨w0,w1,w2,R,w5,U,c,v,p,w9,a7⟩ wF _ V wA;rw[WJ]
  suffices h:∃out H2,(out=.ret (.bool true)/\I r (k+1) H2/\H1.next<=H2.next/\aY H2/\vW H2 4 n (xs (k+1))/\∀j,8<=j->j<H1.next->H1.get j≠some .tok->H2.get j=H1.get j)/\mS Tryz.prog gv 7 [.agg (Nu k (xs k k k))] H1 out H2 by obtain⟨_,H2,⟨rfl,O⟩,w⟩:=h;exact⟨H2,w,O⟩
  refine IE fit ag c ZaO ZaO ZaO ?_;have fw:=Ov k (xs k k k)
  have Rw:FC Tryz.prog gv 32 key.MI (oE 32 g (key.ps.zip [.agg (Nu k (xs k k k))])) [] H1 (fun e u oT UP=>e=.normal/\u=jF (jF g 18 (.agg (Nu k (xs k k k)))) 5 (.ref H1.next 0)/\oT=[]/\UP=(H1.alloc (.cells z38 false)).set H1.next (.cells (Nu k (xs k k k)) false)):=by subst A;dsimp only[List.zip,List.zipWith,oE,gJ];simp only[↓zP,zJ,seval,fw,oL PG]
  refine jJ (fun e u oT UP h=>?_) Rw;obtain⟨rfl,rfl,rfl,rfl⟩:=h;have oO:Over H1 ((H1.alloc (.cells z38 false)).set H1.next (.cells (Nu k (xs k k k)) false)):=((Over.refl H1).alloc _).set (Ad _) _;refine⟨rfl,key,LF 32 g,(oO.same 7 A0).trans c,?_⟩;generalize s:aB.set _ 7 _=HZ;have zo:∀j,j<H1.next->j≠7->HZ.get j=H1.get j:=fun j O Z=>by rw[<-s,aB.aD,if_neg Z];exact oO.same j O
  have z7:HZ.get 7=some (.loop key (LF 32 g) .busy):=by rw[<-s,aB.aD,if_pos rfl]
  have zr:HZ.get H1.next=some (.cells (Nu k (xs k k k)) false):=by rw[<-s,aB.aD,if_neg A0,aB.aD,if_pos rfl]
  have zn:HZ.next=H1.next+1:=by rw[<-s];simp only[zI,seval]
  have zF:aY HZ:=by rw[<-s];exact((wF.alloc _).set Zah _).set Zah _
  have b:=(zo 3 A0 A1).trans p;have zA:vW HZ 4 n (xs (k+1)):=(zo 4 A0 A1).trans wA
  have z9:OwL HZ 8 38 v (WN xs k):=by
   rcases w9 with h|⟨tk,O,Z,B,h4⟩
   . exact .inl h
   exact .inr ⟨tk,O,Z,by omega,(zo tk B A0).trans h4⟩
  have gd:=aEr J (fun i j F Y=>C (k+1) i j E F Y) zA;obtain⟨Hp,p1,p2,p3,p4,p5⟩:=z9.push (ys:=[Nu k (xs k k k)]) (bytes:=152) rfl (by rw[Vf,As,Bo];omega);rw[<-aHs] at p1;have y3:=(p4 3 A0 (.inl A1)).trans b;have y7:=(p4 7 A0 (.inl A1)).trans z7;clear s Rw oO;subst A;dsimp only;refine aM ?_;refine bP ?_;refine Wy ?_;refine bQ ?_;have :=oL fw;refine Wy ?_;rw[show ∀(h:aB) (x:List AV),dM h 38 (.bK 1 38 [x])=some [x] from fun _ _=>rfl];simp only[p1,bV,zJ,seval,y3]
  have ol:∀(z:eS) q,q<8->q≠3->q≠7->((Hp.set 3 (.cells [.int .i64 n,.int .i64 n,.sl 4 36 0 (n*n) (n*n),.bK (HZ.next+2) 38 (WN xs (k+1))] false)).set 7 z).get q=H1.get q:=fun z q O Z B=>by rw[aB.aD,if_neg B,aB.aD,if_neg Z,p4 q A0 (.inl O),zo q A0 B]
  refine⟨rfl,_,_,by rw[aB.aD,if_neg A1];exact y7,rfl,⟨w0,?_,(ol _ 1 A1 A1 A1).trans w2,(ol _ 2 A1 A1 A1).trans R,(ol _ 5 A1 A1 A1).trans w5,(ol _ 6 A1 A1 A1).trans U,by rw[aB.aD,if_pos rfl],.bK (HZ.next+2) 38 (WN xs (k+1)),by rw[aB.aD,if_neg A1,aB.aD,if_pos rfl],.inr ⟨HZ.next,rfl,by omega,?_,?_⟩,fun tk h=>?_⟩,?_,?_,(ol _ 4 A1 A1 A1).trans wA,fun j O Z B=>?_⟩
  . exact Zaw
  . exact Zaw
  . rw[aB.aD,if_neg A0,aB.aD,if_neg A0];exact p3
  . have :=(AV.bK.inj h).1;omega
  . exact Zaw
  . exact((p5 zF).set A0 _).set Zaw _
  have e:=zo j Z A0;rw[aB.aD,if_neg A0,aB.aD,if_neg A0,p4 j A0 (.inr (by rw[e];exact B)),e]
 obtain⟨r,He,V,⟨w0,w1,w2,R,w5,U,c,v,p,w9,a7⟩,eF,eA,w⟩:=jn n1 J (fun k i j E F Y=>by obtain⟨q,e,N⟩:=C k i j E F Y;rw[e];exact .enc N) xR MK (a:=4) (id:=7) (rm:=5) (o:=false) (H:=(Q.alloc .AN).alloc (.loop key (LF 32 g) .ready)) A0 A0 A1 I
  (fun r k H' h=>h.2.2.2.2.1) mono eX G ((gg 4 A1).trans cA) ((cF.alloc _).alloc _)
 refine⟨_,He,_,_,_,w,c,fun L N=>?_⟩;obtain⟨T,e2⟩:=N;show K g [.mark 6] L;apply hK;clear hK K;have D:L.get 3=some (.cells [.int .i64 n,.int .i64 n,.sl 4 36 0 (n*n) (n*n),v] false):=by rw[e2,if_neg A1];exact p
 have b1:L.get 1=some (.cells [.int .i64 0,.int .i64 0,.bG,.bG] false):=by rw[e2,if_neg A1];exact w2
 have b2:L.get 2=some (.cells [.int .i64 0] false):=by rw[e2,if_neg A1];exact R
 have b6:L.get 6=some .AN:=by rw[e2,if_neg A1];exact U
 refine Wz ?_
 obtain⟨tk,rfl⟩:∃tk,v=.bK (tk+2) 38 (WN xs n):=by
  rcases w9 with ⟨_,h⟩|⟨tk,h,_⟩
  . have :=Al List.length h;rw[Vf,Bo] at this;omega
  exact⟨tk,h⟩
 have bA:L.get 4=some (.cells (mF (fl n (xs n)) (n*n)) true):=by rw[e2,if_neg A1];exact eA
 have hl:Nat.ble (n*n*36) (mF (fl n (xs n)) (n*n)).length=true:=by rw[dm];exact Jy A0
 have ae:cP (mF (fl n (xs n)) (n*n))=true:=jH (pB _ _)
 have P:gE 36 (n*n) (mF (fl n (xs n)) (n*n))=mR (fl n (xs n)) (n*n):=by
  have :=AJ (Xw (fl n (xs n)) (n*n))
  rwa [jR] at this
 have ad:=aHr xs n;refine⟨by simp only[zI,seval];exact b6,[.agg [.int .i64 n,.int .i64 n,.sl 4 36 0 (n*n) (n*n),.bK (tk+2) 38 (WN xs n)],.int .i64 0],?_,_,2,rfl,fun nw=>?_⟩
 . simp only[↓zP,zR,zJ,seval,q2,q3]
 simp[nJ,iH,kK,GI,hl,ae,P,ad,EK,AV.free,aB.eV,aB.aD,bA]
 done
end Go.Proofs.YtogfcjbgeebfkaaGreatDoor
