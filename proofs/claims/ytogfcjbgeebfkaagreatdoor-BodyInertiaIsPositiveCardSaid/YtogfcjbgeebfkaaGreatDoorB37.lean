/-
  Part of the proof of statement 13
-/
import Derived.Test.YtogfcjbgeebfkaaGreatDoorB36
import Derived.Test.YtogfcjbgeebfkaaGreatDoorB07
import Derived.Test.YtogfcjbgeebfkaaGreatDoorB24
set_option linter.unusedVariables false
set_option maxRecDepth 100000
set_option linter.unusedSimpArgs false
set_option maxHeartbeats 16000000
namespace Go.Proofs.YtogfcjbgeebfkaaGreatDoor
open Go Go.Av Go.iW Go.aH
attribute [local congr] aZ aQ aR aL bD aU aS aG bE
attribute [local irreducible] FC bS eE
theorem zl(k:Nat)(q:Option Rat):(Nu k q).getD 37 aC=.bool false/\((Nu k q).drop 1).take 36=gL q:=by have Z:=cZ q;refine⟨?_,by rw[Nu,Gj,Eo,<-Z,List.take_left]⟩;rw[Nu,Ed];simp[List.getD,Z]
theorem aYu{n:Nat}(n1:0<n)(J:n<=3){xs:Nat->Nat->Nat->Option Rat}(C:∀k i j,k<=n->i<n->j<n->∃q,xs k i j=some q/\tP q)(xR:∀k i j,k<n->i<n->j<n->qx k (xs k) i j=xs (k+1) i j)(I:∀k,k<n->zX (xs k k k)≠0)
 {ds:Nat->Option Rat} (G:ds 0=some ((1:Int):Rat)) (hd:∀k,k<n->nX (ds k) (xs k k k)=ds (k+1)) (A:(ds n).isSome=true) (H:aB):
 Sg 119 [.agg (mN n (fl n (xs 0)))] H (.ret (.iV [.agg (gL (ds n)),.int .i64 0])) H:=by
 refine Sp bGi Zbs Zao ?_ H;unfold aUb;dsimp only;simp only[WD,lG];have hm:=PL.fl (fun i j F Y=>C 0 i j (Bh _) F Y);have hv:∀H,Sg 115 [.bK 1 3 [mN n (fl n (xs 0))]] H (.ret (.bool true)) H:=FI J (l:=[fl n (xs 0)]) (fun z s=>by rw[Ca] at s;rw[s];exact hm) (show 1<2^30 by decide) (tag:=1) rfl;have hr:=aAb n1 J C xR I;have M:=fx (z:=1) A1 A1
 have iq:∀k,k<n->lA (gL (xs k k k)) (xs k k k):=fun k E=>by obtain⟨q,e,N⟩:=C k k k (Nat.le_of_lt E) E E;rw[e];exact .enc N
 have id:∀k,k<=n->lA (gL (ds k)) (ds k):=fun k E=>by
  cases k with
  |zero=>rw[G];exact .enc A1
  |succ k=>rw[<-hd k E];exact .mul
 have d:=lS (id n (Ad _));rw[A] at d;have g0:(mN n (fl n (xs 0))).getD 0 aC=.int .i64 n:=rfl;have g1:(mN n (fl n (xs 0))).getD 1 aC=.int .i64 n:=rfl;have p:(mN n (fl n (xs 0))).length=3:=rfl;have U:=oL p;have Q:(((n:Nat):Int) != (n:Int))=false:=by simp
 have O:decide ((n:Int)<(n:Int))=false:=Ac A0;have pg:=fun {k} (h:k<n)=>aPn xs h;have pl:=Vf xs n;generalize mN n (fl n (xs 0))=mc at *;generalize mR (fl n (xs n)) (n*n)=mr at *;generalize WN xs n=pe at *;refine bP ?_;refine Ty ?_;refine fQ ?_;simp only[↓zP,zJ,seval,p,U];refine eI (hv _) ?_;simp only[↓zP,zJ,seval,p,g0,g1,Q];refine fQ ?_;simp only[↓zP,zJ,seval,p,U];refine eI (hr _) ?_;refine Ty ?_;refine bQ ?_;generalize hX:aB.set _ 2 _=c;have D:c.get 0=some (.cells mc false):=by subst hX;simp only[zI,seval]
 have a1:c.get 1=some (.cells HO false):=by subst hX;simp only[zI,seval]
 have y:c.get 2=some (.cells [.int .i64 n,.int .i64 n,.bK 0 36 mr,.bK 0 38 pe] false):=by subst hX;simp only[zI,seval]
 have an:c.next=3:=by subst hX;simp only[zI,seval]
 clear hX;refine cC fun f N=>?_;have u:f 1=.ref 0 0:=by subst N;simp only[zB,seval]
 have P:f 2=.ref 1 0:=by subst N;simp only[zB,seval]
 have f4:f 4=.ref 2 0:=by subst N;simp only[zB,seval]
 have f5:f 5=.int .i64 0:=by subst N;simp only[zB,seval]
 clear N;refine bP ?_;refine aM ?_;simp only[↓zP,zJ,seval,u,f4,f5,D,y,p,g0,pl,O,show((0:Int) != 0)=false from rfl];refine fQ ?_;refine Tz ?_;refine bQ ?_;refine cC fun g d=>?_;have q1:=Ks d u;have q2:=Ks d P;have q4:=Ks d f4;have v:g 6=.int .i64 1:=by subst d;simp only[zB,seval]
 clear d u P f4 f5;have K:=fun k=>Ov k (xs k k k);have a6:=fun k=>zl k (xs k k k);refine bP ?_;refine bP ?_;simp only[↓zP,zJ,seval,q4,y,pl];refine bQ ?_;refine bR [6] (fun _ vs H'=>vs=[.int .i64 1]/\3<=H'.next/\H'.get 1=some (.cells HO false)/\H'.get 2=some (.cells [.int .i64 n,.int .i64 n,.bK 0 36 mr,.bK 0 38 pe] false)) n A0 A1 ?_ ?_ ?_ ?_ ?_
 . exact zq
 . exact zq
 . exact⟨by simp only[Bw,Er,zB,seval,v],by omega,a1,y⟩
 . rintro i V H2 F E T ⟨u0,m,u2,S⟩;have ab:V 43=.bK 0 38 pe:=E 43 rfl;have B:V 6=.int .i64 1:=by simpa using u0
   clear E;have a:=pg F;refine aM ?_;refine bP ?_;simp only[↓zP,zJ,seval,T,ab,aI,pl,F,a,K,oL (K i),oL PG];refine bQ ?_;simp only[↓zP,zJ,seval,K,a6,B];exact⟨trivial,by omega,by rw[if_neg A0,if_neg A0];exact u2,by rw[if_neg A0,if_neg A0];exact S⟩
 rintro V H2 E ⟨u0,m,u2,S⟩;have p2:V 2=.ref 1 0:=by rw[E 2 rfl];simp only[zB,seval];exact q2
 have X:V 4=.ref 2 0:=by rw[E 4 rfl];simp only[zB,seval];exact q4
 have B:V 6=.int .i64 1:=by simpa using u0
 clear E q1 q2 q4 v D a1 y an;refine Tx ?_;refine fQ ?_;simp only[↓zP,zG,seval,B];refine eI (M _) ?_;have lz:=cZ (some ((1:Int):Rat));have ez:cQ ((1:Int):Rat)=gL (ds 0):=by rw[G];rfl
 have b:=fun k=>cZ (ds k);simp only[↓zP,zJ,seval,ez,b,oL fV];refine bQ ?_;generalize hX:aB.set _ _ _=t;obtain⟨r,R⟩:∃r,r=H2.next:=⟨_,rfl⟩;have b1:t.get 1=some (.cells HO false):=by subst hX;simp only[zI,seval];rw[if_neg A0,if_neg A0];exact u2
 have b2:t.get 2=some (.cells [.int .i64 n,.int .i64 n,.bK 0 36 mr,.bK 0 38 pe] false):=by subst hX;simp only[zI,seval];rw[if_neg A0,if_neg A0];exact S
 have b9:t.get r=some (.cells (gL (ds 0)) false):=by subst hX;subst R;rw[aB.aD,if_pos rfl]
 have Q:r<t.next:=by subst hX;simp only[zI,seval];omega
 clear hX;refine cC fun f N=>?_;have P:=Ks N p2;have f4:=Ks N X;have f9:f 9=.ref r 0:=by subst N;simp only[zB,seval,R]
 clear N p2 X B u0 u2 S;have ad:3<=r:=by omega
 refine bP ?_;refine bP ?_;simp only[↓zP,zJ,seval,f4,b2,pl];refine bQ ?_;refine bR [] (fun i _ H'=>r<H'.next/\H'.get 1=some (.cells HO false)/\H'.get r=some (.cells (gL (ds i)) false)) n A0 A1 ?_ ?_ ?_ ?_ ?_
 . exact zq
 . exact zq
 . exact⟨Q,b1,b9⟩
 . rintro i V W F E T ⟨w,x,o⟩;have a7:V 57=.bK 0 38 pe:=E 57 rfl;have p9:V 9=.ref r 0:=by rw[E 9 rfl];simp only[zB,seval];exact f9
   clear E;have a:=pg F;have U:=Lt (id i (Nat.le_of_lt F)) (iq i F);rw[hd i F] at U;have Z:=cZ (xs i i i);refine aM ?_;refine bP ?_;simp only[↓zP,zJ,seval,T,a7,aI,pl,F,a,K,oL (K i),oL PG];refine bQ ?_;have L:¬r=W.next:=A0;simp only[↓zP,zJ,seval,K,a6,p9,L,o,b,oL (b i)];refine eI (U _) ?_;simp only[↓zP,zJ,seval,p9,L,o,b,oL (b i)];exact⟨by omega,by rw[if_neg A0,if_neg A0,if_neg A0];exact x,trivial⟩
 rintro V W E ⟨w,x,o⟩;have p2:V 2=.ref 1 0:=by rw[E 2 rfl];simp only[zB,seval];exact P
 have p9:V 9=.ref r 0:=by rw[E 9 rfl];simp only[zB,seval];exact f9
 clear E;refine Tx ?_;refine fQ ?_;simp only[↓zP,zJ,seval,p9,o,b,oL (b n)];refine eI (d _) ?_;refine Ty ?_;refine bQ ?_;simp only[↓zP,zJ,seval,p2,p9,x,o,b,oL (b n),oL fV];refine⟨rfl,_,by simp only[↓zP,zR,seval,p2,b,oL (b n)];rfl,?_⟩;rfl
theorem Sn:∀{k a:List _} {l b:List _},cE k a a=some true->cE l b b=some true->cE (k++l) (a++b) (a++b)=some true
 |[],[],l,b,_,h=>h
 |[],_::_,_,_,h,_=>by simp[cE] at h
 |z::k,[],_,_,h,_=>by cases z<;>simp[cE] at h
 |z::k,x::a,l,b,h,h2=>by have key:cE k a a=some true->cE (k++l) (a++b) (a++b)=some true:=fun h=>Sn h h2;cases z<;>cases x<;>simp[cE] at h ⊢ <;>exact key h
def bDe:List Sk:=[.b,.b,.i,.i,.i,.i,.i,.i,.i,.i,.i,.i,.i,.i,.i,.i,.i,.i]
variable{v:List AV}
theorem aEa{x:Option Int}(h:eJ v x):cE bDe v v=some true:=by obtain⟨b,n,l,U,rfl,rfl⟩:=h;unfold bDe;simp only[cE,EW U.1 U.1,Cq,Hh,Dm,Gy]
theorem aEb{x:Option Rat}(h:lA v x):cE [.b,.b,.i,.i,.i,.i,.i,.i,.i,.i,.i,.i,.i,.i,.i,.i,.i,.i,.b,.b,.i,.i,.i,.i,.i,.i,.i,.i,.i,.i,.i,.i,.i,.i,.i,.i] v v=some true:=by obtain⟨a,b,n,d,rfl,O,Z,_⟩:=h;exact Sn (k:=bDe) (aEa O) (aEa Z)
variable{x:Nat->Option Rat}
theorem aPe{i k r:Nat}(F:i<3)(E:k<3){H:aB}(V:H.get r=some (.cells (mC x) false))(n:r<H.next)(N:aY H):
 ∃H',Sg 118 ([.int .i64 i,.int .i64 k]++[.ref r 0]) H (.ret (.agg (gL (x (3*i+k))))) H'/\Over H H'/\aY H':=by
 have a1:=Mv x F E;have b:=oL (show(mC x).length=3 from rfl);have Z:=cZ (x (3*i+k))
 obtain⟨_,H',⟨rfl,h⟩,w⟩:=bZ (R:=fun o H'=>o=.ret (.agg (gL (x (3*i+k))))/\Over H H'/\aY H') fit bGh (args:=[.int .i64 i,.int .i64 k,.ref r 0]) (H:=H) (Ab rfl) (by
  unfold aUa;dsimp only;simp only[lG];refine bP ?_;refine Tz ?_;refine bQ ?_;generalize hX:aB.alloc H _=c;have f:c.get r=some (.cells (mC x) false):=by subst hX;rw[aB.aJ,if_neg A0];exact V
  have S:c.get H.next=some (.cells HO false):=by subst hX;rw[aB.aJ,if_pos rfl]
  have K:Over H c:=by subst hX;exact(Over.refl H).alloc _
  have W:aY c:=by subst hX;exact N.alloc _
  have e:H.next<c.next:=by subst hX;simp only[aB.bJ];omega
  clear hX;refine bP ?_;simp only[↓zP,zJ,seval,f,b];refine eI (a1 _) ?_;simp only[↓zP,zJ,seval,S,Z,oL fV];refine bQ ?_;refine Tx ?_;refine⟨rfl,_,by simp only[↓zP,zR,seval,Z,oL Z];rfl,?_⟩
  exact⟨rfl,K.set (Ad _) _,W.set e _⟩)
 exact⟨H',w,h⟩
theorem YM{xs:Nat->Nat->Nat->Option Rat}(hm:ZB x)(G:∀i j,i<3->j<3->xs 0 i j=x (3*i+j))(M:∀i j,i<3->j<3->x (3*i+j)=x (3*j+i))
 (C:∀k i j,k<=3->i<3->j<3->∃q,xs k i j=some q/\tP q) (xR:∀k i j,k<3->i<3->j<3->qx k (xs k) i j=xs (k+1) i j) (I:∀k,k<3->zX (xs k k k)≠0)
 {ds:Nat->Option Rat} (Ra:ds 0=some ((1:Int):Rat)) (hd:∀k,k<3->nX (ds k) (xs k k k)=ds (k+1)) (hp:∀n,n<=3->0<zX (ds n)) (H:aB):
 Sg 45 [.agg (mC x)] H (.ret (.iV [.bool true,.int .i64 0])) H:=by
 refine So bQv Zbt ?_ H;unfold W45;dsimp only;simp only[lG];have hv:∀H,Sg 115 [.bK 1 3 [mC x]] H (.ret (.bool true)) H:=FI (n:=3) A1 (l:=[x]) (fun z s=>by rw[Ca] at s;rw[s];exact hm) (show 1<2^30 by decide) (tag:=1) rfl
 have a7:∀n,n<=3->(ds n).isSome=true:=fun n A=>by
  have :=hp n A
  cases Xc:ds n with
  |none=>rw[Xc] at this;exact absurd this A1
  |some q=>rfl
 have g0:(mC x).getD 0 aC=.int .i64 3:=rfl;have g1:(mC x).getD 1 aC=.int .i64 3:=rfl;have p:(mC x).length=3:=rfl;have U:=oL p;have b3:((3:Int) != 3)=false:=rfl;refine bP ?_;refine Ty ?_;refine fQ ?_;simp only[↓zP,zJ,seval,p,U];refine eI (hv _) ?_;simp only[↓zP,zJ,seval,p,g0,g1,b3];refine bQ ?_;generalize hX:aB.alloc _ _=HA;have D:HA.get 0=some (.cells (mC x) false):=by subst hX;simp only[zI,seval]
 have an:HA.next=1:=by subst hX;rfl
 have W:aY HA:=by subst hX;exact(aY.nil _).alloc _
 clear hX;refine cC fun f N=>?_;have u:f 1=.ref 0 0:=by subst N;simp only[zB,seval]
 clear N;refine bP ?_;refine bP ?_;simp only[↓zP,zJ,seval,u,D,p,g0];refine bQ ?_;refine bR [] (fun _ _ H'=>H'=HA) 3 A1 A1 ?_ ?_ ?_ ?_ ?_
 . exact zq
 . exact zq
 . rfl
 . rintro i g H1 F E T rfl;have k1:g 1=.ref 0 0:=by rw[E 1 rfl];simp only[zB,seval];exact u
   clear E;refine aM ?_;refine bP ?_;simp only[↓zP,zG,seval,T];refine fQ ?_;refine Tz ?_;refine bQ ?_;refine bR [] (fun _ _ H'=>H'=H1) i A0 A1 ?_ ?_ ?_ ?_ ?_
   . exact zq
   . exact zq
   . rfl
   . rintro k V H2 lO E o rfl;have q1:V 1=.ref 0 0:=(by rw[E 1 rfl];simp only[zB,seval];exact k1);have q4:V 4=.int .i64 i:=E 4 rfl;clear E;have s1:=Mv x F (show k<3 by omega);have s2:=Mv x (show k<3 by omega) F;have ab:3*i+k<9:=A0;have eq:=aEb (hm.1 (3*i+k) ab);rw[<-M i k F A0] at s2;refine aM ?_;refine bP ?_;simp only[↓zP,zG,seval,o];refine fQ ?_;refine Dz ?_;simp only[↓zP,zJ,seval,zD,q1,q4,D,U];refine gV (s1 _) ?_;simp only[↓zP,zJ,seval,zD,q1,q4,D,U];refine gV (s2 _) ?_;simp only[↓zP,zJ,seval,zD,eq];refine bQ ?_;exact Zbj
   rintro V H2 E rfl;trivial
 rintro g H1 E rfl;have q1:g 1=.ref 0 0:=by rw[E 1 rfl];simp only[zB,seval];exact u
 clear E u;refine Tx ?_;refine bQ ?_;refine aP fun K hK=>?_;refine bP ?_;refine Tz ?_;refine bQ ?_;refine UI (id:=4) (c:=45) (fun i f H'=>f 1=.ref 0 0/\f 6=.int .i64 ((i+1:Nat):Int)/\1<=H'.next/\H'.get 0=some (.cells (mC x) false)/\aY H') 3 ?_ ?_ ?_ ?_
 . exact⟨by simp only[zB,seval];exact q1,by simp only[zB,seval],by omega,D,W⟩
 . rintro i f H2 F ⟨u,L,w1,w2,w3⟩ K2 dJ Q';have hd:decide (((i+1:Nat):Int)<=3)=decide (i<3):=by rw[Bj];omega
   generalize ZG:i+1=m at *;simp only[↓zP,zJ,seval,u,L,w2,p,g0,hd];exact⟨trivial,trivial,dJ _ zq ⟨by simp only[zB,seval];exact u,by simp only[zB,seval];exact L,w1,w2,w3⟩⟩
 . rintro i f H2 F ⟨u,L,w1,w2,w3⟩;obtain⟨n,A⟩:∃n,n=i+1:=⟨_,rfl⟩;rw[<-A] at L;have n1:0<n:=by omega
   have J:n<=3:=by omega
   obtain⟨tk,H3,S,⟨v,c1⟩,-,-,X⟩:=Xx n1 J (H0:=H2) (Q:=fun H=>H.get 0=some (.cells (mC x) false)/\1<=H.next) (fun H H' ⟨O,Z⟩ E=>⟨(E.2 0 A0 (by rw[O];simp)).trans O,Aw Z E.1⟩)
    (y:=fl n (xs 0)) (PL.fl fun i j F Y=>C 0 i j (Bh _) A0 A0) (fid:=118) (cs:=[.ref 0 0])
    (fun H ⟨O,Z⟩ N i k F E=>by
      rw[aRh _ E,G i k A0 A0]
      exact aPe A0 A0 O A0 N) ⟨w2,w1⟩ w3
   have dt:∀H,Sg 119 [.agg [.int .i64 n,.int .i64 n,.bK (tk+2) 36 (mR (fl n (xs 0)) (n*n))]] H (.ret (.iV [.agg (gL (ds n)),.int .i64 0])) H:=fun H=>by apply Sound.wu;have e:qD [AV.agg [.int .i64 n,.int .i64 n,.bK (tk+2) 36 (mR (fl n (xs 0)) (n*n))]]=[.agg (mN n (fl n (xs 0)))]:=(by simp only[qD,wu,aEi,mN]);rw[e];exact aYu n1 J (fun k i j E F Y=>C k i j A0 A0 A0) (fun k i j E F Y=>xR k i j A0 A0 A0) (fun k E=>I k A0) Ra (fun k E=>hd k A0) (a7 n J) H
   have a6:lA (gL (ds n)) (ds n):=by obtain⟨m,rfl⟩:∃m,n=m+1:=⟨n -1,by omega⟩;rw[<-hd m A0];exact .mul
   have sg:=Qv a6;have ad:=hp n J;have d1:decide (zX (ds n)<=0)=false:=Ac A0;have b:=cZ (ds n);generalize mR (fl n (xs 0)) (n*n)=mr at *;refine aM ?_;refine bP ?_;simp only[↓zP,zJ,seval,u,L];refine eI (S) ?_;refine Ty ?_;refine bQ ?_;generalize hX:aB.set _ _ _=t;obtain⟨P,a⟩:∃P,P=H3.next:=⟨_,rfl⟩;have x0:t.get 0=some (.cells (mC x) false):=(by subst hX;simp only[zI,seval];rw[if_neg A0,if_neg A0];exact v);have x7:t.get P=some (.cells [.int .i64 n,.int .i64 n,.bK (tk+2) 36 mr] false):=(by subst hX;subst a;rw[aB.aD,if_pos rfl]);have xn:P<t.next:=(by subst hX;simp only[zI,seval];omega);have xF:aY t:=(by subst hX;exact(X.alloc _).set Zah _);clear hX;refine cC fun g d=>?_;have p1:=Ks d u;have B:=Ks d L;have p7:g 7=.ref P 0:=(by subst d;simp only[zB,seval,a]);clear d u L;refine bP ?_;simp only[↓zP,zJ,seval,p7,x7];refine eI (dt _) ?_;simp only[↓zP,zJ,seval,b,oL fV];refine bQ ?_;generalize hX:aB.set _ _ _=HC;obtain⟨r,R⟩:∃r,r=t.next:=⟨_,rfl⟩;have y0:HC.get 0=some (.cells (mC x) false):=(by subst hX;simp only[zI,seval];rw[if_neg A0,if_neg A0];exact x0);have y9:HC.get r=some (.cells (gL (ds n)) false):=(by subst hX;subst R;rw[aB.aD,if_pos rfl]);have w:r<HC.next:=(by subst hX;simp only[zI,seval];omega);have yF:aY HC:=(by subst hX;exact(xF.alloc _).set Zah _);clear hX;refine cC fun f N=>?_;have u:=Ks N p1;have L:=Ks N B;have f9:f 9=.ref r 0:=(by subst N;simp only[zB,seval,R]);have h:f 10=.int .i64 0:=(by subst N;simp only[zB,seval]);clear N p1 B p7;refine bP ?_;simp only[↓zP,zJ,seval,h,show((0:Int) != 0)=false from rfl,f9,y9,b,oL b];refine eI (sg _) ?_;simp only[↓zP,zG,seval,d1];refine bQ ?_;have w6:IntKind.i64.wrap ((n:Int)+1)=((i+1+1:Nat):Int):=wI A0;simp only[↓zP,zG,seval,L,w6];exact⟨trivial,trivial,u,trivial,by omega,y0,yF⟩
 rintro f H2 ⟨u,L,w1,w2,w3⟩;apply hK;clear hK K;refine Tz ?_;exact ZaB
theorem PA{q:Rat}(h:0<q):0<zX (some q):=by
 have O:0<q.num:=by have :=(Rat.lt_iff 0 q).1 h;simpa using this
 simp only[zX,iI];split<;>(try split)<;>omega
theorem aYr{x y:Rat}(h:x<=y):OI (some x) (some y)<=0:=by
 have :=(Rat.le_iff x y).1 h;simp only[OI,sK];split
 . decide
 rw[if_neg A0];decide
noncomputable def jN (ls:List (List aH.V)) (k:Int):Nat->Option Rat:=OU ls (some (k:Rat))
variable{ls:List (List aH.V)}
theorem bLj(h:Bp ls){k:Int}(E:k.natAbs<=2^10):ZB (jN ls k):=.of fun p=>⟨_,(qV h E p).1,(qV h E p).2.fit A1 A1⟩
theorem aTb(h:Bp ls){k:Int}(E:k.natAbs<=2^10)(p:Nat):lA (gL (jN ls k p)) (jN ls k p):=by unfold jN;rw[(qV h E p).1];exact .enc ((qV h E p).2.fit A1 A1)
theorem aPf(h:Bp ls){k:Int}(G:0<k)(E:k.natAbs<=2^10)(H:aB):Sg 45 [.agg (mC (jN ls k))] H (.ret (.iV [.bool true,.int .i64 0])) H:=by
 obtain⟨S,e⟩:=aQv h G E;refine YM (xs:=fun p i j=>some (sk (NB ls) _ p i j)) (ds:=fun n=>some (dk (NB ls) _ n)) (bLj h E) (fun i j F Y=>?_) (fun i j F Y=>?_) (fun k i j _ _ _=>⟨_,rfl,S.bk i j⟩) (fun k i j E F Y=>S.bSf E F Y) (fun k E=>fun e=>S.pk E (jk.1 e)) rfl (fun k E=>S.bDy E) (fun n A=>PA (S.aYw A0).1) H
 . show _=OU ls (some (k:Rat)) (3*i+j);rw[e];rfl
 show OU ls (some (k:Rat)) (3*i+j)=OU ls (some (k:Rat)) (3*j+i);rw[e,e];have :=Od ls F Y;unfold NB at this;rw[this]
theorem bBc(h:Bp ls){k:Int}(E:k.natAbs<=2^9)(p:Nat):jN ls (k+k) p=mT (jN ls k p) (jN ls k p):=by
 have T:=qV h (k:=k) A0 p;have o:=qV h (k:=k+k) A0 p;unfold jN;rw[T.1,o.1,CL T.2 T.2 A1 A1 A1];congr 1;have :(6*(k+k):Int)=6*k+6*k:=by omega
 rw[this,Rat.intCast_add];generalize ((6*k:Int):Rat)=m at *;generalize (VB ls:Rat)=v at *;generalize (IB ls p:Rat) / ((120:Int):Rat)=n at *;clear T o
 grind
theorem aFt(h:Bp ls){k:Int}(G:0<k)(E:k.natAbs<=2^10){a b c:Nat}(M:IB ls a<=IB ls b+IB ls c):OI (jN ls k a) (mT (jN ls k b) (jN ls k c))<=0:=by obtain⟨S,e⟩:=aQv h G E;have T:=qV h E b;have o:=qV h E c;have t:=e a;have p:=e b;have d:=e c;have l:=S.t0;clear e;unfold jN;rw[T.1] at p;rw[o.1] at d;rw[t,T.1,o.1,CL T.2 o.2 A1 A1 A1,Aa p,Aa d];refine aYr ?_;rw[<-Rat.mul_add,<-Rat.intCast_add];exact Rat.mul_le_mul_of_nonneg_left (Rat.intCast_le_intCast.2 M) (Rat.le_of_lt l)
end Go.Proofs.YtogfcjbgeebfkaaGreatDoor
namespace Go.Proofs.YtogfcjbgeebfkaaGreatDoor
open Go Go.Av
def rX:List AV:=[1,10,100,1000,10000,100000,1000000,10000000,100000000,1000000000,10000000000,100000000000,1000000000000,10000000000000,100000000000000,1000000000000000,10000000000000000,100000000000000000,1000000000000000000,10000000000000000000].map (AV.int .u64)
def Px(n:Nat):Option (List AV):=match Nat.beq n 3 with
 |true=>some rX
 |false=>match Nat.beq n 999999999 with
  |true=>some []
  |false=>none
def lY:bL:=mkG Tryz.prog Px
abbrev St(f:FuncId)(args:List AV)(H:aB)(out:Out)(H':aB):Prop:=Sound Tryz.prog lY f args H out H'
theorem Rs:Fit Tryz.prog lY:=ot (by kernel_rfl)
theorem xP:GN lY:=fun n cs h=>by
 have h:Px n=some cs:=h;unfold Px at h;split at h
 . cases h;rfl
 split at h
 . cases h;rfl
 cases h
theorem moT:lY.mo=false:=rfl
theorem toT{f:FuncId}{args:List AV}{v:AV}(I:cP args=true)(J:v.free=true)(h:∀H,Sg f args H (.ret v) H)(H:aB):Sound Tryz.prog lY f args H (.ret v) H:=
 (Sound.up (g:=gv) (g':=lY) (fun n cs h=>by cases h) rfl moT (h ⟨0,.nil⟩)).frame xP I (tk:=none) (fun k E=>by cases E) (n:=0) H (uG J)
theorem bDo{K:List Fact}(h:tQ Tryz.prog gv K)(N:(K.all fun e=>cP e.2.1&&e.2.2.free)=true):tQ Tryz.prog lY K:=fun e z H=>by have :=Bi.1 N e z;rw[Ak] at this;exact toT this.1 this.2 (h e z) H
def W6T:{x:CC // xT Tryz.prog lY false Tryz.f6=some x}:=⟨
 ⟨120,[.tmp 4],.seq (.ops [⟨(some 2),.box (.tmp 0),none⟩,⟨(some 4),.mO (.const (.bool false)),none⟩]) (.seq (.seq (.ops [⟨(some 14),.load true 6 (.tmp 2),none⟩,⟨(some 15),.call (.const (.func (.func 7) [] [])) [(.tmp 14)],none⟩,⟨(some 16),.un .not (.tmp 15),none⟩,⟨(some 17),.mO (.tmp 16),none⟩,⟨(some 18),.load true 6 (.tmp 2),some (17,false)⟩,⟨(some 19),
   .build [.int .i64 0,.int .i64 0,.int .i64 0] [],some (17,false)⟩,⟨(some 20),.call (.const (.func (.func 35) [] [])) [(.tmp 18),(.tmp 19)],some (17,false)⟩,⟨(some 21),.un .not (.tmp 20),some (17,false)⟩,⟨(some 22),.pick (.tmp 17) (.const (.bool true)) (.tmp 21),none⟩]) (.cond (.tmp 22) (.seq (.ops [⟨(some 23),.call (.const (.func (.func 9)
   [] [])) [],none⟩,⟨(some 4),.mO (.tmp 23),none⟩]) (.ret)) (.skip))) (.seq (.ops [⟨(some 24),.mO (.tmp 1),none⟩,⟨(some 25),.NW .i64 (.tmp 24),none⟩,⟨(some 26),.bin .add (.const (.int .i64 1)) (.tmp 25),none⟩,⟨(some 27),.call (.const (.func (.func 40) [] [])) [(.tmp 26)],none⟩,⟨(some 5),.alloc HO,none⟩,⟨none,.store 36 (.tmp 5) (.tmp 27),none⟩]) (.seq (.draw
   [⟨(some 28),.load true 6 (.tmp 2),none⟩,⟨(some 29),.load true 36 (.tmp 5),none⟩,⟨(some 30),.call (.const (.func (.func 20) [] [])) [(.tmp 28),(.tmp 29)],none⟩,⟨(some 31),.load true 6 (.tmp 2),none⟩,⟨(some 32),.load true 36 (.tmp 5),none⟩,⟨(some 33),.load true 36 (.tmp 5),none⟩,⟨(some 34),.call (.const (.func (.func 44) [] [])) [(.tmp 32),(.tmp 33)],
   none⟩,⟨(some 35),.call (.const (.func (.func 20) [] [])) [(.tmp 31),(.tmp 34)],none⟩,⟨(some 6),.alloc [.int .i64 0,.int .i64 0,.bG],none⟩,⟨(some 7),.alloc [.int .i64 0,.int .i64 0,.bG],none⟩,⟨none,.store 3 (.tmp 6) (.tmp 30),none⟩,⟨none,.store 3 (.tmp 7) (.tmp 35),none⟩] [(3,2),(3,6),(4,2),(5,2),(8,2),(8,6),(8,7),(9,2),(9,6),(9,7)]) (.seq
   (.ops [⟨(some 37),.load true 3 (.tmp 6),none⟩,⟨(some 38),.call (.const (.func (.func 45) [] [])) [(.tmp 37)],none⟩,⟨(some 36),.mO (.tmp 38),none⟩,⟨(some 39),.Ul (.tmp 36) 0,none⟩,⟨(some 40),.Ul (.tmp 36) 1,none⟩,⟨(some 8),.mO (.tmp 39),none⟩,⟨(some 9),.mO (.tmp 40),none⟩]) (.seq (.seq (.ops [⟨(some 41),.mO (.tmp 8),none⟩,⟨(some 42),.un .not (.tmp
   41),none⟩,⟨(some 43),.mO (.tmp 42),none⟩,⟨(some 44),.mO (.tmp 9),some (43,false)⟩,⟨(some 45),.bin .neq (.tmp 44) (.const (.int .i64 0)),some (43,false)⟩,⟨(some 46),.pick (.tmp 43) (.const (.bool true)) (.tmp 45),none⟩,⟨(some 47),.mO (.tmp 46),none⟩,⟨(some 48),.xM 2 (.tmp 6),some (47,false)⟩,⟨(some 49),.load false 1 (.tmp 48),some (47,false)⟩,⟨(some 50),.QT
   (.tmp 49),some (47,false)⟩,⟨(some 51),.bin .neq (.tmp 50) (.const (.int .i64 9)),some (47,false)⟩,⟨(some 52),.pick (.tmp 47) (.const (.bool true)) (.tmp 51),none⟩,⟨(some 53),.mO (.tmp 52),none⟩,⟨(some 54),.xM 2 (.tmp 7),some (53,false)⟩,⟨(some 55),.load false 1 (.tmp 54),some (53,false)⟩,⟨(some 56),.QT (.tmp 55),some (53,false)⟩,⟨(some 57),.bin .neq (.tmp 56)
   (.const (.int .i64 9)),some (53,false)⟩,⟨(some 58),.pick (.tmp 53) (.const (.bool true)) (.tmp 57),none⟩]) (.cond (.tmp 58) (.seq (.ops [⟨(some 4),.mO (.const (.bool false)),none⟩]) (.ret)) (.skip))) (.seq (.draw [⟨(some 59),.xM 2 (.tmp 6),none⟩,⟨(some 60),.load false 1 (.tmp 59),none⟩,⟨(some 61),.rH none 36 (.tmp 60) (.const (.int .i64 0)),none⟩,⟨(some 62),.load true 36
   (.tmp 61),none⟩,⟨(some 63),.xM 2 (.tmp 6),none⟩,⟨(some 64),.load false 1 (.tmp 63),none⟩,⟨(some 65),.rH none 36 (.tmp 64) (.const (.int .i64 4)),none⟩,⟨(some 66),.load true 36 (.tmp 65),none⟩,⟨(some 67),.xM 2 (.tmp 6),none⟩,⟨(some 68),.load false 1 (.tmp 67),none⟩,⟨(some 69),.rH none 36 (.tmp 68) (.const (.int .i64 8)),none⟩,⟨(some 70),.load true 36 (.tmp 69),
   none⟩,⟨(some 10),.alloc HO,none⟩,⟨(some 11),.alloc HO,none⟩,⟨(some 12),.alloc HO,none⟩,⟨none,.store 36 (.tmp 10) (.tmp 62),none⟩,⟨none,.store 36 (.tmp 11) (.tmp 66),none⟩,⟨none,.store 36 (.tmp 12) (.tmp 70),none⟩] [(5,15),(7,15),(9,15),(9,16),(11,15),(11,16)]) (.seq (.seq (.ops [⟨(some 71),.xM 2 (.tmp 6),none⟩,⟨(some 72),.load false 1 (.tmp 71),none⟩,
   ⟨(some 73),.QT (.tmp 72),none⟩,⟨(some 74),.mO (.const (.int .i64 0)),none⟩]) (.block 0 (.loop (.seq (.ops [⟨(some 75),.bin .lss (.tmp 74) (.tmp 73),none⟩]) (.seq (.cond (.tmp 75) (.skip) (.exit 0)) (.seq (.block 1 (.seq (.ops [⟨(some 76),.mO (.tmp 74),none⟩,⟨(some 13),.mO (.tmp 76),none⟩]) (.seq (.draw [⟨(some 77),.xM 2 (.tmp 7),none⟩,⟨(some 78),.load false 1 (.tmp 77),
   none⟩,⟨(some 79),.mO (.tmp 13),none⟩,⟨(some 80),.rH none 36 (.tmp 78) (.tmp 79),none⟩,⟨(some 81),.load true 36 (.tmp 80),none⟩,⟨(some 82),.xM 2 (.tmp 6),none⟩,⟨(some 83),.load false 1 (.tmp 82),none⟩,⟨(some 84),.mO (.tmp 13),none⟩,⟨(some 85),.rH none 36 (.tmp 83) (.tmp 84),none⟩,⟨(some 86),.load true 36 (.tmp 85),none⟩,⟨(some 87),.xM 2 (.tmp 6),none⟩,⟨(some
   88),.load false 1 (.tmp 87),none⟩,⟨(some 89),.mO (.tmp 13),none⟩,⟨(some 90),.rH none 36 (.tmp 88) (.tmp 89),none⟩,⟨(some 91),.load true 36 (.tmp 90),none⟩,⟨(some 92),.call (.const (.func (.func 44) [] [])) [(.tmp 86),(.tmp 91)],none⟩,⟨(some 93),.eqf true [.b,.b,.i,.i,.i,.i,.i,.i,.i,.i,.i,.i,.i,.i,.i,.i,.i,.i,.b,.b,.i,.i,.i,.i,.i,.i,.i,.i,
   .i,.i,.i,.i,.i,.i,.i,.i] (.tmp 81) (.tmp 92),none⟩] [(1,15),(4,15)]) (.cond (.tmp 93) (.seq (.ops [⟨(some 4),.mO (.const (.bool false)),none⟩]) (.ret)) (.skip))))) (.ops [⟨(some 94),.bin .add (.tmp 74) (.const (.int .i64 1)),none⟩,⟨(some 74),.mO (.tmp 94),none⟩]))))))) (.seq (.draw [⟨(some 95),.call (.const (.func (.func 9) [] [])) [],none⟩,⟨(some
   96),.mO (.tmp 95),none⟩,⟨(some 97),.load true 36 (.tmp 10),some (96,true)⟩,⟨(some 98),.load true 36 (.tmp 11),some (96,true)⟩,⟨(some 99),.load true 36 (.tmp 12),some (96,true)⟩,⟨(some 100),.call (.const (.func (.func 44) [] [])) [(.tmp 98),(.tmp 99)],some (96,true)⟩,⟨(some 101),.call (.const (.func (.func 42) [] [])) [(.tmp 97),(.tmp 100)],some (96,
   true)⟩,⟨(some 102),.bin .leq (.tmp 101) (.const (.int .i64 0)),some (96,true)⟩,⟨(some 103),.pick (.tmp 96) (.tmp 102) (.const (.bool false)),none⟩,⟨(some 104),.mO (.tmp 103),none⟩,⟨(some 105),.load true 36 (.tmp 11),some (104,true)⟩,⟨(some 106),.load true 36 (.tmp 10),some (104,true)⟩,⟨(some 107),.load true 36 (.tmp 12),some (104,true)⟩,⟨(some 108),.call (.const (.func
   (.func 44) [] [])) [(.tmp 106),(.tmp 107)],some (104,true)⟩,⟨(some 109),.call (.const (.func (.func 42) [] [])) [(.tmp 105),(.tmp 108)],some (104,true)⟩,⟨(some 110),.bin .leq (.tmp 109) (.const (.int .i64 0)),some (104,true)⟩,⟨(some 111),.pick (.tmp 104) (.tmp 110) (.const (.bool false)),none⟩,⟨(some 112),.mO (.tmp 111),none⟩,⟨(some 113),.load true 36
   (.tmp 12),some (112,true)⟩,⟨(some 114),.load true 36 (.tmp 10),some (112,true)⟩,⟨(some 115),.load true 36 (.tmp 11),some (112,true)⟩,⟨(some 116),.call (.const (.func (.func 44) [] [])) [(.tmp 114),(.tmp 115)],some (112,true)⟩,⟨(some 117),.call (.const (.func (.func 42) [] [])) [(.tmp 113),(.tmp 116)],some (112,true)⟩,⟨(some 118),.bin .leq (.tmp 117)
   (.const (.int .i64 0)),some (112,true)⟩,⟨(some 119),.pick (.tmp 112) (.tmp 118) (.const (.bool false)),none⟩,⟨(some 4),.mO (.tmp 119),none⟩] [(2,5),(10,13),(18,21),(0,26),(6,26),(14,26),(22,26),(0,27),(6,27),(14,27),(22,27)]) (.ret)))))))))⟩,by kernel_rfl⟩
theorem bRi:gX Tryz.prog lY false 6 W6T.1:=dT Tryz.func6 (by kernel_rfl) W6T.2
end Go.Proofs.YtogfcjbgeebfkaaGreatDoor
namespace Go.Proofs.YtogfcjbgeebfkaaGreatDoor
open Go Go.Av Go.aH Go.iW
attribute [local congr] aZ aQ aR aL bD aU aS aG bE
attribute [local irreducible] FC bS eE
variable{name:List UInt8}
theorem gh(BS:name.length<2^63){S:List (AV×List aH.V)}(AF:∀p∈S,rI p)(Q:∀p∈S,p.2.length<2^30)(vY:S.length<2^30)(w R B r1:Int)(H:aB):
 Sg 47 [.agg (iQ name (.bK 0 1 (ML S)) w R B r1)] H (.ret (.int .i64 (CU name (S.map (·.2)) w R B r1))) H:=by
 have uD:cP [AV.agg (iQ name (.bK 0 1 (ML S)) w R B r1)]=true:=by simp only[sf,iQ,Qu AF]
 refine So bKv uD ?_ H;have D:(S.map (·.2)).length=S.length:=Ah _;unfold W47;dsimp only;have b:(ML S).length=S.length:=Ah _;have d1:decide ((S.length:Int)<1)=decide (S.length<1):=by rw[Bj];omega
 have d2:decide ((S.length:Int)>8)=decide (8<S.length):=by rw[Bj];omega
 refine bP ?_;simp only[↓zP,zJ,seval,iQ];refine bQ ?_;generalize hX:(aB.mk 0 .nil).alloc _=c;have g0:=Kv (i:=0) hX;clear hX;have b5:=YY name BS;refine bP ?_;refine Wz ?_
 cases J:BL name with
 |false=>refine Ty ?_;refine Rx ?_;unfold CU;rw[if_pos J];rfl
 |true=>
 refine Ty ?_;refine fQ ?_
 cases O:decide (S.length<1) with
 |true=>rw[O] at d1;refine Wz ?_;refine Rx ?_;unfold CU;rw[if_neg ZbW,if_pos (.inl (by rw[D];exact Ek O))];rfl
 |false=>
 rw[O] at d1
 cases Z:decide (8<S.length) with
 |true=>rw[Z] at d2;refine Wz ?_;refine Rx ?_;unfold CU;rw[if_neg ZbW,if_pos (.inr (by rw[D];exact Ek Z))];rfl
 |false=>
 rw[Z] at d2
 have l7:aLt w R B r1=true->CU name (S.map (·.2)) w R B r1=1:=fun X=>by unfold CU;rw[if_neg ZbW,if_neg ZbR,if_pos X]
 have a7:aLt w R B r1=false->CU name (S.map (·.2)) w R B r1=HJ (S.map (·.2)):=fun X=>by unfold CU;rw[if_neg ZbW,if_neg ZbR,if_neg (by rw[X];decide)]
 unfold aLt at l7 a7;refine Wz ?_;refine bQ ?_;refine cC fun f N=>?_;have u:=Kf (i:=1) N;clear N;refine aP fun K hK=>?_
 cases s:decide (w<1) with
 |true=>rw[s] at l7;refine Wy ?_;refine Rx ?_;rw[l7 A3];rfl
 |false=>
 cases aA:decide (R<w) with
 |true=>rw[aA] at l7;refine Wy ?_;refine Rx ?_;rw[l7 A3];rfl
 |false=>
 cases az:decide (R>1099511627776) with
 |true=>rw[az] at l7;refine Wy ?_;refine Rx ?_;rw[l7 A3];rfl
 |false=>
 cases ay:decide (B<0) with
 |true=>rw[ay] at l7;refine Wy ?_;refine Rx ?_;rw[l7 A3];rfl
 |false=>
 cases ar:decide (r1<B) with
 |true=>rw[ar] at l7;refine Wy ?_;refine Rx ?_;rw[l7 A3];rfl
 |false=>
 cases aq:decide (r1>4000) with
 |true=>rw[aq] at l7;refine Wy ?_;refine Rx ?_;rw[l7 A3];rfl
 |false=>
 rw[s,aA,az,ay,ar,aq] at a7;rw[a7 rfl] at hK ⊢;clear l7 a7;refine Wy ?_;apply hK;clear hK K;refine cC fun g N=>?_;have g1:=Ks N u;clear N u f
 have hF:∀i (F:i<S.length),(∀j (Y:j<i),nF (S[j]'(Cx Y F)).2=0)->nF S[i].2≠0->HJ (S.map (·.2))=nF S[i].2:=fun i F O Z=>by have :=iu (ls:=S.map (·.2)) (i:=i) (by rw[D];exact F) (fun j Y=>by rw[Dv];exact O j Y) (by rw[Dv];exact Z);rw[this,Dv]
 generalize Py:[AV.str name,.bK 0 1 (ML S),.int .i64 w,.int .i64 R,.int .i64 B,.int .i64 r1]=bc at *;have ab:bc.getD 1 aC=.bK 0 1 (ML S):=by subst Py;rfl
 have bl:bc.length=6:=by subst Py;rfl
 refine aP fun K hK=>?_;refine bP ?_;refine Tz ?_;refine bQ ?_;refine cH [] (fun i _ H'=>H'=c/\∀j (Y:j<i) (U:j<S.length),nF S[j].2=0) 0 S.length (Bh _) A0 A1 ?_ ?_ ?_ ?_ ?_
 . exact zq
 . exact Zbm
 . rintro i f H1 G F E T ⟨rfl,_⟩;have u:f 1=.ref 0 0:=by rw[E 1 rfl];simp only[zB,seval];exact g1
   simp only[↓zP,zJ,seval,T,u,g0,bl,ab,b];exact tB A0
 . rintro i f H1 G F E T ⟨rfl,t⟩;have u:f 1=.ref 0 0:=by rw[E 1 rfl];simp only[zB,seval];exact g1
   have d:(ML S).getD i []=[S[i].1]:=fT F;have m:=AF _ (Ag F);have U:=Q _ (Ag F);have ag:=hF i F (fun j Y=>t j Y (Cx Y F))
   have a6:nF S[i].2=0->∀j (Y:j<i+1) (U:j<S.length),nF S[j].2=0:=fun h j Y U=>by
    by_cases e:j=i
    . subst e;exact h
    exact t j A0 U
   generalize S[i]=p at *;obtain⟨pv,l⟩:=p;simp only at d m U ag a6;have hc:=RA m U;simp only at hc;refine aM ?_;refine bP ?_;refine Wy ?_;refine bQ ?_;refine aP fun L dJ=>?_;by_cases z:qC l=0
   . have X:(qC l != 0)=false:=(by simp[z]);obtain⟨_,_,_,_,b8,Nl,b7⟩:=rM z
     obtain⟨rfl⟩:pv=.bK 0 3 (bU l):=by
      rcases m with ⟨_,h⟩|h
      . exact absurd h Nl
      exact h
     have aK:=aAl (tag:=0) rfl U;refine Ww ?_;apply dJ;clear dJ L;simp only[↓zP,zJ,seval,T,u,g0,bl,ab,aI,b,F,d];refine eI (aK _) ?_
     cases ak:l.any OK with
     |true=>have aE:nF l=1:=(by unfold nF;rw[if_neg (by simp[z]),ak];rfl);refine Ty ?_;refine Rx ?_;rw[ag (by rw[aE];decide),aE];rfl
     |false=>have aO:nF l=0:=(by unfold nF;rw[if_neg (by simp[z]),ak];rfl);refine Ty ?_;exact⟨trivial,a6 aO⟩
   have X:(qC l != 0)=true:=(by simp[z]);have aj:nF l=qC l:=(by unfold nF;rw[if_pos z]);simp only[↓zP,zG,seval,X];refine Rx ?_;rw[ag (by rw[aj];exact z),aj];rfl
 rintro f H1 E ⟨rfl,t⟩;have y:∀j (U:j<S.length),nF S[j].2=0:=fun j U=>t j U U
 have r:=im (ls:=S.map (·.2)) (fun l U=>by
  obtain⟨p,m,rfl⟩:=Be.1 U;obtain⟨j,Y,rfl⟩:=Dl m
  exact y j Y)
 have nh:∀j (U:j<S.length),qC S[j].2=0/\S[j].1=.bK 0 3 (bU S[j].2)/\∀v∈S[j].2,bT (2^12) v:=fun j U=>by
  obtain⟨G,aN⟩:=qc (y j U);refine⟨G,?_,fun v J=>?_⟩
  . rcases AF _ (Ag U) with ⟨_,h⟩|h
    . rw[h,Pc] at G;cases G
    exact h
  have :=aN v J;simp only[OK,Ii,Cd] at this;unfold bT;omega
 have u:f 1=.ref 0 0:=by rw[E 1 rfl];simp only[zB,seval];exact g1
 refine Tx ?_;apply hK;clear hK K;refine aP fun K hK=>?_;refine bP ?_;refine Tz ?_;refine bQ ?_;refine cH [] (fun i _ H'=>H'=H1/\∀a k (I:a<i) (U:a<S.length) (E:k<a),rN S[a].2 (S[k]'(Cx E U)).2=true) 0 S.length (Bh _) A0 A1 ?_ ?_ ?_ ?_ ?_
 . exact zq
 . exact⟨rfl,fun a k I=>absurd I (Am _)⟩
 . rintro i P H2 G F fS o ⟨rfl,_⟩;have u1:P 1=.ref 0 0:=by rw[fS 1 rfl];simp only[zB,seval];exact u
   simp only[↓zP,zJ,seval,o,u1,g0,bl,ab,b];exact tB A0
 . rintro i P H2 G F fS o ⟨rfl,af⟩;have u1:P 1=.ref 0 0:=by rw[fS 1 rfl];simp only[zB,seval];exact u
   have d:(ML S).getD i []=[S[i].1]:=fT F;obtain⟨sO,rT,Xi⟩:=nh i F
   have a6:(∀k (E:k<i),rN S[i].2 (S[k]'(Cx E F)).2=true)->∀a k (I:a<i+1) (U:a<S.length) (E:k<a),rN S[a].2 (S[k]'(Cx E U)).2=true:=fun h a k I U E=>by
    by_cases e:a=i
    . subst e;exact h k E
    exact af a k A0 U E
   have C:∀k (E:k<i),rN S[i].2 (S[k]'(Cx E F)).2=false->HJ (S.map (·.2))=150:=fun k E h=>by have :=ff (ls:=S.map (·.2)) (i:=i) (k:=k) (by rw[D];exact F) E (by rw[Dv,Dv];exact h);rw[r,this];rfl
   rw[rT] at d;refine aM ?_;refine bP ?_;refine Tz ?_;refine bQ ?_;refine cH [] (fun k vs H'=>H'=H2/\∀a (I:a<k) (U:a<i),rN S[i].2 (S[a]'(Cx U F)).2=true) 0 i (Bh _) A0 A1 ?_ ?_ ?_ ?_ ?_
   . exact zq
   . exact⟨rfl,fun a I=>absurd I (Am _)⟩
   . rintro k f3 W G ad n e3 _;have w5:f3 5=.int .i64 i:=(by rw[n 5 rfl];simp only[zB,seval];exact o);simp only[↓zP,zG,seval,e3,w5];exact tB A0
   . rintro k f3 W G ad n e3 ⟨rfl,ae⟩;have w1:f3 1=.ref 0 0:=(by rw[n 1 rfl];simp only[zB,seval];exact u1);have w5:f3 5=.int .i64 i:=(by rw[n 5 rfl];simp only[zB,seval];exact o);have x:=Cx ad F;obtain⟨M,CA,aF⟩:=nh k x;have A:(ML S).getD k []=[S[k].1]:=fT x;rw[CA] at A;have hd:=Vh (ta:=0) (tb:=0) rfl rfl M sO aF Xi
     have b4:rN S[i].2 S[k].2=true->∀a (I:a<k+1) (U:a<i),rN S[i].2 (S[a]'(Cx U F)).2=true:=fun h a I U=>by
      by_cases e:a=k
      . subst e;exact h
      exact ae a A0 U
     have b3:=C k ad;rw[vw] at hd;generalize S[k]=q at *;generalize b6:S[i]=p at *;refine aM ?_;refine bP ?_;refine Dz ?_;simp only[↓zP,zJ,seval,zD,w1,w5,e3,g0,bl,ab,aI,b,F,x,d,A];refine gV (hd _) ?_;simp only[↓zP,zJ,seval,zD];refine bQ ?_
     cases an:rN p.2 q.2 with
     |true=>refine Ty ?_;exact⟨trivial,b4 an⟩
     |false=>refine Ty ?_;refine Rx ?_;rw[b3 an];rfl
   rintro f3 W n ⟨rfl,ae⟩;refine Tx ?_;exact⟨trivial,a6 fun k E=>ae k E E⟩
 rintro P H2 fS ⟨rfl,af⟩
 have :=YG (ls:=S.map (·.2)) (fun a k I E=>by
  rw[Dv,Dv]
  exact af a k (by rwa [D] at I) (by rwa [D] at I) E)
 refine Tx ?_;apply hK;clear hK K;refine Tz ?_;refine Rx ?_;rw[r,this];rfl
theorem gp(b:name.length<2^63)(w R B r1:Int)(H:aB):
 Sg 47 [.agg (iQ name .bG w R B r1)] H (.ret (.int .i64 (CU name [] w R B r1))) H:=by
 refine So bKv (by simp only[sf,iQ]) ?_ H;unfold W47;dsimp only;refine bP ?_;simp only[↓zP,zJ,seval,iQ];refine bQ ?_;have a:=YY name b;have p:decide ((0:Int)<1)=true:=rfl;refine bP ?_;refine Ty ?_;refine eI (a _) ?_
 cases J:BL name with
 |false=>refine Ty ?_;refine Rx ?_;unfold CU;rw[if_pos J];rfl
 |true=>
 refine Ty ?_;refine bQ ?_;refine aP fun K hK=>?_;simp only[↓zP,zJ,seval,Gy];refine Rx ?_;unfold CU;rw[if_neg ZbW,if_pos (.inl A1)];rfl
theorem zp(b:name.length<2^63){pv:AV}{S:List (AV×List aH.V)}(I:AG pv S)(X:∀p∈S,rI p)(Q:∀p∈S,p.2.length<2^30)(d:S.length<2^30)(w R B r1:Int)(H:aB):
 Sg 47 [.agg (iQ name pv w R B r1)] H (.ret (.int .i64 (CU name (S.map (·.2)) w R B r1))) H:=by
 rcases I with ⟨h1,Z⟩|h1
 . rw[h1,Z];exact gp b w R B r1 H
 rw[h1];exact gh b X Q d w R B r1 H
def Pr(ls:List (List aH.V)):Bool:= !(ls.any fun l=>decide (10<l.length))&&decide (ls.length<=3)
variable{S:List (AV×List aH.V)}
theorem aHu(X:∀p∈S,rI p)(r:S.length<2^63)(w R B r1:Int)(H:aB):
 Sg 46 [.agg (iQ name (.bK 0 1 (ML S)) w R B r1)] H (.ret (.bool (Pr (S.map (·.2))))) H:=by
 have n:cP [AV.agg (iQ name (.bK 0 1 (ML S)) w R B r1)]=true:=by simp only[sf,iQ,Qu X]
 refine So bKu n ?_ H;unfold W46;dsimp only;have b:(ML S).length=S.length:=Ah _;refine bP ?_;simp only[↓zP,zJ,seval,iQ];refine bQ ?_;generalize hX:(aB.mk 0 .nil).alloc _=c;have g0:=Kv (i:=0) hX;clear hX;generalize q:[AV.str name,.bK 0 1 (ML S),.int .i64 w,.int .i64 R,.int .i64 B,.int .i64 r1]=o at *;have g:o.getD 1 aC=.bK 0 1 (ML S):=by subst q;rfl
 have O:o.length=6:=by subst q;rfl
 refine aP fun K hK=>?_;refine bP ?_;refine Tz ?_;refine bQ ?_;refine cH [] (fun i _ H'=>H'=c/\∀j (Y:j<i) (U:j<S.length),¬10<S[j].2.length) 0 S.length (Bh _) A0 A1 ?_ ?_ ?_ ?_ ?_
 . exact zq
 . exact Zbm
 . rintro i f H1 G F E T ⟨rfl,_⟩;have u:f 1=.ref 0 0:=E 1 rfl;simp only[↓zP,zJ,seval,T,u,g0,O,g,b];exact tB A0
 . rintro i f H1 G F E T ⟨rfl,t⟩;have u:f 1=.ref 0 0:=E 1 rfl;have d:(ML S).getD i []=[S[i].1]:=fT F;have m:=X _ (Ag F)
   have k:10<S[i].2.length->Pr (S.map (·.2))=false:=fun h=>by unfold Pr;rw[show((S.map (·.2)).any fun l=>decide (10<l.length))=true from Cz.2 ⟨S[i].2,Be.2 ⟨_,Ag F,rfl⟩,Af h⟩];rfl
   have a:¬10<S[i].2.length->∀j (Y:j<i+1) (U:j<S.length),¬10<S[j].2.length:=fun h j Y U=>by
    by_cases e:j=i
    . subst e;exact h
    exact t j A0 U
   generalize S[i]=p at *;obtain⟨pv,l⟩:=p;simp only at d m k a;have dd:decide ((l.length:Int)>10)=decide (10<l.length):=(by rw[Bj];omega);refine aM ?_;refine aP fun L dJ=>?_
   rcases m with ⟨h1,Z⟩|h1
   . simp only at h1 Z;subst h1;subst Z;refine Ww ?_;have s:decide ((0:Int)>10)=false:=rfl;apply dJ;clear dJ L;simp only[↓zP,zG,seval,decide_false];exact⟨trivial,a A1⟩
   simp only at h1;subst h1;by_cases A:10<l.length
   . rw[Af A] at dd;have := @aX;refine Wy ?_;apply dJ;clear dJ L;refine Tz ?_;refine Rx ?_;rw[k A];rfl
   rw[Ac A] at dd;simp only[↓zP,zJ,seval,T,u,g0,O,g,aI,b,F,d,aX,dd];apply dJ;clear dJ L;refine Tz ?_;exact⟨trivial,a A⟩
 rintro f H1 E ⟨rfl,t⟩;have u:f 1=.ref 0 0:=E 1 rfl;refine Tx ?_;apply hK;clear hK K;have dd:decide ((S.length:Int)<=3)=decide (S.length<=3):=by rw[Bj];omega
 refine Wz ?_;refine Rx ?_;unfold Pr
 rw[show((S.map (·.2)).any fun l=>decide (10<l.length))=false from by
  rw[Fp];intro l U;obtain⟨p,m,rfl⟩:=Be.1 U;obtain⟨j,Y,rfl⟩:=Dl m
  rw[Ac (t j Y Y)];decide,Ah]
 rfl
theorem aHv(w R B r1:Int)(H:aB):
 Sg 46 [.agg (iQ name .bG w R B r1)] H (.ret (.bool (Pr []))) H:=by
 refine So bKu (by simp only[sf,iQ]) ?_ H;unfold W46;dsimp only;refine bP ?_;simp only[↓zP,zJ,seval,iQ];refine bQ ?_;generalize hX:(aB.mk 0 .nil).alloc _=c;have g0:=Kv (i:=0) hX;clear hX;refine aP fun K hK=>?_;refine bP ?_;refine Tz ?_;refine bQ ?_;refine cH [] (fun i _ H'=>H'=c) 0 0 (Bh _) A0 A1 ?_ ?_ ?_ ?_ ?_
 . exact zq
 . rfl
 . rintro i f H1 G F E T rfl;have u:f 1=.ref 0 0:=E 1 rfl;simp only[↓zP,zJ,seval,T,u,g0];exact tB A0
 . rintro i f H1 G F E;exact absurd F (Am _)
 rintro f H1 E rfl;have u:f 1=.ref 0 0:=E 1 rfl;have s:decide ((0:Int)<=3)=true:=rfl;refine Tx ?_;apply hK;clear hK K;refine Wz ?_;exact ZaB
theorem aPu{pv:AV}(I:AG pv S)(X:∀p∈S,rI p)(d:S.length<2^63)(w R B r1:Int)(H:aB):
 Sg 46 [.agg (iQ name pv w R B r1)] H (.ret (.bool (Pr (S.map (·.2))))) H:=by
 rcases I with ⟨h1,Z⟩|h1
 . rw[h1,Z];exact aHv w R B r1 H
 rw[h1];exact aHu X d w R B r1 H
end Go.Proofs.YtogfcjbgeebfkaaGreatDoor
namespace Go.Proofs.YtogfcjbgeebfkaaGreatDoor
open Go Go.Av Go.iW Go.aH
attribute [local congr] aZ aQ aR aL bD aU aS aG bE
attribute [local irreducible] FC bS eE
def di(v:aH.V):Prop:=∀i,i<3->-1000<=v.at i/\v.at i<=1000
noncomputable def Xt (l:List aH.V):Bool:= @decide (∀v∈l,di v) (Classical.propDecidable _)
variable{l:List aH.V}
theorem Xu:Xt l=true↔∀v∈l,di v:=by simp[Xt]
theorem aNt(h:¬∀v∈l,di v):Xt l=false:=by rw[<-Fx,Xu];omega
variable{name:List UInt8}
theorem bBy{ls:List (List aH.V)}(hp:ls.length<=8)(U:∀l∈ls,l≠[]/\l.length<=64)(d:aH.V)(w R B r1:Int)(H:aB):
 Sg 35 [.agg (bd name ls w R B r1),.agg (cS d)] H (.ret (.bool (Xt (d::ls.flatten)))) H:=by
 refine So bQq (by simp only[sf,Oe,cD]) ?_ H;unfold W35;dsimp only;have b6:(bd name ls w R B r1).length=6:=rfl;have b1:(bd name ls w R B r1).getD 1 aC=.bK 0 1 (pE ls):=rfl;have ld:=oL (aW d);generalize bd name ls w R B r1=bc at *;refine bP ?_;refine Ty ?_;refine fQ ?_;refine Wz ?_;refine bQ ?_;generalize hX:aB.alloc _ _=c;have D:=Kv (i:=0) hX;have an:1<=c.next:=by subst hX;simp only[zI,seval]
 clear hX;refine cC fun f N=>?_;have P:=Kf (i:=2) N;have s:=Kf (i:=5) N;clear N;refine aP fun K hK=>?_;refine bP ?_;have := @NC;refine Wy ?_;refine bQ ?_
 have fl:∀i,((ls.take i).flatten).length<=512:=fun i=>by
  have :∀l:List (List aH.V),(∀x∈l,x.length<=64)->l.flatten.length<=l.length*64:=fun l=>by
   induction l with
   |nil=>simp
   |cons x r ih=>intro h;have h1:=h x Ay;have Z:=ih fun y Q=>h y (Ax _ Q);rw[Cb,Aq,As,Cy];omega
  have h3:=this (ls.take i) fun x C=>(U x (Cu C)).2;have h4:(ls.take i).length<=8:=by rw[Fb];omega
  have M:(ls.take i).length*64<=8*64:=Bc _ h4;omega
 refine bR [5] (fun i vs H'=>∃v,vs=[v]/\Has H' 3 v (bU (d::(ls.take i).flatten))/\H'.get 0=some (.cells bc false)/\1<=H'.next) ls.length A0 A1 ?_ ?_ ?_ ?_ ?_
 . exact zq
 . exact zq
 . exact⟨.bK 1 3 [cS d],by simp only[sm,zB,seval,s],.inl rfl,D,an⟩
 . rintro i u H1 F E T ⟨v,J,S,g0,gn⟩;simp only[zM] at J;have O:u 15=.bK 0 1 (pE ls):=E 15 rfl;have hg:=fg F
   have vZ:(ls.take (i+1)).flatten=(ls.take i).flatten++ls[i]:=by rw[Ao,Ai F,Ex];show _++(ls[i]++[])=_;rw[Bx]
   have a7:=U _ (Ag F);have AE:=fl i;generalize ls[i]=l at *;refine aM ?_;refine bP ?_;simp only[↓zP,zJ,seval,O,T,aI,NC,F,hg];refine bQ ?_;generalize hX:aB.set _ _ _=H2;have e:=Ku hX g0;have ur:=Kz hX;have un:1<=H2.next:=by subst hX;simp only[aB.bB,aB.bJ];omega
   have uo:Has H2 3 v (bU (d::(ls.take i).flatten)):=S.LP Zau fun k h1 Z=>by subst hX;rw[aB.aD,if_neg A0,aB.aJ,if_neg A0];exact Z
   clear hX
   have ab:(bU l).isEmpty=false:=by
    cases l with
    |nil=>exact absurd rfl a7.1
    |cons=>rfl
   obtain⟨W,z1,z2,b,z4,z5⟩:=Has.push uo (ys:=bU l) (bytes:=24) ab (by rw[aX,aX,As];omega);have m:=(z4 0 A0 (by rw[e];simp)).trans e;have z:dM H2 3 (.bK 0 3 (bU l))=some (bU l):=rfl;rw[vZ];simp only[↓zP,zJ,seval,J,ur,z,z1];refine⟨_,rfl,?_,m,by omega⟩;rw[show bU (d::((ls.take i).flatten++l))=bU (d::(ls.take i).flatten)++bU l by simp[bU]];exact .inr (.inr ⟨H2.next,rfl,by omega,b⟩)
 rintro u H1 E ⟨v,J,S,g0,gn⟩;simp only[zM] at J;rw[Ap] at S
 have L:∃t,v=.bK t 3 (bU (d::ls.flatten)):=by
  rcases S with rfl|⟨_,h⟩|⟨k,rfl,_⟩
  . exact⟨_,rfl⟩
  . simp[bU] at h
  exact⟨_,rfl⟩
 obtain⟨t,rfl⟩:=L;have AE:(d::ls.flatten).length<=513:=by have :=fl ls.length;rw[Ap] at this;rw[As];omega
 clear S fl;generalize d::ls.flatten=l at *;refine Tx ?_;apply hK;clear hK K;refine aP fun K hK=>?_;refine bP ?_;simp only[↓zP,zG,seval,J,aX];refine bQ ?_;refine bR [] (fun i _ H'=>∀j (Y:j<i) (U:j<l.length),di l[j]) l.length A0 A1 ?_ ?_ ?_ ?_ ?_
 . exact zq
 . exact zq
 . exact fun j Y=>absurd Y (Am _)
 . rintro i f H2 F fS o a;have a6:f 26=.bK t 3 (bU l):=fS 26 rfl;have hg:=cG F;have LB:¬di l[i]->Xt l=false:=fun h=>aNt fun Z=>h (Z _ (Ag F))
   have GV:di l[i]->∀j (Y:j<i+1) (U:j<l.length),di l[j]:=fun h j Y U=>by
    rcases Nat.lt_or_eq_of_le (Nat.le_of_lt_succ Y) with h1|h1
    . exact a j h1 U
    subst h1;exact h
   generalize l[i]=v at *;have lv:=oL (aW v);refine aM ?_;refine bP ?_;simp only[↓zP,zJ,seval,a6,o,aI,aX,F,hg,lv];refine bQ ?_;generalize hX:aB.set _ _ _=W;have u9:=Kz hX;clear hX;refine bP ?_;refine Wy ?_;refine bQ ?_;refine fE [] (fun k _ H'=>H'=W/\∀j,j<k->-1000<=v.at j/\v.at j<=1000) 3 A1 rfl A1 ?_ ?_ ?_ ?_
   . exact zq
   . exact Zbm
   . rintro k g G n ON e4 ⟨rfl,Y⟩;have ad:g 32=.agg (cS v):=ON 32 rfl;have A:=iY v n;refine aM ?_;refine bP ?_;have :k<=2:=A0;have := @aW;refine Wy ?_;refine bQ ?_;by_cases I:v.at k>1000
     . have p:=Af I;have X:=LB fun h=>by have :=(h k n).2;omega
       rw[X];simp only[↓zP,zG,seval,p];exact ZaB
     have p:=Ac I;by_cases c2:v.at k< -1000
     . have q:=Af c2;have X:=LB fun h=>by have :=(h k n).1;omega
       rw[X];simp only[↓zP,zG,seval,p,q];exact ZaB
     have q:=Ac c2;simp only[↓zP,zG,seval,p,q];refine⟨trivial,fun j TN=>?_⟩
     rcases Nat.lt_or_eq_of_le (Nat.le_of_lt_succ TN) with h|h
     . exact Y j h
     rw[h];omega
   rintro g G ON ⟨rfl,Y⟩;exact GV fun i F=>Y i F
 rintro f H2 fS a
 have :Xt l=true:=Xu.2 fun v J=>by obtain⟨j,Y,rfl⟩:=Dl J;exact a j Y Y
 rw[this] at hK;refine Tx ?_;apply hK;clear hK K;refine Tz ?_;exact ZaB
theorem YS(b:name.length<2^63){pv:AV}{S:List (AV×List aH.V)}(I:AG pv S)(X:∀p∈S,rI p)(d:S.length<2^63)(w R B r1:Int)(H:aB):
 Sg 7 [.agg (iQ name pv w R B r1)] H (.ret (.bool (Pr (S.map (·.2))&&(CU name (S.map (·.2)) w R B r1==0)))) H:=by
 refine Sp is7 (by simp only[sf,iQ,I.free X]) Zad ?_ H;unfold W7;dsimp only;have e:=aPu (name:=name) I X d w R B r1
 have i:Pr (S.map (·.2))=true->(∀p∈S,p.2.length<2^30)/\S.length<2^30:=fun h=>by simp only[Pr,Ak,Ct,Fp,Bs,Ah] at h;refine⟨fun p m=>?_,by omega⟩;have :=h.1 p.2 (Be.2 ⟨p,m,rfl⟩);omega
 have a:=fun h=>zp (name:=name) b I X (i h).1 (i h).2 w R B r1;have G:(iQ name pv w R B r1).length=6:=rfl;generalize iQ name pv w R B r1=o at *;generalize CU name (S.map (·.2)) w R B r1=z at *;refine bP ?_;refine Ty ?_;refine bQ ?_;have :=oL G;refine Wz ?_
 cases c:Pr (S.map (·.2)) with
 |false=>refine Tz ?_;refine Rx ?_;rfl
 |true=>simp only[↓zP,zJ,seval,oL G];refine eI (a c _) ?_;refine Tz ?_;refine Rx ?_;rfl
end Go.Proofs.YtogfcjbgeebfkaaGreatDoor
