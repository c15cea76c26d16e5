/-
  Part of the proof of statement 9
-/
import Derived.Test.YtogfcjbgeebfkaaGreatDoorA11
import Derived.Test.YtogfcjbgeebfkaaGreatDoorA17
import Derived.Test.YtogfcjbgeebfkaaGreatDoorA19
import Derived.Test.YtogfcjbgeebfkaaGreatDoorA20
import Derived.Test.YtogfcjbgeebfkaaGreatDoorA07
import Derived.Test.YtogfcjbgeebfkaaGreatDoorA05
set_option linter.unusedSimpArgs false
set_option linter.unusedVariables false
set_option maxRecDepth 100000
set_option maxHeartbeats 16000000
namespace Go.Proofs.YtogfcjbgeebfkaaGreatDoor
open Go Go.Av Go.jG Go.aC
attribute [local congr] aX aQ aR aL bA aW aS aG bB
attribute [local irreducible] FC bT eI
variable{H:aA}
theorem aKu{P:Program}{g:bL}{n:Nat}{pairs:List (Nat×Nat)}{base:Nat}{i k:Nat}{X:List bG}{a:List (Nat×Nat)}{p:List (Nat×aA×aA)}{f:dD}{R:dD->aA->Prop}
 {d:Nat} {c:Arg} {fid:FuncId} {fs cs:List AV} {xs:List Arg} {args:List AV} {v:AV} {H':aA} (hd:d<n) (b:oG g f c=.func (.func fid) fs cs) (I:fs++xs.map (oG g f)++cs=args) (u:Sound P g fid args H (.ret v) H') (A:H.next<=H'.next)
 (V:∀x∈a,(x.1,i)∈pairs->H.get x.2=H'.get x.2)
 (h:eI P g n pairs base (i+1) k X a ((i,H,H')::p) (kI f d v) H' R):eI P g n pairs base i k (⟨some d,.call c xs,none⟩::X) a p f H R:=by
 have :∀v,gK n f (some d) v=kI f d v:=fun v=>by simp[gK,hd]
 unfold eI;rw[if_pos (by rfl)];simp only[this];refine⟨v,H',?_,A,V,h⟩;show ∃q,_=some q/\_;refine⟨(fid,fs,cs),?_,?_⟩
 . rw[b];rfl
 rw[I];exact u
def iI(l:List aC.V)(k:Nat):aC.V:=l.getD k V0
def yU(l:List aC.V)(t:Nat×Nat×Nat):List AV:=cG (iI l t.1)++cG (iI l t.2.1)++cG (iI l t.2.2)
def nF(l:List aC.V)(t:Nat×Nat×Nat):Int:=D3 (iI l t.1) (iI l t.2.1) (iI l t.2.2)
variable{H1:aA}{r:Nat}
theorem Me.trans{w:aA}(h:Me H H1 r)(k:Me H1 w r):Me H w r:=⟨Ay h.1 k.1,fun j a b=>(k.2 j (Bg a h.1) b).trans (h.2 j a b)⟩
theorem Me.of(h:Over H H1):Me H H1 r:=⟨h.le,fun j a _=>h.same j a⟩
def lg(l:List aC.V)(fid r:Nat)(I:List (Nat×Nat×Nat)->aA->Prop):Prop:=∀T t H,t.1<l.length->t.2.1<l.length->t.2.2<l.length->r<H.next->bH H->I T H->
 ∃H',Sg fid [.agg (cI (nF l t)),.agg (yU l t),.ref r 0] H (.ret (nN [])) H'/\I (T++[t]) H'/\Me H H' r/\bH H'
theorem Rh{tag:Nat}(ht:Nat.blt tag 2=true){l:List aC.V}{M:Nat}(hl:∀v∈l,bN M v)(g:M<=2^18)(Q:l.length<=64){S:List (aC.V×Int)}{L:aC.V×Int->List Nat}(u:vJ l S L)(cU:S≠[])(aj:KG (iI l) l.length)
 {fid r:Nat} (I:List (Nat×Nat×Nat)->aA->Prop) (A:∀T H H',Over H H'->I T H->I T H') (gC:lg l fid r I) {H0:aA} (hr:r<H0.next) (h0:I [] H0) (a7:bH H0):
 ∃out H',(out=.ret (nN [])/\I (S.flatMap fun q=>lC (L q)) H'/\Me H0 H' r/\bH H')/\Sg 138 [.agg [.bJ tag 3 (bR l)],.func (.func fid) [] [.ref r 0]] H0 out H':=by
 refine dM fit aSn (Ai rfl) ?_;unfold aLd;dsimp only
 have nm:S.length<=2^20:=by have O:=zS (N:=l.length) (p:=fun i=>l.getD i V0) (No u.fl) (fun q D=>(u.fl.mem q).1 D);have Z:l.length*(l.length*(l.length*2))<=64*(64*(64*2)):=Be Q (Be Q (Be Q (Ae _)));omega
 have aq:=FE ht hl g Q u cU;refine bP ?_;refine Tz ?_;refine fW ?_;refine Wz ?_;refine bQ ?_;generalize G:aA.alloc _ eG.tok=HA;have a2:HA.get H0.next=some (.cells [.bJ tag 3 (bR l)] false):=by subst G;rw[aA.aI,if_neg A2,aA.aI,if_pos rfl]
 have aO:Over H0 HA:=by subst G;exact((Over.refl H0).alloc _).alloc _
 have aF:bH HA:=by subst G;exact(a7.alloc _).alloc _
 have aN:H0.next+1<HA.next:=by subst G;simp only[aA.bK];omega
 clear G;refine bW fun f hf=>?_;have b:=Kf (i:=1) hf;have s:=Kf (i:=2) hf;obtain⟨tg,f9⟩:∃tg,f 9=.bJ tg 5 (S.map (cX L)):=by subst hf;exact⟨H0.next+1+2,by simp only[zB,seval]⟩
 have af:f 10=.int .i64 (S.length:Nat):=by subst hf;simp only[zB,seval,Ah]
 have ae:=Kf (i:=11) hf;clear hf;refine bS [] (fun i _ H'=>I ((S.take i).flatMap fun q=>lC (L q)) H'/\Me H0 H' r/\bH H'/\H'.get H0.next=some (.cells [.bJ tag 3 (bR l)] false)/\H0.next<H'.next) S.length A0 A1 ?_ ?_ ?_ ?_ ?_
 . exact ae
 . exact af
 . exact⟨A _ _ _ aO h0,.of aO,aF,a2,by omega⟩
 . rintro i f' H1 hi E e1 ⟨J,QT,a,d,gn⟩;have k1:=(E 1 rfl).trans b;have k2:=(E 2 rfl).trans s;have k9:=(E 9 rfl).trans f9;have t:(S.map (cX L)).getD i []=cX L S[i]:=eO hi;have h:=Ac hi;have dw:=u.po _ h;have hF:=(u.fl.mem _).1 h;obtain⟨al,ag⟩:=dw.ZF aj hF
   have uL:((S.take (i+1)).flatMap fun q=>lC (L q))=((S.take i).flatMap fun q=>lC (L q))++lC (L S[i]):=by rw[Ao,Gg];simp[hi]
   rw[uL];generalize (S.take i).flatMap (fun q=>lC (L q))=T0 at *;generalize S[i]=q at *;have p5:(cX L q).length=5:=rfl;have U:(cX L q).getD 4 aB=.bJ 0 1 (yL (L q)):=rfl;refine aJ ?_;refine bP ?_;simp only[↓zP,zJ,seval,e1,k9,aD,Ah,hi,t,oL p5];refine bQ ?_;generalize G:(H1.alloc _).set H1.next _=o;have n:=Ku G d;have e:=Kz G;have un:o.next=H1.next+1:=ZbQ;have uF:bH o:=(by subst G;exact(a.alloc _).set Zao _);have uO:Over H1 o:=(by subst G;exact((Over.refl H1).alloc _).set (Ae _) _);have uS:Me H0 o r:=QT.trans (.of uO);have uI:I T0 o:=A _ _ _ uO J;clear G J QT a d uO;generalize H1.next=F at *;refine bW fun f hf=>?_;have j1:=Ks hf k1;have j2:=Ks hf k2;have j5:=Kf (i:=5) hf;clear hf;refine bP ?_;refine Tz ?_;refine bQ ?_;have ak:(lC (L q)).length=(L q).length -2:=by simp[lC]
   have an:(L q).length<=l.length:=by
    have O:=tL (L q) (iE (fun i=>l.getD i V0) l.length q.1 q.2) dw.nodup (fun x hx=>dw.aGz hx)
    have Z:(iE (fun i=>l.getD i V0) l.length q.1 q.2).length<=l.length:=by have :=Db (fun k=>decide (dot q.1 (l.getD k V0)=q.2)) (List.range l.length);simpa [iE] using this
    omega
   refine cL [] (fun i _ H'=>I (T0++(lC (L q)).take (i -2)) H'/\Me H0 H' r/\bH H'/\H'.get H0.next=some (.cells [.bJ tag 3 (bR l)] false)/\H'.get F=some (.cells (cX L q) false)/\F<H'.next) 2 (L q).length A0 A0 A1 ?_ ?_ ?_ ?_ ?_
   . exact zq
   . exact⟨by simpa using uI,uS,uF,n,e,by omega⟩
   . rintro j s w OH Y fI P ⟨J,QT,a,d,g5,gn⟩;have m5:s 5=.ref F 0:=(by rw[fI 5 rfl];simp only[zB,seval];exact j5);simp only[↓zP,zJ,seval,P,m5,g5,p5,U,dQ];exact tB A0
   . rintro j s w OH Y fI P ⟨J,QT,a,d,g5,gn⟩;have m1:s 1=.func (.func fid) [] [.ref r 0]:=(by rw[fI 1 rfl];simp only[zB,seval];exact j1);have m2:s 2=.ref H0.next 0:=(by rw[fI 2 rfl];simp only[zB,seval];exact j2);have m5:s 5=.ref F 0:=(by rw[fI 5 rfl];simp only[zB,seval];exact j5);obtain⟨a1,a2,a3,_,_⟩:=ag (j -2) A0
     have c:(lC (L q)).take (j+1 -2)=(lC (L q)).take (j -2)++[((L q).getD 0 0,(L q).getD (j -2+1) 0,(L q).getD (j -2+2) 0)]:=by have fF:j -2<(lC (L q)).length:=A0;rw[show j+1 -2=j -2+1 by omega,Ao,Af fF];simp[lC]
     rw[c,<-Dg];have s1:j -2+1=j -1:=A0;have s2:j -2+2=j:=A0;rw[s1] at a2 ⊢;rw[s2] at a3 ⊢;have R:=(cJ.1 a1).1;have b2:=(cJ.1 a2).1;have b3:=(cJ.1 a3).1;have o1:(yL (L q)).getD 0 []=[.int .i64 ((L q).getD 0 0:Nat)]:=(by rw[pF A0];simp[List.getD,show 0<(L q).length by omega]);have o2:(yL (L q)).getD (j -1) []=[.int .i64 ((L q).getD (j -1) 0:Nat)]:=(by rw[pF A0];simp[List.getD,show j -1<(L q).length by omega]);have o3:(yL (L q)).getD j []=[.int .i64 ((L q).getD j 0:Nat)]:=(by rw[pF A0];simp[List.getD,Y]);have vg:∀k,k<l.length->(bR l).getD k []=cG (iI l k):=fun k E=>by rw[cH E];simp[iI,List.getD,E]
     have K:∀k,k<l.length->bN M (iI l k):=fun k E=>by have :iI l k=l[k]:=(by simp[iI,List.getD,E]);rw[this];exact hl _ (Ac E)
     generalize (L q).getD 0 0=x at *;generalize (L q).getD (j -1) 0=y at *;generalize (L q).getD j 0=z at *;have w1:IntKind.i64.wrap ((j:Int) -1)=((j -1:Nat):Int):=wI A0;have l3:∀v,(cG v).length=3:=fun v=>aT v;refine aJ ?_;refine bP ?_;refine fT 1 A1 a.vm fun X n3 B=>?_;simp only[↓zP,zJ,seval,zD,m2,m5,P,B,d,g5,p5,U,AR,aD,dQ,aU,o1,o2,o3,w1,R,b2,b3,vg x R,vg y b2,vg z b3,show 0<(L q).length by omega,show j -1<(L q).length by omega,Y,aT];have h9:[AV.int .i64 (iI l x).x,.int .i64 (iI l x).y,.int .i64 (iI l x).z,.int .i64 (iI l y).x,.int .i64 (iI l y).y,.int .i64 (iI l y).z,.int .i64 (iI l z).x,.int .i64 (iI l z).y,.int .i64 (iI l z).z]=yU l (x,y,z):=rfl;have t9:(yU l (x,y,z)).length=9:=rfl;simp only[zJ,seval,zD,cG,h9,t9];refine bQ ?_;generalize G:(X.set w.next _).set w.next _=H5;have x2:=Kw G B d;have x5:=Kw G B g5;have x7:=Kz G;have xn:H5.next=w.next+1:=by subst G;simp only[aA.aZ,n3]
     have xO:Over w H5:=by subst G;refine⟨by simp only[aA.aZ,n3];omega,fun k E=>?_⟩;rw[aA.aH,if_neg A0,aA.aH,if_neg A0,B]
     have xF:bH H5:=by subst G;intro k E;simp only[aA.aZ,n3] at E;rw[aA.aH,if_neg A0,aA.aH,if_neg A0,B];exact a k A0
     have xI:=A _ _ _ xO J;have xS:Me H0 H5 r:=QT.trans (.of xO);clear G J a d g5 xO B n3 QT;generalize w.next=r7 at *;refine bW fun f3 hf=>?_;have q1:=Ks hf m1;have q7:=Kf (i:=7) hf;clear hf;have c1:=NH (K x R) (K y b2) (by have :M*M<=2^18*2^18:=Be g g;omega);have cn:=iQ (K x R) (K y b2);have ar:M*M<=2^18*2^18:=Be g g;have ay:2*(M*M)*M<=2^37*2^18:=Be A0 g
     have ic:∀i,IJ ((aY (iI l x) (iI l y)).at i):=fun i=>by have O:=cn.1;have Z:=cn.2.1;have W:=cn.2.2;unfold aC.V.at;split<;>constructor<;>omega
     have iz:∀i,IJ ((iI l z).at i):=fun i=>by have O:=(K z b3).1;have Z:=(K z b3).2.1;have W:=(K z b3).2.2;unfold aC.V.at;split<;>constructor<;>omega
     have m:=aCf ic iz;rw[XT cn (K z b3) A0] at m;change ∀H,Sg 185 [.agg (cG (aY (iI l x) (iI l y))),.agg (cG (iI l z))] H (.ret (.agg (cI (nF l (x,y,z))))) H at m;obtain⟨H9,C,ad,a6,ab⟩:=gC _ (x,y,z) H5 R b2 b3 (by have :=xS.1;omega) xF xI;have d0:(yU l (x,y,z)).take 3=cG (iI l x):=rfl;have d1:((yU l (x,y,z)).drop 3).take 3=cG (iI l y):=rfl;have d2:((yU l (x,y,z)).drop 6).take 3=cG (iI l z):=rfl;refine Dz ?_;have :=oL t9;refine Wz ?_;refine aKu (fid:=fid) (fs:=[]) (cs:=[.ref r 0]) A1 zq rfl C a6.1 (fun k E hp=>?_) ?_
     . exfalso;simp at hp
     simp only[seval,zD];exact⟨ad,xS.trans a6,ab,(a6.2 _ A0 A0).trans x2,(a6.2 _ A0 A0).trans x5,by have :=a6.1;omega⟩
   rintro s w fI ⟨J,QT,a,d,g5,gn⟩;rw[Au A0] at J;exact⟨J,QT,a,d,by have :=QT.1;omega⟩
 rintro f' H1 E ⟨J,QT,a,d,gn⟩;rw[Aq] at J;refine⟨rfl,[],rfl,rfl,J,QT,a⟩
end Go.Proofs.YtogfcjbgeebfkaaGreatDoor
namespace Go.Proofs.YtogfcjbgeebfkaaGreatDoor
open Go Go.Av Go.jG
attribute [local congr] aX aQ aR aL bA aW aS aG bB
attribute [local irreducible] FC bT eI
variable{b:Nat}
theorem bNb{x lo:Nat}(C:x<W)(h:lo+b<=W)(X:b<=1):∃D:Nat,IntKind.u64.wrap (IntKind.u64.wrap ((x:Int) -(lo:Int)) -(b:Int))=(D:Int)/\D%W=s9 x lo b/\D / 2^63=WG x lo b:=by
 have hW:W=4294967296:=rfl;refine⟨if x<lo+b then x+2^64 -lo -b else x -lo -b,?_,?_,?_⟩
 . have T:IntKind.u64.wrap ((x:Int) -(lo:Int))=((if x<lo then x+2^64 -lo else x -lo:Nat):Int):=by
    refine jE ?_ ?_<;>split<;>omega
   rw[T];refine jE ?_ ?_
   . split<;>omega
   split<;>split<;>omega
 . unfold s9;simp only[hW] at *;split<;>omega
 unfold WG;split<;>omega
variable{i:Nat}
theorem Rn{o:List Nat}(h:i<o.length)(x:Nat):(wC o).take i++[AV.int .u32 (x:Int)]++(wC o).drop (i+1)=wC (o.set i x):=vF h x
theorem aOp(a:Nat):LW 17 (aV 17 a):=⟨cK _ _,EI⟩
theorem bEl(u:Nat):(u:Int).fdiv (2^min 63 IntKind.u64.bits)=((u / 2^63:Nat):Int):=aEx u
variable{H H':aA}{p:Nat}
theorem Me.set(h:Me H H' p)(o:eG):Me H (H'.set p o) p:=⟨h.1,fun k O Z=>by rw[aA.aH,if_neg Z];exact h.2 k O Z⟩
variable{v n d:Nat}
theorem aQy{u j:Nat}(t:H.get p=some (.cells (wC (aV 17 u)) false))(m:p<H.next)(hn:n<=16)(hj:j+n<=16)(hd:d<W)(J:v<W^n)(hu:u<W^(j+n+1))(N:u<W^17):
 ∃o H',(o=.ret (.bool (decide (u<d*v*W^j)))/\Me H H' p/\H'.get p=some (.cells (wC (aV 17 (tkN u v n j d))) false))/\Sg 256 [.ref p 0,.agg (wC (aV 16 v)),.int .i64 n,.int .i64 j,.int .u64 d] H o H':=by
 refine dM fit bJq (Ai rfl) ?_;unfold aXl;dsimp only;have la:=iL (.aV v);have hW:W=4294967296:=rfl;have P:p≠H.next:=by omega
 have L:∀a k,IntKind.u64.wrap ((aP a k:Nat):Int)=(aP a k:Nat):=fun a k=>jE (Bt (dC a k) A1) (.inl rfl);have M:∀i,i<16->(wC (aV 16 v)).getD i aB=.int .u32 (aP v i):=fun i h=>gJ h;refine bP ?_;refine Ty ?_;refine bQ ?_;generalize hX:H.alloc _=I;have g0:=Kx (i:=p) hX;have g:=Kv (i:=H.next) hX;have F:Me H I p:=by subst hX;exact⟨by simp only[zI,seval];omega,fun k E _=>by simp only[zI,seval,show k≠H.next by omega]⟩
 clear hX;refine bP ?_;refine Tz ?_;refine bQ ?_;refine aM fun K hK=>?_;refine bP ?_;refine Tz ?_;refine bQ ?_;refine bS [11,12] (fun i vs H'=>∃(o:List Nat) (c b:Nat),vs=[.int .u64 (c:Nat),.int .u64 (b:Nat)]/\c<W/\b<=1/\LW 17 o/\uu o u (j+i)/\wJ o+d*(v%W^i)*W^j=u+(c+b)*W^(j+i)/\H'.get p=some (.cells (wC o) false)/\H'.get H.next=some (.cells (wC (aV 16 v)) false)/\Me H H' p) n A0 A1 ?_ ?_ ?_ ?_ ?_
 . exact zq
 . exact Zbx
 . refine⟨aV 17 u,0,0,by simp only[sm,zB,seval,Int.cast_ofNat_Int],by omega,by omega,aOp u,fun k E=>?_,?_,g0,g,F⟩
   . rw[<-(aOp u).aP,fS N]
   rw[fS N];simp[Ip]
 . rintro i f w hi E T ⟨o,c,b,z,R,hb,S,Q,B,g0,g,hS⟩;simp only[zM] at z;obtain⟨l,X⟩:=z;have k0:=Kj (E 0 rfl);have k3:=Kj (E 3 rfl);have k4:=Kj (E 4 rfl);have k6:=Kj (E 6 rfl);have vl:=dC v i;have V:=dC u (j+i);have C:d*aP v i<=4294967295*4294967295:=Be A0 A0;have A:IntKind.u64.wrap ((d:Int)*((aP v i:Nat):Int))=((d*aP v i:Nat):Int):=jE A0 (.inl A2);have Z:IntKind.u64.wrap ((c:Int)+((d*aP v i:Nat):Int))=((c+d*aP v i:Nat):Int):=jE A0 (.inl A2);have s3:IntKind.i64.wrap ((j:Int)+(i:Int))=((j+i:Nat):Int):=wI A0;obtain⟨t1,t2,O⟩:=aBn S (show j+i<17 by omega) hb Q B;have y:(wC o).getD (j+i) aB=.int .u32 (aP u (j+i):Nat):=by rw[oK Zas,Q _ (Ae _)]
   have r:(wC o).length=17:=(by rw[cE];exact S.1);generalize q:c+d*aP v i=s at *;have U:s / W<W:=(by rw[hW];omega);have NJ:s%W<W:=Bz _ qQ;have x:IntKind.u64.wrap ((s%W:Nat):Int)=((s%W:Nat):Int):=jE A0 (.inl rfl);obtain⟨D,d1,e,d3⟩:=bNb V (lo:=s%W) (b:=b) A0 hb;have Y:=(aJz V (lo:=s%W) (b:=b) A0).2.2;refine aJ ?_;refine bP ?_;refine Wy ?_;refine bQ ?_;simp only[↓zP,zJ,seval,l,X,k0,k3,k4,k6,g0,g,aD,la,show i<16 by omega,show i+1<=16 by omega,M _ (show i<16 by omega),L,A,Z,s3,y,r,show j+i<17 by omega,show j+i+1<=17 by omega,CY,x,d1,e,d3,bEl,aYx];refine⟨_,_,_,rfl,U,Y,t1,t2,O,by rw[Rn Zas],by rw[if_neg A0],hS.set _⟩
 rintro f w E ⟨o,c,b,z,R,hb,S,Q,B,g0,g,hS⟩;simp only[zM] at z;obtain⟨l,X⟩:=z;have k0:=Kj (E 0 rfl);have k2:=Kj (E 2 rfl);have k3:=Kj (E 3 rfl);have V:=dC u (j+n);have s3:IntKind.i64.wrap ((j:Int)+(n:Int))=((j+n:Nat):Int):=wI A0;obtain⟨t1,t2,O⟩:=aJx S (show j+n<17 by omega) A0 Q J hu B;have y:(wC o).getD (j+n) aB=.int .u32 (aP u (j+n):Nat):=by rw[oK Zas,Q _ (Ae _)]
 have r:(wC o).length=17:=by rw[cE];exact S.1
 obtain⟨D,d1,e,d3⟩:=bNb V (lo:=c) (b:=b) A0 hb;refine Tx ?_;apply hK;clear hK K;simp only[↓zP,zJ,seval,l,X,k0,k2,k3,g0,aD,L,s3,y,r,show j+n<17 by omega,show j+n+1<=17 by omega,CY,d1,e,d3,bEl];refine Rx ?_
 have hq:(((WG (aP u (j+n)) c b:Nat):Int)==1)=decide (u<d*v*W^j):=by rw[Dc,Dl,Iz,<-t2];omega
 refine⟨by rw[hq];rfl,hS.set _,?_⟩;rw[aA.aH,if_pos rfl,Rn Zas,t1]
theorem aNs{u j:Nat}(t:H.get p=some (.cells (wC (aV 17 u)) false))(m:p<H.next)(x:n<=16)(Y:j+n<=16)(J:v<W^n)(e:u<W^(j+n+1))(N:u<W^17):
 ∃o H',(o=.ret (nN [])/\Me H H' p/\H'.get p=some (.cells (wC (aV 17 ((u+v*W^j)%W^(j+n+1)))) false))/\Sg 257 [.ref p 0,.agg (wC (aV 16 v)),.int .i64 n,.int .i64 j] H o H':=by
 refine dM fit bJr (Ai rfl) ?_;unfold aXm;dsimp only;have l:=iL (.aV v);have hW:W=4294967296:=rfl;have P:p≠H.next:=by omega
 have L:∀a k,IntKind.u64.wrap ((aP a k:Nat):Int)=(aP a k:Nat):=fun a k=>jE (Bt (dC a k) A1) (.inl rfl);have M:∀i,i<16->(wC (aV 16 v)).getD i aB=.int .u32 (aP v i):=fun i h=>gJ h;refine bP ?_;refine Ty ?_;refine bQ ?_;generalize hX:H.alloc _=I;have g0:=Kx (i:=p) hX;have g:=Kv (i:=H.next) hX;have F:Me H I p:=by subst hX;exact⟨by simp only[zI,seval];omega,fun k E _=>by simp only[zI,seval,show k≠H.next by omega]⟩
 clear hX;refine bP ?_;refine Tz ?_;refine bQ ?_;refine aM fun K hK=>?_;refine bP ?_;refine Tz ?_;refine bQ ?_;refine bS [8] (fun i vs H'=>∃(o:List Nat) (c:Nat),vs=[.int .u64 (c:Nat)]/\c<=1/\LW 17 o/\uu o u (j+i)/\wJ o+c*W^(j+i)=u+v%W^i*W^j/\H'.get p=some (.cells (wC o) false)/\H'.get H.next=some (.cells (wC (aV 16 v)) false)/\Me H H' p) n A0 A1 ?_ ?_ ?_ ?_ ?_
 . exact zq
 . exact Zbx
 . refine⟨aV 17 u,0,by simp only[sm,zB,seval,Int.cast_ofNat_Int],by omega,aOp u,fun k E=>?_,?_,g0,g,F⟩
   . rw[<-(aOp u).aP,fS N]
   rw[fS N];simp[Ip]
 . rintro i f w C E T ⟨o,c,z,R,S,Q,B,g0,g,d⟩;simp only[zM] at z;have k0:=Kj (E 0 rfl);have k3:=Kj (E 3 rfl);have k5:=Kj (E 5 rfl);have b:=dC v i;have V:=dC u (j+i);have A:IntKind.u64.wrap (((aP u (j+i):Nat):Int)+((aP v i:Nat):Int))=((aP u (j+i)+aP v i:Nat):Int):=jE A0 (.inl A2);have Z:IntKind.u64.wrap ((c:Int)+((aP u (j+i)+aP v i:Nat):Int))=((aP u (j+i)+aP v i+c:Nat):Int):=jE A0 (.inl A0);have s3:IntKind.i64.wrap ((j:Int)+(i:Int))=((j+i:Nat):Int):=wI A0;obtain⟨t1,t2,O⟩:=xu S (show j+i<17 by omega) Q B;have y:(wC o).getD (j+i) aB=.int .u32 (aP u (j+i):Nat):=by rw[oK Zas,Q _ (Ae _)]
   have r:(wC o).length=17:=(by rw[cE];exact S.1);generalize q:aP u (j+i)+aP v i+c=s at *;have U:s / W<=1:=(by rw[hW];omega);refine aJ ?_;refine bP ?_;refine Wy ?_;refine fW ?_;refine Dz ?_;have :i<16:=A0;have :i+1<=16:=A0;have :=M _ (show i<16 by omega);have :j+i<17:=A0;have :j+i+1<=17:=A0;refine Wy ?_;refine bQ ?_;simp only[↓zP,zJ,seval,k0,k3,g0,aD,s3,r,show j+i<17 by omega,show j+i+1<=17 by omega,CY,aYx];refine⟨_,_,rfl,U,t1,t2,O,by rw[Rn Zas],by rw[if_neg A0];exact g,d.set _⟩
 rintro f w E ⟨o,c,z,R,S,Q,B,g0,g,d⟩;simp only[zM] at z;have k0:=Kj (E 0 rfl);have k2:=Kj (E 2 rfl);have k3:=Kj (E 3 rfl);have s3:IntKind.i64.wrap ((j:Int)+(n:Int))=((j+n:Nat):Int):=wI A0;have t1:=aFf S (show j+n<17 by omega) Q J e B;have y:(wC o).getD (j+n) aB=.int .u32 (aP u (j+n):Nat):=by rw[oK Zas,Q _ (Ae _)]
 have r:(wC o).length=17:=by rw[cE];exact S.1
 have D:IntKind.u32.wrap (((aP u (j+n):Nat):Int)+((c%W:Nat):Int))=(((aP u (j+n)+c)%W:Nat):Int):=by rw[show((aP u (j+n):Nat):Int)+((c%W:Nat):Int)=((aP u (j+n)+c%W:Nat):Int) by simp,CY,Nat.add_mod_mod]
 refine Tx ?_;apply hK;clear hK K;refine Dz ?_;simp only[↓zP,zJ,seval,zD,z,k0,k2,k3,g0,aD,s3,y,r,show j+n<17 by omega,show j+n+1<=17 by omega,CY,D];refine⟨rfl,[],rfl,rfl,d.set _,?_⟩;rw[aA.aH,if_pos rfl,Rn Zas,t1]
variable{k:Nat}
theorem aEm(I:0<d):((v / W^(k+1)%d)*W+aP v k)%d=v / W^k%d/\(d<=W->((v / W^(k+1)%d)*W+aP v k) / d=aP (v / d) k):=by
 have e:=nT v k;generalize n:v / W^(k+1)=A at e;generalize C:aP v k=x at e;have m:=Dy A d
 have T:v / W^k=d*(A / d*W)+(A%d*W+x):=by
  rw[e]
  conv=>lhs;rw[<-m]
  rw[Bo,Cf,Bm]
 refine⟨by rw[T,Nat.mul_add_mod],fun a=>?_⟩;have L:x<W:=by rw[<-C];exact dC v k
 have V:A%d<d:=Bz _ I
 have D:(A%d*W+x) / d<W:=by rw[Cn I];have :(A%d+1)*W<=d*W:=Bf _ V;rw[Bo] at this;rw[Cc W d];omega
 unfold aP;rw[Dn,Cc d,<-Dn,T,Nat.mul_add_div I,Cc (A / d),Nat.mul_add_mod,Bl D]
theorem TW{X:Nat}(E:k<16)(G:X<W^16):(aV 16 (X / W^(k+1)*W^(k+1))).set k (aP X k)=aV 16 (X / W^k*W^k):=by
 have s:aP (X / W^(k+1)*W^(k+1)) k=0:=by unfold aP;rw[De,<-Cf,Ja,Nat.mul_div_cancel _ (dX k),Nat.mul_mod_left]
 have J:X / W^(k+1)*W^(k+1)<W^16:=Bn (It _ _) G;have :=NP (v:=X / W^(k+1)*W^(k+1)) (X:=aP X k) E J (by rw[s,Em];exact dC X k);rw[s,Em] at this;rw[this];congr 1;rw[nT X k,Bo,Cf,<-Jr]
theorem aBf(J:v<W^16)(I:0<d)(hd:d<W)(H:aA):
 Sg 229 [.agg (wC (aV 16 v)),.int .u32 d] H (.ret (.jS [.agg (wC (aV 16 (v / d))),.int .u32 ((v%d:Nat):Int)])) H:=by
 refine So bIw Zac ?_ H;unfold aWr;dsimp only;have p:=iL (.aV v);have hW:W=4294967296:=rfl;have G:v / d<W^16:=Bn (Fs _ _) J;have a:aV 16 (v / d / W^16*W^16)=zs:=by rw[Du G,Gp];decide
 refine Ty ?_;refine US [6] (fun i vs H'=>vs=[.int .u64 ((v / W^i%d:Nat):Int)]/\H'.get 0=some (.cells (wC (aV 16 v)) false)/\H'.get 1=some (.cells (wC (aV 16 (v / d / W^i*W^i))) false)) 16 A0 A1 ?_ ?_ ?_ ?_ ?_
 . exact zq
 . refine⟨by simp only[sm,zB,seval,Du J,Nat.zero_mod,Int.cast_ofNat_Int],by simp only[seval,zI],by simp only[seval,zI,a]⟩
 . rintro i f H1 F E T u;exact ZaK
 . rintro i f H1 F E T ⟨z,g0,g⟩;simp only[zM] at z;have b:f 1=.int .u32 d:=by rw[E 1 rfl];simp only[↓zP,zG,seval]
   have s:f 2=.ref 0 0:=(by rw[E 2 rfl];simp only[↓zP,zG,seval]);have m:f 4=.ref 1 0:=(by rw[E 4 rfl];simp only[↓zP,zG,seval]);obtain⟨A,Z⟩:=aEm (v:=v) (k:=i) I;have Z:=Z A0;have O:v / W^(i+1)%d<4294967296:=(by have :=Bz (v / W^(i+1)) I;omega);have t:aP v i<4294967296:=dC v i;have w:zK .or .u64 (IntKind.u64.wrap (((v / W^(i+1)%d:Nat):Int)*2^min 32 IntKind.u64.bits)) ((aP v i:Nat):Int)=some (.int .u64 ((v / W^(i+1)%d*4294967296+aP v i:Nat):Int)):=iu O t;have h:=iL (.aV (v / d / W^(i+1)*W^(i+1)));generalize V:v / W^(i+1)%d=r at *;generalize C:aP v i=x at *;have q:IntKind.u64.wrap (x:Int)=(x:Int):=jE A0 (.inl rfl);have j:IntKind.u64.wrap (d:Int)=(d:Int):=jE A0 (.inl rfl);refine aJ ?_;simp only[↓zP,zJ,seval,T,z,s,g0,aD,F,p,gJ F,C,show i+1<=16 by omega,q];have o:((d:Nat):Int)≠0:=by omega
   have t1:(((r*4294967296+x:Nat):Int)).tdiv (d:Int)=((aP (v / d) i:Nat):Int):=by rw[<-Z,hW];rfl
   have t2:(((r*4294967296+x:Nat):Int)).tmod (d:Int)=((v / W^i%d:Nat):Int):=by rw[<-A,hW];rfl
   have c:aP (v / d) i<W:=dC _ _;have B:IntKind.u64.wrap ((aP (v / d) i:Nat):Int)=((aP (v / d) i:Nat):Int):=jE A0 (.inl rfl);have e:=TW F G;simp only[↓zP,zJ,seval,w,b,j,o,t1,B,CY,Bl c,m,F,g,h,show i+1<=16 by omega,t2];refine⟨trivial,g0,?_⟩;have :=vF (l:=aV 16 (v / d / W^(i+1)*W^(i+1))) (i:=i) (by rw[cK];exact F) (aP (v / d) i);rw[e] at this;exact Am (fun l=>some (eG.cells l false)) this
 rintro f H1 E ⟨z,g0,g⟩;simp only[zM] at z;have m:f 4=.ref 1 0:=by rw[E 4 rfl];simp only[↓zP,zG,seval]
 have h:=iL (.aV (v / d));have n:v%d<W:=Bt (Bz _ I) hd;rw[Gq,Ht,Df] at g;rw[Gq,Ht] at z;simp only[↓zP,zJ,seval,z,m,g,h,CY,Bl n];refine⟨rfl,_,by simp only[↓zP,zR,seval,h,m];rfl,?_⟩;rfl
theorem aJl(X:b<W^16)(o:sz b≠0):0<dU (aP b (sz b -1))/\dU (aP b (sz b -1))<=32/\b*2^(32 -dU (aP b (sz b -1)))<W^sz b/\W^(sz b -1)<=b*2^(32 -dU (aP b (sz b -1))):=by
 have O:=su o;have Z:=MV X;have e:sz b -1+1=sz b:=by omega
 have U:aP b (sz b -1)=b / W^(sz b -1):=AF (by grind);have m:0<aP b (sz b -1):=by rw[U];exact Jq O (dX _)
 have k1:¬dU (aP b (sz b -1))<=0:=fun h=>by have :=jW.1 h;omega
 have k2:dU (aP b (sz b -1))<=32:=jW.2 (dC _ _);have k3:aP b (sz b -1)<2^dU (aP b (sz b -1)):=jW.1 (Ae _);refine⟨by omega,k2,?_,Ay O (Nat.le_mul_of_pos_right _ (Gl A1))⟩;rw[U] at k3;rw[Cn (dX _),U.symm] at k3;generalize dU (aP b (sz b -1))=t at *;have h4:=Nat.mul_lt_mul_of_pos_right k3 (Gl (n:=32 -t) (show 0<2 by decide))
 have P:2^t*W^(sz b -1)*2^(32 -t)=W^sz b:=by rw[Ja,<-aRo t k2,<-Jr,Nat.succ_eq_add_one,e]
 omega
variable{v:AV}
theorem aCk{P:Program}{g:bL}{pairs:List (Nat×Nat)}{base:Nat}{X:List bG}{a:List (Nat×Nat)}{p:List (Nat×aA×aA)}{f:dD}{R:dD->aA->Prop}{sz:Nat}{x y:Arg}(hd:d<n)(b:dS (oG g f) H (.copy sz x y)=some (v,H'))(A:H.next<=H'.next)(V:∀x∈a,(x.1,i)∈pairs->H.get x.2=H'.get x.2)
 (h:eI P g n pairs base (i+1) k X a ((i,H,H')::p) (kI f d v) H' R):eI P g n pairs base i k (⟨some d,.copy sz x y,none⟩::X) a p f H R:=by
 have :gK n f (some d) v=kI f d v:=by grind[gK]
 unfold eI;rw[if_pos (by rfl)]
 grind[eJ.fresh,eJ.rR,bX]
variable{a:Nat}
theorem OP(I:a<W^16)(hb:b<W^16)(SS:0<b)(H:aA):
 Sg 198 [.agg (wC (aV 16 a)),.agg (wC (aV 16 b))] H (.ret (.jS [.agg (wC (aV 16 (a / b))),.agg (wC (aV 16 (a%b)))])) H:=by
 refine So bIe Zac ?_ H;unfold aWa;dsimp only;have p:=iL (.aV a);have S:=iL (.aV b);have hW:W=4294967296:=rfl;refine bP ?_;refine Ty ?_;refine bQ ?_;generalize hX:(((aA.alloc _ _).alloc _).alloc _).alloc _=HA;have g0:=Kv (i:=0) hX;have g:=Kv (i:=1) hX;have g2:=Kv (i:=2) hX;have C:=Kv (i:=3) hX;have l:HA.next=4:=by subst hX;rfl
 clear hX;refine bP ?_;refine Dz ?_;have :=uZ b;have :=uZ a;refine Wz ?_;refine bQ ?_;refine bW fun f N=>?_;have f2:=Kf (i:=2) N;have c:=Kf (i:=3) N;have f4:=Kf (i:=4) N;have f5:=Kf (i:=5) N;have L:=Kf (i:=6) N;have J:=Kf (i:=7) N;clear N;refine bP ?_;have :=MA I hb;refine Wz ?_;refine⟨fun h=>?_,fun h=>?_⟩
 . have r:a<b:=by unfold IW at h;split at h<;>(try split at h)<;>omega
   refine Dz ?_;refine Wz ?_;refine⟨rfl,_,by simp only[↓zP,zR,seval,f4,f5,p,iz];rfl,?_⟩;rw[Du r,Bl r,wD];rfl
 have b1:b<=a:=by unfold IW at h;split at h<;>(try split at h)<;>omega
 refine bQ ?_;refine bW fun f' N=>?_;have k2:=Ks N f2;have k3:=Ks N c;have k4:=Ks N f4;have k5:=Ks N f5;have k6:=Ks N L;have k7:=Ks N J;clear N f2 c f4 f5 L J f h;have Q:sz b≠0:=fun h=>by have :=(sx hb).1 h;omega
 have e:1<=sz b:=by omega
 have bC:=ZC b;have bD:=ZC a;refine bP ?_;by_cases O:sz b=1
 . have c1:(((sz b:Nat):Int)==1)=true:=by simp[O]
   have ag:b<W:=(by have :=MV hb;rw[O,Nat.pow_one] at this;exact this);have Mg:aP b 0=b:=(by unfold aP;rw[Gq,Ht,Bl ag]);have aq:a%b<W:=Bt (Bz _ SS) ag;have lq:=iL (.aV (a / b));have lr:=iL (.aV (a%b));have gb:(wC (aV 16 b)).getD 0 aB=.int .u32 (b:Nat):=(by rw[gJ A1,Mg]);simp only[↓zP,zJ,seval,k6,c1,k2,k3,g0,g,p,S,AR,gb];refine fC (aBf I SS ag _) ?_
   have hw:AV.int .u32 ((a%b:Nat):Int)::(wC zs).drop 1=wC (aV 16 (a%b)):=by have E:∀k,1<=k->aP (a%b) k=0:=fun k E=>AE (m:=1) (by rw[Nat.pow_one];exact aq) E;have h0:aP (a%b) 0=a%b:=(by unfold aP;rw[Gq,Ht,Bl aq]);simp[wC,zs,aV,List.range,List.range.loop,E,h0,List.replicate]
   refine Wz ?_;refine⟨rfl,_,by simp only[↓zP,zR,seval,k4,k5,lq,lr];rfl,?_⟩;rfl
 have c1:(((sz b:Nat):Int)==1)=false:=by simp;omega
 refine Wz ?_;refine bQ ?_;obtain⟨q1,q2,q3,q4⟩:=aJl hb Q;have b0:sz b<=sz a:=(Ni hb).2 (Bn b1 (MV I));have b4:=MV I;have b3:=su Q;have M:∀i,i<16->(wC (aV 16 b)).getD i aB=.int .u32 (aP b i):=fun i h=>gJ h;have w1:IntKind.i64.wrap (((sz b:Nat):Int) -1)=((sz b -1:Nat):Int):=wI A0;have w2:IntKind.i64.wrap (((sz a:Nat):Int) -((sz b:Nat):Int))=((sz a -sz b:Nat):Int):=wI A0;refine bP ?_;have :sz b -1<16:=by omega
 have :sz b -1+1<=16:=by omega
 have :=M _ (show sz b -1<16 by omega);have :=bDp (dC b (sz b -1));refine Wz ?_;refine bQ ?_;generalize hn:sz b=n at *;generalize hm:sz a=m at *;generalize hs:32 -dU (aP b (n -1))=s at *;have ab:s<32:=by omega
 have bn:b*2^s<W^16:=Bg q3 (Bu qQ A0);refine bP ?_;have :=aTy hb ab;refine Wz ?_;have lv:=iL (.aV (b*2^s));refine Wz ?_;refine fW ?_;simp only[↓zP,zJ,seval,k2,g0,p,l];refine fC (aTy I ab _) ?_;have R:=iL (.aV (a*2^s));simp only[↓zP,zJ,seval,l,R];refine fW ?_;simp only[↓zP,zJ,seval,l];refine bQ ?_;generalize hX:aA.alloc _ _=HB;have g2:=Kx (i:=2) hX;have C:=Kx (i:=3) hX;have g4:=Kx (i:=4) hX;have w:=Kx (i:=5) hX;have X:=Kx (i:=6) hX;have gN:HB.next=7:=by subst hX;simp only[zI,seval,l]
 clear hX g0 g l;refine bW fun f N=>?_;have f4:=Ks N k4;have f5:=Ks N k5;have L:=Ks N k6;have J:=Ks N k7;have bf:=Kf (i:=10) N;have z:=Kf (i:=11) N;have bc:=Kf (i:=13) N;have bb:=Kf (i:=14) N;have a7:=Kf (i:=15) N;clear N k2 k3 k4 k5 k6 k7 f';refine bP ?_;refine Dz ?_;have ak:jZ HB 17 1 (.ref 6 0) none none none=some (.sl 6 1 0 17 17):=by simp[jZ,aA.fP,X,iz.1]
 have al:jZ HB 16 1 (.ref 5 0) none none none=some (.sl 5 1 0 16 16):=by simp[jZ,aA.fP,w,R.1]
 have bk:dJ HB 1 (.sl 5 1 0 16 16)=some (gO 1 16 (wC (aV 16 (a*2^s)))):=by simp[dJ,aA.fP,w,R.1]
 obtain⟨ar,bz,-⟩:=mH 1 16 (wC (aV 16 (a*2^s))) (by rw[R.1];decide);rw[Au (by rw[R.1];decide)] at ar
 have bl:wC (aV 16 (a*2^s))++List.drop (wC (aV 16 (a*2^s))).length (AV.int .u32 0::wC zs)=wC (aV 16 (a*2^s)++[0]):=by rw[R.1];simp[wC,zs]
 generalize gO 1 16 (wC (aV 16 (a*2^s)))=ch at *;simp only[↓zP,zJ,seval,zD,eM,bc,a7,al,ak]
 have cp:dS (oG gv (kI (kI f 57 (.sl 6 1 0 17 17)) 58 (.sl 5 1 0 16 16))) HB (.copy 1 (.tmp 57) (.tmp 58))=some (.int .i64 16,HB.set 6 (.cells (wC (aV 16 (a*2^s)++[0])) false)):=by
  have T:(ch.take 16).flatten=wC (aV 16 (a*2^s)):=by rw[Au A0,ar]
  have := @dS;refine Wz ?_;simp[T,bl]
 refine aCk A1 cp (Ae _) A2 ?_;simp only[seval,zD];refine bQ ?_
 have ay:a*2^s<W^17:=by have :=Ik I (Nat.pow_lt_pow_right (show 1<2 by decide) ab);exact Bg this A1
 have b6:a*2^s / W^16=aP (a*2^s) 16:=(AF ay).symm
 have b7:((wC (aV 16 (a*2^s)++[0])).take 16++[AV.int .u32 ((a*2^s / W^16:Nat):Int)]++(wC (aV 16 (a*2^s)++[0])).drop 17)=wC (aV 17 (a*2^s)):=by rw[b6];unfold wC;simp[aV,Ds]
 have bs:(wC (aV 16 (a*2^s)++[0])).length=17:=by simp[cE,cK]
 refine bP ?_;simp only[↓zP,zJ,seval,bb,a7,bs,b7,asNat];refine bQ ?_;generalize hX:aA.set _ 6 _=V
 replace g2:=Kx (i:=2) hX
 replace C:=Kx (i:=3) hX
 replace g4:=Kx (i:=4) hX
 replace X:=Kv (i:=6) hX
 replace gN:6<V.next:=by subst hX;simp only[zI,seval,gN]
 clear hX al ak bk cp w HB;have hA:=aAk (s:=s) b4 b0 b3 e;have eQ:a*2^s / (b*2^s)=a / b:=Nat.mul_div_mul_right _ _ (Gl A1);have eR:a*2^s%(b*2^s) / 2^s=a%b:=by rw[Nat.mul_mod_mul_right,Nat.mul_div_cancel _ (Gl A1)]
 generalize bt:a*2^s=A at *;generalize hV:b*2^s=v at *;have af:0<v:=Bg (dX _) q4;have br:A / v<W^16:=by rw[eQ];exact Bn (Fs _ _) I
 have b5:A / v<W^(m -n+1):=by rw[Cn af,Cc];exact hA
 refine aM fun K hK=>?_;refine bP ?_;refine Wy ?_;refine bQ ?_;refine US [] (fun i _ H'=>H'.get 2=some (.cells (wC (aV 16 (A / v / W^i*W^i))) false)/\H'.get 3=some (.cells (wC zs) false)/\H'.get 4=some (.cells (wC (aV 16 v)) false)/\H'.get 6=some (.cells (wC (aV 17 (A%(v*W^i)))) false)/\6<H'.next) (m -n+1) A0 A1 ?_ ?_ ?_ ?_ ?_
 . simp only[zB,seval];exact Am (AV.int .i64) A0
 . rw[Du b5,Gp,wD,Bl hA];exact⟨g2,C,g4,X,gN⟩
 . rintro i f2 H1 hi E T hJ;exact ZaK
 . rintro j f2 H1 Y E T ⟨g2,C,g4,X,gN⟩;have k4:f2 4=.ref 2 0:=by rw[E 4 rfl];simp only[zB,seval];exact f4
   have k6:f2 6=.int .i64 (n:Nat):=(by rw[E 6 rfl];simp only[zB,seval];exact L);have ae:f2 11=.ref 4 0:=(by rw[E 11 rfl];simp only[zB,seval];exact z);have D:f2 15=.ref 6 0:=(by rw[E 15 rfl];simp only[zB,seval];exact a7);have hu:A%(v*W^(j+1))<v*W^(j+1):=Bz _ (Jp af (dX _));obtain⟨_,_,r3,r4,F⟩:=bEt A0 q3 q4 hu;obtain⟨ad,aj⟩:=aIn (A:=A) (j:=j) A0 q3 q4;have ek:A%(v*W^(j+1))<W^17:=Bn (Nat.mod_le _ _) ay;generalize hU:A%(v*W^(j+1))=u at *;obtain⟨_,H2,⟨rfl,n2,Z⟩,t⟩:=aFj (v:=v) X gN A0 A0 (show j+n<=16 by omega) r3 r4;have ba:6<H2.next:=A0;have d2:=(Z 2 A0).trans g2;have d3:=(Z 3 A0).trans C;have d4:=(Z 4 A0).trans g4;have d6:=(Z 6 A0).trans X;have b2:gsU u v n j<W:=Bn (Ir _ _) A1;change (gsU u v n j*v*W^j<=u->_) at ad;rw[<-D] at t;refine aJ ?_;refine bP ?_;simp only[↓zP,zJ,seval,T,k6,ae,g4,lv];refine fC (t) ?_;refine Tz ?_;refine bQ ?_;have hq:gsD (aP u (j+n)) (aP u (j+n -1)) (aP u (j+n -2)) (aP v (n -1)) (aP v (n -2))=gsU u v n j:=rfl;rw[hq] at ad aj;generalize hD:gsU u v n j=d at *;clear hq t;obtain⟨_,H3,⟨rfl,⟨n3,s3⟩,e6⟩,ht⟩:=aQy (d:=d) (v:=v) d6 ba A0 (show j+n<=16 by omega) b2 q3 F ek;have b9:6<H3.next:=A0;have P:=(s3 2 A0 A0).trans d2;have B:=(s3 3 A0 A0).trans d3;have U:=(s3 4 A0 A0).trans d4;rw[<-D] at ht;refine aM fun K2 cY=>?_
   have y:∀(c:dD) (o:aA) (d':Nat),d'=aP (A / v) j->c 4=.ref 2 0->c 16=.int .i64 (j:Nat)->c 17=.int .u64 (d':Nat)->o.get 2=some (.cells (wC (aV 16 (A / v / W^(j+1)*W^(j+1)))) false)->o.get 3=some (.cells (wC zs) false)->o.get 4=some (.cells (wC (aV 16 v)) false)->o.get 6=some (.cells (wC (aV 17 (A%(v*W^j)))) false)->6<o.next->K2 c [] o:=by
    rintro c o d' rfl x4 aE az y2 y3 y4 y6 yn;apply cY;clear cY K2 hK;have VJ:=dC (A / v) j;have lx:=iL (.aV (A / v / W^(j+1)*W^(j+1)));have GV:=TW (show j<16 by omega) br
    have aO:(wC (aV 16 (A / v / W^(j+1)*W^(j+1)))).take j++[AV.int .u32 ((aP (A / v) j:Nat):Int)]++(wC (aV 16 (A / v / W^(j+1)*W^(j+1)))).drop (j+1)=wC (aV 16 (A / v / W^j*W^j)):=by rw[Rn (by rw[cK];omega),GV]
    simp only[↓zP,zJ,seval,x4,aE,az,CY,Bl VJ,aD,show j<16 by omega,show j+1<=16 by omega,y2,lx,aO,y3,y4,y6];exact⟨trivial,trivial,trivial,trivial,yn⟩
   refine aM fun K3 CG=>?_;simp only[↓zP,zJ,seval,T,k6,ae,d4,lv];refine fC (ht) ?_;refine Tx ?_;apply CG;clear CG K3 cY;by_cases r:u<d*v*W^j
   . obtain⟨q,z2,z3⟩:=aj r;rw[Ag r];have a6:tkN u v n j d=u+W^(j+n+1) -d*v*W^j:=by unfold tkN;rw[if_neg A0]
     have an:tkN u v n j d<W^(j+n+1):=by rw[a6];have :=dX (j+n+1);omega
     have aN:tkN u v n j d<W^17:=Bg an (Bu qQ A0);obtain⟨_,o,⟨rfl,⟨n4,x⟩,y6⟩,hv⟩:=aNs (v:=v) e6 b9 A0 (show j+n<=16 by omega) q3 an aN;rw[a6,q] at y6;rw[<-D] at hv;have s1:IntKind.u64.wrap ((d:Int) -1)=((d -1:Nat):Int):=jE A0 (.inl A0);simp only[↓zP,zJ,seval,s1,T,k6,ae,U,lv];refine fC (hv) ?_;refine Tx ?_;refine y _ o (d -1) z3 ?_ ?_ ?_ ((x 2 A0 A0).trans P) ((x 3 A0 A0).trans B) ((x 4 A0 A0).trans U) y6 (by omega)<;>simp only[zB,seval,k4,T]
   obtain⟨q,z2⟩:=ad A0;have a6:tkN u v n j d=u -d*v*W^j:=(by unfold tkN;rw[if_pos A0]);rw[a6,q] at e6;rw[Ab r];refine Tz ?_;refine y _ H3 d z2 ?_ ?_ ?_ P B U e6 (by omega)<;>simp only[zB,seval,k4,T]
 rintro f2 H1 E ⟨g2,C,g4,X,gN⟩;have k4:f2 4=.ref 2 0:=by rw[E 4 rfl];simp only[zB,seval];exact f4
 have k5:f2 5=.ref 3 0:=by rw[E 5 rfl];simp only[zB,seval];exact f5
 have aK:f2 10=.int .i64 (s:Nat):=by rw[E 10 rfl];simp only[zB,seval];exact bf
 have D:f2 15=.ref 6 0:=by rw[E 15 rfl];simp only[zB,seval];exact a7
 rw[Gq,Ht,Df] at g2;rw[Gq,Df] at X;have hR:A%v<W^16:=Bt (Bz _ af) bn;have lR:=iL (.aV (A%v));have lq:=iL (.aV (A / v));have ld:=iL (.aV (a%b));refine Tx ?_;apply hK;clear hK K;refine bP ?_;have sa:jZ H1 17 1 (.ref 6 0) none (some 16) none=some (.sl 6 1 0 16 17):=by simp[jZ,aA.fP,X,bBw]
 have dn:=aNd hR ab;rw[eR] at dn;rw[eQ] at g2 lq
 have aF:(wC (aV 17 (A%v))).take 16=wC (aV 16 (A%v)):=by unfold wC;rw[<-List.map_take,Qf A1]
 refine Dz ?_;simp only[↓zP,zJ,seval,zD,eM,asNat,k4,aK,D,g2,X,lq,sa,bBw,aF];refine gH (dn _) ?_;simp only[↓zP,zJ,seval,zD,k4,k5,g2,C,lq,ld];refine bQ ?_;refine Tx ?_;refine⟨rfl,_,by simp only[↓zP,zR,seval,k4,k5,lq,ld];rfl,?_⟩;rfl
def aYs:AV->Option Nat
 |.int .u32 n=>match Nat.blt n.natAbs W&&decide ((n.natAbs:Int)=n) with
  |true=>some n.natAbs
  |false=>none
 |_=>none
theorem aNa{x:AV}(h:aYs x=some a):x=.int .u32 (a:Nat)/\a<W:=by
 unfold aYs at h;split at h
 . split at h<;>simp_all
 grind
def aMz:List AV->Option (List Nat)
 |[]=>some []
 |x::r=>match aYs x,aMz r with
  |some a,some l=>some (a::l)
  |_,_=>none
theorem me:∀{v:List AV} {l:List Nat},aMz v=some l->v=wC l/\∀d∈l,d<W
 |[],l,h=>by cases h;exact⟨rfl,fun d hd=>by grind⟩
 |x::r,l,h=>by
  simp only[aMz] at h;split at h
  . rename_i a l' I L;cases h;obtain⟨O,Z⟩:=me L;obtain⟨b,h4⟩:=aNa I;refine⟨by rw[O,b];rfl,fun d hd=>?_⟩
    grind
  grind
def bx:List AV->Option (Option Int)
 |.bool b::.bool n::r=>match aMz r with
  |some l=>match Nat.beq l.length 16 with
   |true=>some (Sm b n l)
   |false=>none
  |none=>none
 |_=>none
theorem KZ{v:List AV}{x:Option Int}(h:bx v=some x):dN v x:=by
 unfold bx at h;split at h
 . rename_i b n r;split at h
   . rename_i l U;split at h
     . rename_i R;cases h;obtain⟨O,Z⟩:=me U;exact⟨b,n,l,⟨Ch R,Z⟩,by grind,rfl⟩
     grind
   grind
 grind
def aAa(g:Option Int->AV):List AV->Option AV
 |[.agg a]=>match bx a with
  |some x=>some (g x)
  |none=>none
 |_=>none
def SZ(g:Option Int->Option Int->AV):List AV->Option AV
 |[.agg a,.agg b]=>match bx a,bx b with
  |some x,some y=>some (g x y)
  |_,_=>none
 |_=>none
variable{f:FuncId}
theorem PH{g:Option Int->AV}(u:∀a x,dN a x->∀H,Sg f [.agg a] H (.ret (g x)) H){args:List AV}{v:AV}(h:aAa g args=some v)(H:aA):Sg f args H (.ret v) H:=by
 unfold aAa at h;split at h
 . rename_i a;split at h
   . rename_i x C;cases h;exact u a x (KZ C) H
   grind
 grind
theorem xP{g:Option Int->Option Int->AV}(u:∀a b x y,dN a x->dN b y->∀H,Sg f [.agg a,.agg b] H (.ret (g x y)) H){args:List AV}{v:AV}(h:SZ g args=some v)(H:aA):Sg f args H (.ret v) H:=by
 unfold SZ at h;split at h
 . rename_i a b;split at h
   . rename_i x y C Q;cases h;exact u a b x y (KZ C) (KZ Q) H
   grind
 grind
def aIb:List AV->Option AV
 |[.int .i64 z]=>match decide (-2^63<=z)&&decide (z<2^63) with
  |true=>some (.agg (cI z))
  |false=>none
 |_=>none
theorem aIc{args:List AV}(h:aIb args=some v)(H:aA):Sg 51 args H (.ret v) H:=by
 unfold aIb at h;split at h
 . split at h
   . rename_i R;cases h;simp only[Ak,Br] at R;exact qN R.1 R.2 H
   grind
 grind
end Go.Proofs.YtogfcjbgeebfkaaGreatDoor
