/-
  Part of the proof of statement 13
-/
import Derived.Test.YtogfcjbgeebfkaaGreatDoorB11
import Derived.Test.YtogfcjbgeebfkaaGreatDoorB17
import Derived.Test.YtogfcjbgeebfkaaGreatDoorB19
import Derived.Test.YtogfcjbgeebfkaaGreatDoorB20
import Derived.Test.YtogfcjbgeebfkaaGreatDoorB07
import Derived.Test.YtogfcjbgeebfkaaGreatDoorB05
set_option linter.unusedVariables false
set_option linter.unusedSimpArgs false
set_option maxRecDepth 100000
set_option maxHeartbeats 16000000
namespace Go.Proofs.YtogfcjbgeebfkaaGreatDoor
open Go Go.Av Go.iW Go.aH
attribute [local congr] aZ aQ aR aL bD aU aS aG bE
attribute [local irreducible] FC bS eE
variable{H:aB}
theorem aKb{P:Program}{g:bL}{n:Nat}{pairs:List (Nat×Nat)}{base:Nat}{i k:Nat}{W:List bH}{a:List (Nat×Nat)}{t:List (Nat×aB×aB)}{f:dI}{R:dI->aB->Prop}
 {d:Nat} {c:Arg} {fid:FuncId} {fs cs:List AV} {xs:List Arg} {args:List AV} {v:AV} {H':aB} (hd:d<n) (b:nZ g f c=.func (.func fid) fs cs) (I:fs++xs.map (nZ g f)++cs=args) (w:Sound P g fid args H (.ret v) H') (A:H.next<=H'.next)
 (V:∀x∈a,(x.1,i)∈pairs->H.get x.2=H'.get x.2)
 (h:eE P g n pairs base (i+1) k W a ((i,H,H')::t) (jF f d v) H' R):eE P g n pairs base i k (⟨some d,.call c xs,none⟩::W) a t f H R:=by
 have :∀v,gJ n f (some d) v=jF f d v:=fun v=>by grind[gJ]
 unfold eE;simp only[this];refine⟨v,H',?_,A,V,h⟩;refine⟨(fid,fs,cs),?_,?_⟩
 . rw[b];rfl
 grind
def nK(l:List aH.V)(k:Nat):aH.V:=l.getD k V0
def EL(l:List aH.V)(t:Nat×Nat×Nat):List AV:=cS (nK l t.1)++cS (nK l t.2.1)++cS (nK l t.2.2)
def sE(l:List aH.V)(t:Nat×Nat×Nat):Int:=D3 (nK l t.1) (nK l t.2.1) (nK l t.2.2)
variable{H1:aB}{r:Nat}
theorem NU.trans{H2:aB}(h:NU H H1 r)(k:NU H1 H2 r):NU H H2 r:=⟨Aw h.1 k.1,fun j a b=>(k.2 j (Au a h.1) b).trans (h.2 j a b)⟩
theorem NU.of(h:Over H H1):NU H H1 r:=⟨h.le,fun j a _=>h.same j a⟩
def aCa(l:List aH.V)(fid r:Nat)(I:List (Nat×Nat×Nat)->aB->Prop):Prop:=∀T t H,t.1<l.length->t.2.1<l.length->t.2.2<l.length->r<H.next->aY H->I T H->
 ∃H',Sg fid [.agg (cI (sE l t)),.agg (EL l t),.ref r 0] H (.ret (nJ [])) H'/\I (T++[t]) H'/\NU H H' r/\aY H'
theorem Yo{tag:Nat}(W:Nat.blt tag 2=true){l:List aH.V}{M:Nat}(U:∀v∈l,bT M v)(g:M<=2^18)(Q:l.length<=64){S:List (aH.V×Int)}{L:aH.V×Int->List Nat}(w:wB l S L)(cU:S≠[])(aj:MN (nK l) l.length)
 {fid r:Nat} (I:List (Nat×Nat×Nat)->aB->Prop) (xR:∀T H H',Over H H'->I T H->I T H') (eX:aCa l fid r I) {H0:aB} (hr:r<H0.next) (h0:I [] H0) (a7:aY H0):
 ∃out H',(out=.ret (nJ [])/\I (S.flatMap fun q=>kZ (L q)) H'/\NU H0 H' r/\aY H')/\Sg 138 [.agg [.bK tag 3 (bU l)],.func (.func fid) [] [.ref r 0]] H0 out H':=by
 refine bZ fit aSa (Ab rfl) ?_;unfold aKo;dsimp only
 have ma:S.length<=2^20:=by have O:=yR (N:=l.length) (p:=fun i=>l.getD i V0) (NR w.fl) (fun q hq=>(w.fl.mem q).1 hq);have Z:l.length*(l.length*(l.length*2))<=64*(64*(64*2)):=Az Q (Az Q (Az Q (Ad _)));omega
 have ar:=EP W U g Q w cU;refine bP ?_;refine Tz ?_;refine fQ ?_;refine Wz ?_;refine bQ ?_;generalize hX:aB.alloc _ eS.tok=HA;have a2:HA.get H0.next=some (.cells [.bK tag 3 (bU l)] false):=by subst hX;rw[aB.aJ,if_neg A3,aB.aJ,if_pos rfl]
 have K:Over H0 HA:=by subst hX;exact((Over.refl H0).alloc _).alloc _
 have aF:aY HA:=by subst hX;exact(a7.alloc _).alloc _
 have aN:H0.next+1<HA.next:=by subst hX;simp only[aB.bJ];omega
 clear hX;refine cC fun f hf=>?_;have f1:=Kf (i:=1) hf;have P:=Kf (i:=2) hf;obtain⟨tg,f9⟩:∃tg,f 9=.bK tg 5 (S.map (cX L)):=by subst hf;exact⟨H0.next+1+2,by simp only[zB,seval]⟩
 have af:f 10=.int .i64 (S.length:Nat):=by subst hf;simp only[zB,seval,Ah]
 have s:=Kf (i:=11) hf;clear hf;refine bR [] (fun i _ H'=>I ((S.take i).flatMap fun q=>kZ (L q)) H'/\NU H0 H' r/\aY H'/\H'.get H0.next=some (.cells [.bK tag 3 (bU l)] false)/\H0.next<H'.next) S.length A0 A1 ?_ ?_ ?_ ?_ ?_
 . exact s
 . exact af
 . exact⟨xR _ _ _ K h0,.of K,aF,a2,by omega⟩
 . rintro i f' H1 F E e1 ⟨b,QF,n,e,gn⟩;have k1:=(E 1 rfl).trans f1;have k2:=(E 2 rfl).trans P;have k9:=(E 9 rfl).trans f9;have d:(S.map (cX L)).getD i []=cX L S[i]:=fT F;have h:=Ag F;have c:=w.po _ h;have u:=(w.fl.mem _).1 h;obtain⟨an,ag⟩:=c.jw aj u
   have t:((S.take (i+1)).flatMap fun q=>kZ (L q))=((S.take i).flatMap fun q=>kZ (L q))++kZ (L S[i]):=by rw[Ao,Gi];simp[F]
   rw[t];generalize (S.take i).flatMap (fun q=>kZ (L q))=T0 at *;generalize S[i]=q at *;have B:(cX L q).length=5:=rfl;have X:(cX L q).getD 4 aC=.bK 0 1 (xV (L q)):=rfl;refine aM ?_;refine bP ?_;simp only[↓zP,zJ,seval,e1,k9,aI,Ah,F,d,oL B];refine bQ ?_;generalize hX:(H1.alloc _).set H1.next _=G;have u2:=Ku hX e;have u5:=Kz hX;have un:G.next=H1.next+1:=(by subst hX;simp only[aB.bB,aB.bJ]);have uF:aY G:=(by subst hX;exact(n.alloc _).set Zal _);have uO:Over H1 G:=(by subst hX;exact((Over.refl H1).alloc _).set (Ad _) _);have uS:NU H0 G r:=QF.trans (.of uO);have uI:I T0 G:=xR _ _ _ uO b;clear hX b QF n e uO;generalize H1.next=r5 at *;refine cC fun f hf=>?_;have j1:=Ks hf k1;have j2:=Ks hf k2;have j5:=Kf (i:=5) hf;clear hf;refine bP ?_;refine Tz ?_;refine bQ ?_;have ak:(kZ (L q)).length=(L q).length -2:=by simp[kZ]
   have aq:(L q).length<=l.length:=by
    have O:=sT (L q) (iF (fun i=>l.getD i V0) l.length q.1 q.2) c.nodup (fun x hx=>c.aGl hx)
    have Z:(iF (fun i=>l.getD i V0) l.length q.1 q.2).length<=l.length:=by have :=Da (fun k=>decide (dot q.1 (l.getD k V0)=q.2)) (List.range l.length);simpa [iF] using this
    omega
   refine cH [] (fun i _ H'=>I (T0++(kZ (L q)).take (i -2)) H'/\NU H0 H' r/\aY H'/\H'.get H0.next=some (.cells [.bK tag 3 (bU l)] false)/\H'.get r5=some (.cells (cX L q) false)/\r5<H'.next) 2 (L q).length A0 A0 A1 ?_ ?_ ?_ ?_ ?_
   . exact zq
   . exact⟨by simpa using uI,uS,uF,u2,u5,by omega⟩
   . rintro j P H2 IZ Y fS o ⟨b,QF,n,e,A,gn⟩;have m5:P 5=.ref r5 0:=(by rw[fS 5 rfl];simp only[zB,seval];exact j5);simp only[↓zP,zJ,seval,o,m5,A,B,X,dR];exact tB A0
   . rintro j P H2 IZ Y fS o ⟨b,QF,n,e,A,gn⟩;have R:P 1=.func (.func fid) [] [.ref r 0]:=(by rw[fS 1 rfl];simp only[zB,seval];exact j1);have m2:P 2=.ref H0.next 0:=(by rw[fS 2 rfl];simp only[zB,seval];exact j2);have m5:P 5=.ref r5 0:=(by rw[fS 5 rfl];simp only[zB,seval];exact j5);obtain⟨a1,a2,a3,_,_⟩:=ag (j -2) A0
     have a6:(kZ (L q)).take (j+1 -2)=(kZ (L q)).take (j -2)++[((L q).getD 0 0,(L q).getD (j -2+1) 0,(L q).getD (j -2+2) 0)]:=by have eZ:j -2<(kZ (L q)).length:=A0;rw[show j+1 -2=j -2+1 by omega,Ao,Ai eZ];simp[kZ]
     rw[a6,<-Di];have s1:j -2+1=j -1:=A0;have s2:j -2+2=j:=A0;rw[s1] at a2 ⊢;rw[s2] at a3 ⊢;have b1:=(cJ.1 a1).1;have b2:=(cJ.1 a2).1;have D:=(cJ.1 a3).1;have o1:(xV (L q)).getD 0 []=[.int .i64 ((L q).getD 0 0:Nat)]:=(by rw[oX A0];simp[List.getD,show 0<(L q).length by omega]);have o2:(xV (L q)).getD (j -1) []=[.int .i64 ((L q).getD (j -1) 0:Nat)]:=(by rw[oX A0];simp[List.getD,show j -1<(L q).length by omega]);have o3:(xV (L q)).getD j []=[.int .i64 ((L q).getD j 0:Nat)]:=(by rw[oX A0];simp[List.getD,Y]);have vg:∀k,k<l.length->(bU l).getD k []=cS (nK l k):=fun k E=>by rw[cG E];simp[nK,List.getD,E]
     have vn:∀k,k<l.length->bT M (nK l k):=fun k E=>by have :nK l k=l[k]:=(by simp[nK,List.getD,E]);rw[this];exact U _ (Ag E)
     generalize (L q).getD 0 0=x at *;generalize (L q).getD (j -1) 0=y at *;generalize (L q).getD j 0=z at *;have w1:IntKind.i64.wrap ((j:Int) -1)=((j -1:Nat):Int):=wI A0;have l3:∀v,(cS v).length=3:=fun v=>aW v;refine aM ?_;refine bP ?_;refine fZ 1 A1 n.at1 fun H3 J C=>?_;simp only[↓zP,zJ,seval,zD,m2,m5,o,C,e,A,B,X,AH,aI,dR,aX,o1,o2,o3,w1,b1,b2,D,vg x b1,vg y b2,vg z D,show 0<(L q).length by omega,show j -1<(L q).length by omega,Y,aW];have h9:[AV.int .i64 (nK l x).x,.int .i64 (nK l x).y,.int .i64 (nK l x).z,.int .i64 (nK l y).x,.int .i64 (nK l y).y,.int .i64 (nK l y).z,.int .i64 (nK l z).x,.int .i64 (nK l z).y,.int .i64 (nK l z).z]=EL l (x,y,z):=rfl;have t9:(EL l (x,y,z)).length=9:=rfl;simp only[zJ,seval,zD,cS,h9,t9];refine bQ ?_;generalize hX:(H3.set H2.next _).set H2.next _=H5;have x2:=Kw hX C e;have x5:=Kw hX C A;have x7:=Kz hX;have xn:H5.next=H2.next+1:=by subst hX;simp only[aB.bB,J]
     have xO:Over H2 H5:=by subst hX;refine⟨by simp only[aB.bB,J];omega,fun k E=>?_⟩;rw[aB.aD,if_neg A0,aB.aD,if_neg A0,C]
     have xF:aY H5:=by subst hX;intro k E;simp only[aB.bB,J] at E;rw[aB.aD,if_neg A0,aB.aD,if_neg A0,C];exact n k A0
     have xI:=xR _ _ _ xO b;have xS:NU H0 H5 r:=QF.trans (.of xO);clear hX b n e A xO C J QF;generalize H2.next=r7 at *;refine cC fun f3 hf=>?_;have q1:=Ks hf R;have q7:=Kf (i:=7) hf;clear hf;have c1:=Mj (vn x b1) (vn y b2) (by have :M*M<=2^18*2^18:=Az g g;omega);have cn:=iM (vn x b1) (vn y b2);have ay:M*M<=2^18*2^18:=Az g g;have az:2*(M*M)*M<=2^37*2^18:=Az A0 g
     have ic:∀i,JV ((bC (nK l x) (nK l y)).at i):=fun i=>by have O:=cn.1;have Z:=cn.2.1;have h3:=cn.2.2;unfold aH.V.at;split<;>constructor<;>omega
     have iz:∀i,JV ((nK l z).at i):=fun i=>by have O:=(vn z D).1;have Z:=(vn z D).2.1;have h3:=(vn z D).2.2;unfold aH.V.at;split<;>constructor<;>omega
     have c2:=aBm ic iz;rw[XF cn (vn z D) A0] at c2;change ∀H,Sg 185 [.agg (cS (bC (nK l x) (nK l y))),.agg (cS (nK l z))] H (.ret (.agg (cI (sE l (x,y,z))))) H at c2;obtain⟨H9,ad,ae,a,ab⟩:=eX _ (x,y,z) H5 b1 b2 D (by have :=xS.1;omega) xF xI;have d0:(EL l (x,y,z)).take 3=cS (nK l x):=rfl;have d1:((EL l (x,y,z)).drop 3).take 3=cS (nK l y):=rfl;have d2:((EL l (x,y,z)).drop 6).take 3=cS (nK l z):=rfl;refine Dz ?_;have :=oL t9;refine Wz ?_;refine aKb (fid:=fid) (fs:=[]) (cs:=[.ref r 0]) A1 zq rfl ad a.1 (fun k E m=>?_) ?_
     . exfalso;simp at m
     simp only[seval,zD];exact⟨ae,xS.trans a,ab,(a.2 _ A0 A0).trans x2,(a.2 _ A0 A0).trans x5,by have :=a.1;omega⟩
   rintro P H2 fS ⟨b,QF,n,e,A,gn⟩;rw[Bd A0] at b;exact⟨b,QF,n,e,by have :=QF.1;omega⟩
 rintro f' H1 E ⟨b,QF,n,e,gn⟩;rw[Ap] at b;refine⟨rfl,[],rfl,rfl,b,QF,n⟩
end Go.Proofs.YtogfcjbgeebfkaaGreatDoor
namespace Go.Proofs.YtogfcjbgeebfkaaGreatDoor
open Go Go.Av Go.iW
attribute [local congr] aZ aQ aR aL bD aU aS aG bE
attribute [local irreducible] FC bS eE
variable{b:Nat}
theorem bNg{x lo:Nat}(C:x<W)(h:lo+b<=W)(X:b<=1):∃D:Nat,IntKind.u64.wrap (IntKind.u64.wrap ((x:Int) -(lo:Int)) -(b:Int))=(D:Int)/\D%W=rh x lo b/\D / 2^63=Vt x lo b:=by
 have hW:W=4294967296:=rfl;refine⟨if x<lo+b then x+2^64 -lo -b else x -lo -b,?_,?_,?_⟩
 . have T:IntKind.u64.wrap ((x:Int) -(lo:Int))=((if x<lo then x+2^64 -lo else x -lo:Nat):Int):=by
    refine jA ?_ ?_<;>split<;>omega
   refine jA ?_ ?_
   all_goals grind
 . unfold rh;grind
 grind[Vt]
variable{i:Nat}
theorem RT{o:List Nat}(h:i<o.length)(x:Nat):(wC o).take i++[AV.int .u32 (x:Int)]++(wC o).drop (i+1)=wC (o.set i x):=uH h x
theorem aNu(a:Nat):LW 17 (aV 17 a):=⟨cW _ _,DT⟩
theorem bEc(u:Nat):(u:Int).fdiv (2^min 63 IntKind.u64.bits)=((u / 2^63:Nat):Int):=aEg u
variable{H H':aB}{p:Nat}
theorem NU.set(h:NU H H' p)(o:eS):NU H (H'.set p o) p:=⟨h.1,fun k O Z=>by rw[aB.aD,if_neg Z];exact h.2 k O Z⟩
variable{v n d:Nat}
theorem aQg{u j:Nat}(hg:H.get p=some (.cells (wC (aV 17 u)) false))(m:p<H.next)(A:n<=16)(Y:j+n<=16)(hd:d<W)(J:v<W^n)(B:u<W^(j+n+1))(O:u<W^17):
 ∃o H',(o=.ret (.bool (decide (u<d*v*W^j)))/\NU H H' p/\H'.get p=some (.cells (wC (aV 17 (tkN u v n j d))) false))/\Sg 256 [.ref p 0,.agg (wC (aV 16 v)),.int .i64 n,.int .i64 j,.int .u64 d] H o H':=by
 refine bZ fit bJk (Ab rfl) ?_;unfold aXb;dsimp only;have G:=iL (.aV v);have hW:W=4294967296:=rfl;have p1:p≠H.next:=by omega
 have P:∀a k,IntKind.u64.wrap ((aT a k:Nat):Int)=(aT a k:Nat):=fun a k=>jA (Cx (dC a k) A1) (.inl rfl);have N:∀i,i<16->(wC (aV 16 v)).getD i aC=.int .u32 (aT v i):=fun i h=>gP h;refine bP ?_;refine Ty ?_;refine bQ ?_;generalize hX:H.alloc _=HA;have g0:=Kx (i:=p) hX;have g:=Kv (i:=H.next) hX;have y:NU H HA p:=by subst hX;exact⟨by simp only[zI,seval];omega,fun k E _=>by simp only[zI,seval,show k≠H.next by omega]⟩
 clear hX;refine bP ?_;refine Tz ?_;refine bQ ?_;refine aP fun K hK=>?_;refine bP ?_;refine Tz ?_;refine bQ ?_;refine bR [11,12] (fun i vs H'=>∃(o:List Nat) (c b:Nat),vs=[.int .u64 (c:Nat),.int .u64 (b:Nat)]/\c<W/\b<=1/\LW 17 o/\tv o u (j+i)/\vK o+d*(v%W^i)*W^j=u+(c+b)*W^(j+i)/\H'.get p=some (.cells (wC o) false)/\H'.get H.next=some (.cells (wC (aV 16 v)) false)/\NU H H' p) n A0 A1 ?_ ?_ ?_ ?_ ?_
 . exact zq
 . exact Zbj
 . refine⟨aV 17 u,0,0,by simp only[sm,zB,seval,Int.cast_ofNat_Int],by omega,by omega,aNu u,fun k E=>?_,?_,g0,g,y⟩
   . rw[<-(aNu u).aT,fP O]
   rw[fP O];simp[Ih]
 . rintro i f H2 F E T ⟨o,c,b,I,R,X,S,t,z,g0,g,w⟩;simp only[zM] at I;obtain⟨Q,M⟩:=I;have k0:=Kj (E 0 rfl);have k3:=Kj (E 3 rfl);have k4:=Kj (E 4 rfl);have k6:=Kj (E 6 rfl);have Z:=dC v i;have V:=dC u (j+i);have m1:d*aT v i<=4294967295*4294967295:=Az A0 A0;have s1:IntKind.u64.wrap ((d:Int)*((aT v i:Nat):Int))=((d*aT v i:Nat):Int):=jA A0 (.inl A3);have s2:IntKind.u64.wrap ((c:Int)+((d*aT v i:Nat):Int))=((c+d*aT v i:Nat):Int):=jA A0 (.inl A3);have s3:IntKind.i64.wrap ((j:Int)+(i:Int))=((j+i:Nat):Int):=wI A0;obtain⟨t1,t2,l⟩:=aAv S (show j+i<17 by omega) X t z;have x:(wC o).getD (j+i) aC=.int .u32 (aT u (j+i):Nat):=by rw[oG Zaq,t _ (Ad _)]
   have C:(wC o).length=17:=(by rw[cK];exact S.1);generalize L:c+d*aT v i=e at *;have s:e / W<W:=(by rw[hW];omega);have OP:e%W<W:=Bz _ qJ;have U:IntKind.u64.wrap ((e%W:Nat):Int)=((e%W:Nat):Int):=jA A0 (.inl rfl);obtain⟨D,d1,q,d3⟩:=bNg V (lo:=e%W) (b:=b) A0 X;have r:=(aJi V (lo:=e%W) (b:=b) A0).2.2;refine aM ?_;refine bP ?_;refine Wy ?_;refine bQ ?_;simp only[↓zP,zJ,seval,Q,M,k0,k3,k4,k6,g0,g,aI,G,show i<16 by omega,show i+1<=16 by omega,N _ (show i<16 by omega),P,s1,s2,s3,x,C,show j+i<17 by omega,show j+i+1<=17 by omega,CB,U,d1,q,d3,bEc,aZa];refine⟨_,_,_,rfl,s,r,t1,t2,l,by rw[RT Zaq],by rw[if_neg A0],w.set _⟩
 rintro f H2 E ⟨o,c,b,I,R,X,S,t,z,g0,g,w⟩;simp only[zM] at I;obtain⟨Q,M⟩:=I;have k0:=Kj (E 0 rfl);have k2:=Kj (E 2 rfl);have k3:=Kj (E 3 rfl);have V:=dC u (j+n);have s3:IntKind.i64.wrap ((j:Int)+(n:Int))=((j+n:Nat):Int):=wI A0;obtain⟨t1,t2,l⟩:=aJg S (show j+n<17 by omega) A0 t J B z;have x:(wC o).getD (j+n) aC=.int .u32 (aT u (j+n):Nat):=by rw[oG Zaq,t _ (Ad _)]
 have C:(wC o).length=17:=by rw[cK];exact S.1
 obtain⟨D,d1,q,d3⟩:=bNg V (lo:=c) (b:=b) A0 X;refine Tx ?_;apply hK;clear hK K;simp only[↓zP,zJ,seval,Q,M,k0,k2,k3,g0,aI,P,s3,x,C,show j+n<17 by omega,show j+n+1<=17 by omega,CB,d1,q,d3,bEc];refine Rx ?_
 have hq:(((Vt (aT u (j+n)) c b:Nat):Int)==1)=decide (u<d*v*W^j):=by rw[Eh,Dr,decide_eq_true_iff,<-t2];omega
 refine⟨by rw[hq];rfl,w.set _,?_⟩;rw[aB.aD,if_pos rfl,RT Zaq,t1]
theorem aMy{u j:Nat}(d:H.get p=some (.cells (wC (aV 17 u)) false))(m:p<H.next)(A:n<=16)(Y:j+n<=16)(J:v<W^n)(B:u<W^(j+n+1))(O:u<W^17):
 ∃o H',(o=.ret (nJ [])/\NU H H' p/\H'.get p=some (.cells (wC (aV 17 ((u+v*W^j)%W^(j+n+1)))) false))/\Sg 257 [.ref p 0,.agg (wC (aV 16 v)),.int .i64 n,.int .i64 j] H o H':=by
 refine bZ fit bJl (Ab rfl) ?_;unfold aXc;dsimp only;have G:=iL (.aV v);have hW:W=4294967296:=rfl;have p1:p≠H.next:=by omega
 have P:∀a k,IntKind.u64.wrap ((aT a k:Nat):Int)=(aT a k:Nat):=fun a k=>jA (Cx (dC a k) A1) (.inl rfl);have N:∀i,i<16->(wC (aV 16 v)).getD i aC=.int .u32 (aT v i):=fun i h=>gP h;refine bP ?_;refine Ty ?_;refine bQ ?_;generalize hX:H.alloc _=b;have g0:=Kx (i:=p) hX;have g:=Kv (i:=H.next) hX;have y:NU H b p:=by subst hX;exact⟨by simp only[zI,seval];omega,fun k E _=>by simp only[zI,seval,show k≠H.next by omega]⟩
 clear hX;refine bP ?_;refine Tz ?_;refine bQ ?_;refine aP fun K hK=>?_;refine bP ?_;refine Tz ?_;refine bQ ?_;refine bR [8] (fun i vs H'=>∃(o:List Nat) (c:Nat),vs=[.int .u64 (c:Nat)]/\c<=1/\LW 17 o/\tv o u (j+i)/\vK o+c*W^(j+i)=u+v%W^i*W^j/\H'.get p=some (.cells (wC o) false)/\H'.get H.next=some (.cells (wC (aV 16 v)) false)/\NU H H' p) n A0 A1 ?_ ?_ ?_ ?_ ?_
 . exact zq
 . exact Zbj
 . refine⟨aV 17 u,0,by simp only[sm,zB,seval,Int.cast_ofNat_Int],by omega,aNu u,fun k E=>?_,?_,g0,g,y⟩
   . rw[<-(aNu u).aT,fP O]
   rw[fP O];simp[Ih]
 . rintro i f H2 F E T ⟨o,c,I,R,S,t,z,g0,g,w⟩;simp only[zM] at I;have k0:=Kj (E 0 rfl);have k3:=Kj (E 3 rfl);have k5:=Kj (E 5 rfl);have Z:=dC v i;have V:=dC u (j+i);have s1:IntKind.u64.wrap (((aT u (j+i):Nat):Int)+((aT v i:Nat):Int))=((aT u (j+i)+aT v i:Nat):Int):=jA A0 (.inl A3);have s2:IntKind.u64.wrap ((c:Int)+((aT u (j+i)+aT v i:Nat):Int))=((aT u (j+i)+aT v i+c:Nat):Int):=jA A0 (.inl A0);have s3:IntKind.i64.wrap ((j:Int)+(i:Int))=((j+i:Nat):Int):=wI A0;obtain⟨t1,t2,l⟩:=xe S (show j+i<17 by omega) t z;have x:(wC o).getD (j+i) aC=.int .u32 (aT u (j+i):Nat):=by rw[oG Zaq,t _ (Ad _)]
   have C:(wC o).length=17:=(by rw[cK];exact S.1);generalize L:aT u (j+i)+aT v i+c=e at *;have s:e / W<=1:=(by rw[hW];omega);refine aM ?_;refine bP ?_;refine Wy ?_;refine fQ ?_;refine Dz ?_;have :i<16:=A0;have :i+1<=16:=A0;have :=N _ (show i<16 by omega);have :j+i<17:=A0;have :j+i+1<=17:=A0;refine Wy ?_;refine bQ ?_;simp only[↓zP,zJ,seval,k0,k3,g0,aI,s3,C,show j+i<17 by omega,show j+i+1<=17 by omega,CB,aZa];refine⟨_,_,rfl,s,t1,t2,l,by rw[RT Zaq],by rw[if_neg A0];exact g,w.set _⟩
 rintro f H2 E ⟨o,c,I,R,S,t,z,g0,g,w⟩;simp only[zM] at I;have k0:=Kj (E 0 rfl);have k2:=Kj (E 2 rfl);have k3:=Kj (E 3 rfl);have s3:IntKind.i64.wrap ((j:Int)+(n:Int))=((j+n:Nat):Int):=wI A0;have t1:=aEq S (show j+n<17 by omega) t J B z;have x:(wC o).getD (j+n) aC=.int .u32 (aT u (j+n):Nat):=by rw[oG Zaq,t _ (Ad _)]
 have C:(wC o).length=17:=by rw[cK];exact S.1
 have q:IntKind.u32.wrap (((aT u (j+n):Nat):Int)+((c%W:Nat):Int))=(((aT u (j+n)+c)%W:Nat):Int):=by rw[show((aT u (j+n):Nat):Int)+((c%W:Nat):Int)=((aT u (j+n)+c%W:Nat):Int) by simp,CB,Nat.add_mod_mod]
 refine Tx ?_;apply hK;clear hK K;refine Dz ?_;simp only[↓zP,zJ,seval,zD,I,k0,k2,k3,g0,aI,s3,x,C,show j+n<17 by omega,show j+n+1<=17 by omega,CB,q];refine⟨rfl,[],rfl,rfl,w.set _,?_⟩;rw[aB.aD,if_pos rfl,RT Zaq,t1]
variable{k:Nat}
theorem aDt(O:0<d):((v / W^(k+1)%d)*W+aT v k)%d=v / W^k%d/\(d<=W->((v / W^(k+1)%d)*W+aT v k) / d=aT (v / d) k):=by
 have e:=nQ v k;generalize n:v / W^(k+1)=A at e;generalize C:aT v k=x at e;have l:=Dt A d
 have T:v / W^k=d*(A / d*W)+(A%d*W+x):=by
  rw[e]
  conv=>lhs;rw[<-l]
  rw[Bn,Cf,Bm]
 refine⟨by rw[T,Ij],fun a=>?_⟩;have b:x<W:=by rw[<-C];exact dC v k
 have V:A%d<d:=Bz _ O
 have D:(A%d*W+x) / d<W:=by rw[Cm O];have :(A%d+1)*W<=d*W:=Bc _ V;rw[Bn] at this;rw[Cc W d];omega
 unfold aT;rw[Dn,Cc d,<-Dn,T,Ju O,Cc (A / d),Ij,Bk D]
theorem TM{X:Nat}(E:k<16)(hX:X<W^16):(aV 16 (X / W^(k+1)*W^(k+1))).set k (aT X k)=aV 16 (X / W^k*W^k):=by
 have s:aT (X / W^(k+1)*W^(k+1)) k=0:=by unfold aT;rw[De,<-Cf,Nat.mul_right_comm,Nat.mul_div_cancel _ (eB k),Nat.mul_mod_left]
 have J:X / W^(k+1)*W^(k+1)<W^16:=Bv (Ip _ _) hX;have :=Mt (v:=X / W^(k+1)*W^(k+1)) (X:=aT X k) E J (by rw[s,Ds];exact dC X k);rw[s,Ds] at this;rw[this];congr 1;rw[nQ X k,Bn,Cf,<-Jl]
theorem aAo(J:v<W^16)(O:0<d)(hd:d<W)(H:aB):
 Sg 229 [.agg (wC (aV 16 v)),.int .u32 d] H (.ret (.iV [.agg (wC (aV 16 (v / d))),.int .u32 ((v%d:Nat):Int)])) H:=by
 refine So bIq Zad ?_ H;unfold aWh;dsimp only;have G:=iL (.aV v);have hW:W=4294967296:=rfl;have hX:v / d<W^16:=Bv (Fq _ _) J;have n:aV 16 (v / d / W^16*W^16)=zs:=by rw[Dg hX,Gq];decide
 refine Ty ?_;refine UJ [6] (fun i vs H'=>vs=[.int .u64 ((v / W^i%d:Nat):Int)]/\H'.get 0=some (.cells (wC (aV 16 v)) false)/\H'.get 1=some (.cells (wC (aV 16 (v / d / W^i*W^i))) false)) 16 A0 A1 ?_ ?_ ?_ ?_ ?_
 . exact zq
 . refine⟨by simp only[sm,zB,seval,Dg J,Nat.zero_mod,Int.cast_ofNat_Int],by simp only[seval,zI],by simp only[seval,zI,n]⟩
 . rintro i f H1 F E T t;exact ZaF
 . rintro i f H1 F E T ⟨I,g0,g⟩;simp only[zM] at I;have u:f 1=.int .u32 d:=by rw[E 1 rfl];simp only[↓zP,zG,seval]
   have P:f 2=.ref 0 0:=(by rw[E 2 rfl];simp only[↓zP,zG,seval]);have m:f 4=.ref 1 0:=(by rw[E 4 rfl];simp only[↓zP,zG,seval]);obtain⟨s1,s2⟩:=aDt (v:=v) (k:=i) O;have s2:=s2 A0;have X:v / W^(i+1)%d<4294967296:=(by have :=Bz (v / W^(i+1)) O;omega);have D:aT v i<4294967296:=dC v i;have s:GP .or .u64 (IntKind.u64.wrap (((v / W^(i+1)%d:Nat):Int)*2^min 32 IntKind.u64.bits)) ((aT v i:Nat):Int)=some (.int .u64 ((v / W^(i+1)%d*4294967296+aT v i:Nat):Int)):=e9 X D;have a:=iL (.aV (v / d / W^(i+1)*W^(i+1)));generalize V:v / W^(i+1)%d=r at *;generalize C:aT v i=x at *;have h:IntKind.u64.wrap (x:Int)=(x:Int):=jA A0 (.inl rfl);have j:IntKind.u64.wrap (d:Int)=(d:Int):=jA A0 (.inl rfl);refine aM ?_;simp only[↓zP,zJ,seval,T,I,P,g0,aI,F,G,gP F,C,show i+1<=16 by omega,h];have e:((d:Nat):Int)≠0:=by omega
   have t1:(((r*4294967296+x:Nat):Int)).tdiv (d:Int)=((aT (v / d) i:Nat):Int):=by rw[<-s2,hW];rfl
   have t2:(((r*4294967296+x:Nat):Int)).tmod (d:Int)=((v / W^i%d:Nat):Int):=by rw[<-s1,hW];rfl
   have b:aT (v / d) i<W:=dC _ _;have R:IntKind.u64.wrap ((aT (v / d) i:Nat):Int)=((aT (v / d) i:Nat):Int):=jA A0 (.inl rfl);have o:=TM F hX;simp only[↓zP,zJ,seval,s,u,j,e,t1,R,CB,Bk b,m,F,g,a,show i+1<=16 by omega,t2];refine⟨trivial,g0,?_⟩;have :=uH (l:=aV 16 (v / d / W^(i+1)*W^(i+1))) (i:=i) (by rw[cW];exact F) (aT (v / d) i);rw[o] at this;exact Al (fun l=>some (eS.cells l false)) this
 rintro f H1 E ⟨I,g0,g⟩;simp only[zM] at I;have m:f 4=.ref 1 0:=by rw[E 4 rfl];simp only[↓zP,zG,seval]
 have a:=iL (.aV (v / d));have c:v%d<W:=Cx (Bz _ O) hd;rw[Gr,Ho,Df] at g;rw[Gr,Ho] at I;simp only[↓zP,zJ,seval,I,m,g,a,CB,Bk c];refine⟨rfl,_,by simp only[↓zP,zR,seval,a,m];rfl,?_⟩;rfl
theorem aIs(X:b<W^16)(G:sz b≠0):0<dW (aT b (sz b -1))/\dW (aT b (sz b -1))<=32/\b*2^(32 -dW (aT b (sz b -1)))<W^sz b/\W^(sz b -1)<=b*2^(32 -dW (aT b (sz b -1))):=by
 have O:=qz G;have Z:=MC X;have e:sz b -1+1=sz b:=by omega
 have U:aT b (sz b -1)=b / W^(sz b -1):=zL (by grind);have m:0<aT b (sz b -1):=by rw[U];exact Jj O (eB _)
 have k1:¬dW (aT b (sz b -1))<=0:=fun h=>by have :=jS.1 h;omega
 have k2:dW (aT b (sz b -1))<=32:=jS.2 (dC _ _);have k3:aT b (sz b -1)<2^dW (aT b (sz b -1)):=jS.1 (Ad _);refine⟨by omega,k2,?_,Aw O (Nat.le_mul_of_pos_right _ (Gl A1))⟩;rw[U] at k3;rw[Cm (eB _),U.symm] at k3;generalize dW (aT b (sz b -1))=t at *;have h4:=Nat.mul_lt_mul_of_pos_right k3 (Gl (n:=32 -t) (show 0<2 by decide))
 have o:2^t*W^(sz b -1)*2^(32 -t)=W^sz b:=by rw[Nat.mul_right_comm,<-aQz t k2,<-Jl,Nat.succ_eq_add_one,e]
 omega
variable{v:AV}
theorem aBr{P:Program}{g:bL}{pairs:List (Nat×Nat)}{base:Nat}{W:List bH}{a:List (Nat×Nat)}{t:List (Nat×aB×aB)}{f:dI}{R:dI->aB->Prop}{sz:Nat}{x y:Arg}(hd:d<n)(b:dU (nZ g f) H (.copy sz x y)=some (v,H'))(A:H.next<=H'.next)(V:∀x∈a,(x.1,i)∈pairs->H.get x.2=H'.get x.2)
 (h:eE P g n pairs base (i+1) k W a ((i,H,H')::t) (jF f d v) H' R):eE P g n pairs base i k (⟨some d,.copy sz x y,none⟩::W) a t f H R:=by
 have :gJ n f (some d) v=jF f d v:=by grind[gJ]
 unfold eE;rw[if_pos (by rfl)]
 grind[eN.fresh,eN.rF,bV]
variable{a:Nat}
theorem Nv(I:a<W^16)(X:b<W^16)(q:0<b)(H:aB):
 Sg 198 [.agg (wC (aV 16 a)),.agg (wC (aV 16 b))] H (.ret (.iV [.agg (wC (aV 16 (a / b))),.agg (wC (aV 16 (a%b)))])) H:=by
 refine So bHx Zad ?_ H;unfold aVp;dsimp only;have la:=iL (.aV a);have lb:=iL (.aV b);have hW:W=4294967296:=rfl;refine bP ?_;refine Ty ?_;refine bQ ?_;generalize hX:(((aB.alloc _ _).alloc _).alloc _).alloc _=HA;have g0:=Kv (i:=0) hX;have g:=Kv (i:=1) hX;have e:=Kv (i:=2) hX;have U:=Kv (i:=3) hX;have gn:HA.next=4:=by subst hX;rfl
 clear hX;refine bP ?_;refine Dz ?_;have :=tY b;have :=tY a;refine Wz ?_;refine bQ ?_;refine cC fun f N=>?_;have P:=Kf (i:=2) N;have S:=Kf (i:=3) N;have l:=Kf (i:=4) N;have f5:=Kf (i:=5) N;have L:=Kf (i:=6) N;have J:=Kf (i:=7) N;clear N;refine bP ?_;have :=Lm I X;refine Wz ?_;refine⟨fun h=>?_,fun h=>?_⟩
 . have r:a<b:=by unfold IK at h;split at h<;>(try split at h)<;>omega
   refine Dz ?_;refine Wz ?_;refine⟨rfl,_,by simp only[↓zP,zR,seval,l,f5,la,iz];rfl,?_⟩;rw[Dg r,Bk r,vH];rfl
 have aO:b<=a:=by unfold IK at h;split at h<;>(try split at h)<;>omega
 refine bQ ?_;refine cC fun f' N=>?_;have k2:=Ks N P;have k3:=Ks N S;have k4:=Ks N l;have k5:=Ks N f5;have k6:=Ks N L;have k7:=Ks N J;clear N P S l f5 L J f h;have Oh:sz b≠0:=fun h=>by have :=(rf X).1 h;omega
 have b3:1<=sz b:=by omega
 have bt:=Yn b;have bu:=Yn a;refine bP ?_;by_cases h1:sz b=1
 . have c1:(((sz b:Nat):Int)==1)=true:=by simp[h1]
   have af:b<W:=(by have :=MC X;rw[h1,Nat.pow_one] at this;exact this);have Nl:aT b 0=b:=(by unfold aT;rw[Gr,Ho,Bk af]);have aq:a%b<W:=Cx (Bz _ q) af;have Z:=iL (.aV (a / b));have lr:=iL (.aV (a%b));have gb:(wC (aV 16 b)).getD 0 aC=.int .u32 (b:Nat):=(by rw[gP A1,Nl]);simp only[↓zP,zJ,seval,k6,c1,k2,k3,g0,g,la,lb,AH,gb];refine eI (aAo I q af _) ?_
   have hw:AV.int .u32 ((a%b:Nat):Int)::(wC zs).drop 1=wC (aV 16 (a%b)):=by have E:∀k,1<=k->aT (a%b) k=0:=fun k E=>zK (m:=1) (by rw[Nat.pow_one];exact aq) E;have h0:aT (a%b) 0=a%b:=(by unfold aT;rw[Gr,Ho,Bk aq]);simp[wC,zs,aV,List.range,List.range.loop,E,h0,List.replicate]
   refine Wz ?_;refine⟨rfl,_,by simp only[↓zP,zR,seval,k4,k5,Z,lr];rfl,?_⟩;rfl
 have c1:(((sz b:Nat):Int)==1)=false:=by simp;omega
 refine Wz ?_;refine bQ ?_;obtain⟨q1,q2,q3,q4⟩:=aIs X Oh;have aN:sz b<=sz a:=(NM X).2 (Bv aO (MC I));have b6:=MC I;have b5:=qz Oh;have gw:∀i,i<16->(wC (aV 16 b)).getD i aC=.int .u32 (aT b i):=fun i h=>gP h;have w1:IntKind.i64.wrap (((sz b:Nat):Int) -1)=((sz b -1:Nat):Int):=wI A0;have w2:IntKind.i64.wrap (((sz a:Nat):Int) -((sz b:Nat):Int))=((sz a -sz b:Nat):Int):=wI A0;refine bP ?_;have :sz b -1<16:=by omega
 have :sz b -1+1<=16:=by omega
 have :=gw _ (show sz b -1<16 by omega);have :=bDp (dC b (sz b -1));refine Wz ?_;refine bQ ?_;generalize hn:sz b=n at *;generalize hm:sz a=m at *;generalize hs:32 -dW (aT b (n -1))=s at *;have ab:s<32:=by omega
 have bo:b*2^s<W^16:=Au q3 (Bu qJ A0);refine bP ?_;have :=aTj X ab;refine Wz ?_;have lv:=iL (.aV (b*2^s));refine Wz ?_;refine fQ ?_;simp only[↓zP,zJ,seval,k2,g0,la,gn];refine eI (aTj I ab _) ?_;have Q:=iL (.aV (a*2^s));simp only[↓zP,zJ,seval,gn,Q];refine fQ ?_;simp only[↓zP,zJ,seval,gn];refine bQ ?_;generalize hX:aB.alloc _ _=t;have e:=Kx (i:=2) hX;have U:=Kx (i:=3) hX;have R:=Kx (i:=4) hX;have g5:=Kx (i:=5) hX;have V:=Kx (i:=6) hX;have gN:t.next=7:=by subst hX;simp only[zI,seval,gn]
 clear hX g0 g gn;refine cC fun f N=>?_;have l:=Ks N k4;have f5:=Ks N k5;have L:=Ks N k6;have J:=Ks N k7;have bl:=Kf (i:=10) N;have bj:=Kf (i:=11) N;have bf:=Kf (i:=13) N;have bc:=Kf (i:=14) N;have a7:=Kf (i:=15) N;clear N k2 k3 k4 k5 k6 k7 f';refine bP ?_;refine Dz ?_;have aj:jV t 17 1 (.ref 6 0) none none none=some (.sl 6 1 0 17 17):=by simp[jV,aB.eV,V,iz.1]
 have ak:jV t 16 1 (.ref 5 0) none none none=some (.sl 5 1 0 16 16):=by simp[jV,aB.eV,g5,Q.1]
 have bm:dM t 1 (.sl 5 1 0 16 16)=some (gE 1 16 (wC (aV 16 (a*2^s)))):=by simp[dM,aB.eV,g5,Q.1]
 obtain⟨ar,bs,-⟩:=mB 1 16 (wC (aV 16 (a*2^s))) (by rw[Q.1];decide);rw[Bd (by rw[Q.1];decide)] at ar
 have bn:wC (aV 16 (a*2^s))++List.drop (wC (aV 16 (a*2^s))).length (AV.int .u32 0::wC zs)=wC (aV 16 (a*2^s)++[0]):=by rw[Q.1];simp[wC,zs]
 generalize gE 1 16 (wC (aV 16 (a*2^s)))=ch at *;simp only[↓zP,zJ,seval,zD,eD,bf,a7,ak,aj]
 have cp:dU (nZ gv (jF (jF f 57 (.sl 6 1 0 17 17)) 58 (.sl 5 1 0 16 16))) t (.copy 1 (.tmp 57) (.tmp 58))=some (.int .i64 16,t.set 6 (.cells (wC (aV 16 (a*2^s)++[0])) false)):=by
  have T:(ch.take 16).flatten=wC (aV 16 (a*2^s)):=by rw[Bd A0,ar]
  have := @dU;refine Wz ?_;simp[T,bn]
 refine aBr A1 cp (Ad _) A3 ?_;simp only[seval,zD];refine bQ ?_
 have ay:a*2^s<W^17:=by have :=Hz I (Nat.pow_lt_pow_right (show 1<2 by decide) ab);exact Au this A1
 have b8:a*2^s / W^16=aT (a*2^s) 16:=(zL ay).symm
 have b9:((wC (aV 16 (a*2^s)++[0])).take 16++[AV.int .u32 ((a*2^s / W^16:Nat):Int)]++(wC (aV 16 (a*2^s)++[0])).drop 17)=wC (aV 17 (a*2^s)):=by rw[b8];unfold wC;simp[aV,Dh]
 have bq:(wC (aV 16 (a*2^s)++[0])).length=17:=by simp[cK,cW]
 refine bP ?_;simp only[↓zP,zJ,seval,bc,a7,bq,b9,asNat];refine bQ ?_;generalize hX:aB.set _ 6 _=HC
 replace e:=Kx (i:=2) hX
 replace U:=Kx (i:=3) hX
 replace R:=Kx (i:=4) hX
 replace V:=Kv (i:=6) hX
 replace gN:6<HC.next:=by subst hX;simp only[zI,seval,gN]
 clear hX ak aj bm cp g5 t;have hA:=zm (s:=s) b6 aN b5 b3;have eQ:a*2^s / (b*2^s)=a / b:=Nat.mul_div_mul_right _ _ (Gl A1);have eR:a*2^s%(b*2^s) / 2^s=a%b:=by rw[Nat.mul_mod_mul_right,Nat.mul_div_cancel _ (Gl A1)]
 generalize br:a*2^s=A at *;generalize hV:b*2^s=v at *;have c:0<v:=Au (eB _) q4;have bp:A / v<W^16:=by rw[eQ];exact Bv (Fq _ _) I
 have b7:A / v<W^(m -n+1):=by rw[Cm c,Cc];exact hA
 refine aP fun K hK=>?_;refine bP ?_;refine Wy ?_;refine bQ ?_;refine UJ [] (fun i _ H'=>H'.get 2=some (.cells (wC (aV 16 (A / v / W^i*W^i))) false)/\H'.get 3=some (.cells (wC zs) false)/\H'.get 4=some (.cells (wC (aV 16 v)) false)/\H'.get 6=some (.cells (wC (aV 17 (A%(v*W^i)))) false)/\6<H'.next) (m -n+1) A0 A1 ?_ ?_ ?_ ?_ ?_
 . simp only[zB,seval];exact Al (AV.int .i64) A0
 . rw[Dg b7,Gq,vH,Bk hA];exact⟨e,U,R,V,gN⟩
 . rintro i P H1 hi E T hJ;exact ZaF
 . rintro j P H1 Y E T ⟨e,U,R,V,gN⟩;have k4:P 4=.ref 2 0:=by rw[E 4 rfl];simp only[zB,seval];exact l
   have k6:P 6=.int .i64 (n:Nat):=(by rw[E 6 rfl];simp only[zB,seval];exact L);have ae:P 11=.ref 4 0:=(by rw[E 11 rfl];simp only[zB,seval];exact bj);have O:P 15=.ref 6 0:=(by rw[E 15 rfl];simp only[zB,seval];exact a7);have B:A%(v*W^(j+1))<v*W^(j+1):=Bz _ (Hn c (eB _));obtain⟨_,_,r3,r4,M⟩:=bEj A0 q3 q4 B;obtain⟨ad,ag⟩:=aHt (A:=A) (j:=j) A0 q3 q4;have cg:A%(v*W^(j+1))<W^17:=Bv (Nat.mod_le _ _) ay;generalize hU:A%(v*W^(j+1))=u at *;obtain⟨_,H2,⟨rfl,n2,s2⟩,hg⟩:=aEv (v:=v) V gN A0 A0 (show j+n<=16 by omega) r3 r4;have bb:6<H2.next:=A0;have d2:=(s2 2 A0).trans e;have d3:=(s2 3 A0).trans U;have y:=(s2 4 A0).trans R;have d6:=(s2 6 A0).trans V;have b4:gsU u v n j<W:=Bv (Ik _ _) A1;change (gsU u v n j*v*W^j<=u->_) at ad;rw[<-O] at hg;refine aM ?_;refine bP ?_;simp only[↓zP,zJ,seval,T,k6,ae,R,lv];refine eI (hg) ?_;refine Tz ?_;refine bQ ?_;have D:gsD (aT u (j+n)) (aT u (j+n -1)) (aT u (j+n -2)) (aT v (n -1)) (aT v (n -2))=gsU u v n j:=rfl;rw[D] at ad ag;generalize hD:gsU u v n j=d at *;clear D hg;obtain⟨_,H3,⟨rfl,⟨n3,s3⟩,e6⟩,ht⟩:=aQg (d:=d) (v:=v) d6 bb A0 (show j+n<=16 by omega) b4 q3 M cg;have ba:6<H3.next:=A0;have o:=(s3 2 A0 A0).trans d2;have C:=(s3 3 A0 A0).trans d3;have e4:=(s3 4 A0 A0).trans y;rw[<-O] at ht;refine aP fun K2 dJ=>?_
   have p:∀(S:dI) (G:aB) (d':Nat),d'=aT (A / v) j->S 4=.ref 2 0->S 16=.int .i64 (j:Nat)->S 17=.int .u64 (d':Nat)->G.get 2=some (.cells (wC (aV 16 (A / v / W^(j+1)*W^(j+1)))) false)->G.get 3=some (.cells (wC zs) false)->G.get 4=some (.cells (wC (aV 16 v)) false)->G.get 6=some (.cells (wC (aV 17 (A%(v*W^j)))) false)->6<G.next->K2 S [] G:=by
    rintro S G d' rfl x4 aA az y2 y3 y4 y6 w;apply dJ;clear dJ K2 hK;have Ut:=dC (A / v) j;have lx:=iL (.aV (A / v / W^(j+1)*W^(j+1)));have GG:=TM (show j<16 by omega) bp
    have aK:(wC (aV 16 (A / v / W^(j+1)*W^(j+1)))).take j++[AV.int .u32 ((aT (A / v) j:Nat):Int)]++(wC (aV 16 (A / v / W^(j+1)*W^(j+1)))).drop (j+1)=wC (aV 16 (A / v / W^j*W^j)):=by rw[RT (by rw[cW];omega),GG]
    simp only[↓zP,zJ,seval,x4,aA,az,CB,Bk Ut,aI,show j<16 by omega,show j+1<=16 by omega,y2,lx,aK,y3,y4,y6];exact⟨trivial,trivial,trivial,trivial,w⟩
   refine aP fun F DJ=>?_;simp only[↓zP,zJ,seval,T,k6,ae,y,lv];refine eI (ht) ?_;refine Tx ?_;apply DJ;clear DJ F dJ;by_cases r:u<d*v*W^j
   . obtain⟨z1,z,z3⟩:=ag r;rw[Af r];have a6:tkN u v n j d=u+W^(j+n+1) -d*v*W^j:=by unfold tkN;rw[if_neg A0]
     have an:tkN u v n j d<W^(j+n+1):=by rw[a6];have :=eB (j+n+1);omega
     have aF:tkN u v n j d<W^17:=Au an (Bu qJ A0);obtain⟨_,G,⟨rfl,⟨n4,s4⟩,y6⟩,hv⟩:=aMy (v:=v) e6 ba A0 (show j+n<=16 by omega) q3 an aF;rw[a6,z1] at y6;rw[<-O] at hv;have s1:IntKind.u64.wrap ((d:Int) -1)=((d -1:Nat):Int):=jA A0 (.inl A0);simp only[↓zP,zJ,seval,s1,T,k6,ae,e4,lv];refine eI (hv) ?_;refine Tx ?_;refine p _ G (d -1) z3 ?_ ?_ ?_ ((s4 2 A0 A0).trans o) ((s4 3 A0 A0).trans C) ((s4 4 A0 A0).trans e4) y6 (by omega)<;>simp only[zB,seval,k4,T]
   obtain⟨z1,z⟩:=ad A0;have a6:tkN u v n j d=u -d*v*W^j:=(by unfold tkN;rw[if_pos A0]);rw[a6,z1] at e6;rw[Ac r];refine Tz ?_;refine p _ H3 d z ?_ ?_ ?_ o C e4 e6 (by omega)<;>simp only[zB,seval,k4,T]
 rintro P H1 E ⟨e,U,R,V,gN⟩;have k4:P 4=.ref 2 0:=by rw[E 4 rfl];simp only[zB,seval];exact l
 have k5:P 5=.ref 3 0:=by rw[E 5 rfl];simp only[zB,seval];exact f5
 have x:P 10=.int .i64 (s:Nat):=by rw[E 10 rfl];simp only[zB,seval];exact bl
 have O:P 15=.ref 6 0:=by rw[E 15 rfl];simp only[zB,seval];exact a7
 rw[Gr,Ho,Df] at e;rw[Gr,Df] at V;have hR:A%v<W^16:=Cx (Bz _ c) bo;have lR:=iL (.aV (A%v));have Z:=iL (.aV (A / v));have ld:=iL (.aV (a%b));refine Tx ?_;apply hK;clear hK K;refine bP ?_;have sa:jV H1 17 1 (.ref 6 0) none (some 16) none=some (.sl 6 1 0 16 17):=by simp[jV,aB.eV,V,bBx]
 have dn:=aMm hR ab;rw[eR] at dn;rw[eQ] at e Z
 have aE:(wC (aV 17 (A%v))).take 16=wC (aV 16 (A%v)):=by unfold wC;rw[<-List.map_take,QU A1]
 refine Dz ?_;simp only[↓zP,zJ,seval,zD,eD,asNat,k4,x,O,e,V,Z,sa,bBx,aE];refine gV (dn _) ?_;simp only[↓zP,zJ,seval,zD,k4,k5,e,U,Z,ld];refine bQ ?_;refine Tx ?_;refine⟨rfl,_,by simp only[↓zP,zR,seval,k4,k5,Z,ld];rfl,?_⟩;rfl
def aYt:AV->Option Nat
 |.int .u32 n=>match Nat.blt n.natAbs W&&decide ((n.natAbs:Int)=n) with
  |true=>some n.natAbs
  |false=>none
 |_=>none
theorem aMj{x:AV}(h:aYt x=some a):x=.int .u32 (a:Nat)/\a<W:=by
 unfold aYt at h;split at h
 . split at h<;>simp_all
 grind
def aMi:List AV->Option (List Nat)
 |[]=>some []
 |x::r=>match aYt x,aMi r with
  |some a,some l=>some (a::l)
  |_,_=>none
theorem kv:∀{v:List AV} {l:List Nat},aMi v=some l->v=wC l/\∀d∈l,d<W
 |[],l,h=>by cases h;exact⟨rfl,fun d hd=>by grind⟩
 |x::r,l,h=>by
  simp only[aMi] at h;split at h
  . rename_i a l' I L;cases h;obtain⟨O,Z⟩:=kv L;obtain⟨B,h4⟩:=aMj I;refine⟨by rw[O,B];rfl,fun d hd=>?_⟩
    grind
  grind
def Zz:List AV->Option (Option Int)
 |.bool b::.bool n::r=>match aMi r with
  |some l=>match Nat.beq l.length 16 with
   |true=>some (SO b n l)
   |false=>none
  |none=>none
 |_=>none
theorem KN{v:List AV}{x:Option Int}(h:Zz v=some x):eJ v x:=by
 unfold Zz at h;split at h
 . rename_i b n r;split at h
   . rename_i l U;split at h
     . rename_i R;cases h;obtain⟨O,Z⟩:=kv U;exact⟨b,n,l,⟨Ch R,Z⟩,by grind,rfl⟩
     grind
   grind
 grind
def ze(g:Option Int->AV):List AV->Option AV
 |[.agg a]=>match Zz a with
  |some x=>some (g x)
  |none=>none
 |_=>none
def SF(g:Option Int->Option Int->AV):List AV->Option AV
 |[.agg a,.agg b]=>match Zz a,Zz b with
  |some x,some y=>some (g x y)
  |_,_=>none
 |_=>none
variable{f:FuncId}
theorem Ot{g:Option Int->AV}(w:∀a x,eJ a x->∀H,Sg f [.agg a] H (.ret (g x)) H){args:List AV}{v:AV}(h:ze g args=some v)(H:aB):Sg f args H (.ret v) H:=by
 unfold ze at h;split at h
 . rename_i a;split at h
   . rename_i x C;cases h;exact w a x (KN C) H
   grind
 grind
theorem wU{g:Option Int->Option Int->AV}(w:∀a b x y,eJ a x->eJ b y->∀H,Sg f [.agg a,.agg b] H (.ret (g x y)) H){args:List AV}{v:AV}(h:SF g args=some v)(H:aB):Sg f args H (.ret v) H:=by
 unfold SF at h;split at h
 . rename_i a b;split at h
   . rename_i x y C Q;cases h;exact w a b x y (KN C) (KN Q) H
   grind
 grind
def aHi:List AV->Option AV
 |[.int .i64 z]=>match decide (-2^63<=z)&&decide (z<2^63) with
  |true=>some (.agg (cI z))
  |false=>none
 |_=>none
theorem aHj{args:List AV}(h:aHi args=some v)(H:aB):Sg 51 args H (.ret v) H:=by
 unfold aHi at h;split at h
 . split at h
   . rename_i R;cases h;simp only[Ak,Bs] at R;exact uP R.1 R.2 H
   grind
 grind
end Go.Proofs.YtogfcjbgeebfkaaGreatDoor
