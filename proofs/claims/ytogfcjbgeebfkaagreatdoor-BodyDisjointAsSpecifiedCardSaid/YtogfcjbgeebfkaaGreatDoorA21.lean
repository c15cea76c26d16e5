/-
  Part of the proof of statement 7
-/
import Derived.Test.YtogfcjbgeebfkaaGreatDoorA11
import Derived.Test.YtogfcjbgeebfkaaGreatDoorA17
import Derived.Test.YtogfcjbgeebfkaaGreatDoorA19
import Derived.Test.YtogfcjbgeebfkaaGreatDoorA20
import Derived.Test.YtogfcjbgeebfkaaGreatDoorA07
import Derived.Test.YtogfcjbgeebfkaaGreatDoorA05
set_option linter.unusedVariables false
set_option linter.unusedSimpArgs false
set_option maxRecDepth 100000
set_option maxHeartbeats 16000000
namespace Go.Proofs.YtogfcjbgeebfkaaGreatDoor
open Go Go.Av Go.lP Go.aD
attribute [local congr] aY aS aV aQ bD aX aW aH bE
attribute [local irreducible] FC bT eX
theorem aFx{P:Program}{g:bF}{n:Nat}{pairs:List (Nat×Nat)}{base:Nat}{i k:Nat}{rs:List aZ}{rd:List (Nat×Nat)}{ef:List (Nat×aA×aA)}{f:cW}{H:aA}{R:cW->aA->Prop}
 {d:Nat} {c:Arg} {fid:FuncId} {fs cs:List AV} {xs:List Arg} {args:List AV} {v:AV} {H':aA} (hd:d<n) (hc:nN g f c=.func (.func fid) fs cs) (ha:fs++xs.map (nN g f)++cs=args) (hS:Sound P g fid args H (.ret v) H') (hn:H.next<=H'.next)
 (hr:∀x∈rd,(x.1,i)∈pairs->H.get x.2=H'.get x.2)
 (h:eX P g n pairs base (i+1) k rs rd ((i,H,H')::ef) (iZ f d v) H' R):eX P g n pairs base i k (⟨some d,.call c xs,none⟩::rs) rd ef f H R:=by
 have :∀v,fM n f (some d) v=iZ f d v:=fun v=>by simp[fM,hd]
 unfold eX;rw[if_pos (by rfl)];simp only[this];refine⟨v,H',?_,hn,hr,h⟩;show ∃q,_=some q/\_;refine⟨(fid,fs,cs),?_,?_⟩
 . rw[hc];rfl
 rw[ha];exact hS
def gP(l:List aD.V)(k:Nat):aD.V:=l.getD k V0
def EE(l:List aD.V)(t:Nat×Nat×Nat):List AV:=cE (gP l t.1)++cE (gP l t.2.1)++cE (gP l t.2.2)
def uL(l:List aD.V)(t:Nat×Nat×Nat):Int:=D3 (gP l t.1) (gP l t.2.1) (gP l t.2.2)
theorem NI.trans{H H1 H2:aA}{r:Nat}(h:NI H H1 r)(k:NI H1 H2 r):NI H H2 r:=⟨By h.1 k.1,fun j a b=>(k.2 j (Bj a h.1) b).trans (h.2 j a b)⟩
theorem NI.of{H H1:aA}{r:Nat}(h:Over H H1):NI H H1 r:=⟨h.le,fun j a _=>h.same j a⟩
def yj(l:List aD.V)(fid r:Nat)(I:List (Nat×Nat×Nat)->aA->Prop):Prop:=∀T t H,t.1<l.length->t.2.1<l.length->t.2.2<l.length->r<H.next->bM H->I T H->
 ∃H',Sg fid [.agg (cI (uL l t)),.agg (EE l t),.ref r 0] H (.ret (pA [])) H'/\I (T++[t]) H'/\NI H H' r/\bM H'
theorem XM{tag:Nat}(ht:Nat.blt tag 2=true){l:List aD.V}{M:Nat}(hl:∀v∈l,bL M v)(hM:M<=2^18)(hlen:l.length<=64){S:List (aD.V×Int)}{L:aD.V×Int->List Nat}(hS:qZ l S L)(cG:S≠[])(asc:MM (gP l) l.length)
 {fid r:Nat} (I:List (Nat×Nat×Nat)->aA->Prop) (AF:∀T H H',Over H H'->I T H->I T H') (fA:yj l fid r I) {H0:aA} (hr:r<H0.next) (h0:I [] H0) (hfu:bM H0):
 ∃out H',(out=.ret (pA [])/\I (S.flatMap fun q=>mX (L q)) H'/\NI H0 H' r/\bM H')/\Sg 138 [.agg [.bC tag 3 (bK l)],.func (.func fid) [] [.ref r 0]] H0 out H':=by
 refine eH fit aNf (Al rfl) ?_;unfold aGg;dsimp only
 have Xg:S.length<=2^20:=by have h1:=sX (N:=l.length) (p:=fun i=>l.getD i V0) (AH hS.fl) (fun q hq=>(hS.fl.mem q).1 hq);have h2:l.length*(l.length*(l.length*2))<=64*(64*(64*2)):=Ba hlen (Ba hlen (Ba hlen (Ag _)));omega
 have hfa:=CS ht hl hM hlen hS cG;refine bX ?_;refine Tz ?_;refine gG ?_;refine Ty ?_;refine bO (hfa _) ?_;refine Ty ?_;refine bY ?_;generalize hX:aA.alloc _ eY.tok=HA;have a2:HA.get H0.next=some (.cells [.bC tag 3 (bK l)] false):=by subst hX;rw[aA.aI,if_neg A2,aA.aI,if_pos rfl]
 have aO:Over H0 HA:=by subst hX;exact((Over.refl H0).alloc _).alloc _
 have aF:bM HA:=by subst hX;exact(hfu.alloc _).alloc _
 have aN:H0.next+1<HA.next:=by subst hX;simp only[aA.bH];omega
 clear hX;refine cY fun f hf=>?_;have f1:f 1=.func (.func fid) [] [.ref r 0]:=by subst hf;simp only[↓zP,zG,seval]
 have f2:f 2=.ref H0.next 0:=by subst hf;simp only[zB,seval]
 obtain⟨tg,f9⟩:∃tg,f 9=.bC tg 5 (S.map (cL L)):=by subst hf;exact⟨H0.next+1+2,by simp only[zB,seval]⟩
 have f10:f 10=.int .i64 (S.length:Nat):=by subst hf;simp only[zB,seval,Ai]
 have f11:f 11=.int .i64 0:=by subst hf;simp only[zB,seval]
 clear hf;refine cC [] (fun i _ H'=>I ((S.take i).flatMap fun q=>mX (L q)) H'/\NI H0 H' r/\bM H'/\H'.get H0.next=some (.cells [.bC tag 3 (bK l)] false)/\H0.next<H'.next) S.length A0 A1 ?_ ?_ ?_ ?_ ?_
 . exact f11
 . exact f10
 . exact⟨AF _ _ _ aO h0,.of aO,aF,a2,by omega⟩
 . rintro i f' H1 hi hk e1 ⟨hI,PA,yB,g2,gn⟩;have k1:f' 1=.func (.func fid) [] [.ref r 0]:=by rw[hk 1 rfl];exact f1
   have k2:f' 2=.ref H0.next 0:=(by rw[hk 2 rfl];exact f2);have k9:f' 9=.bC tg 5 (S.map (cL L)):=(by rw[hk 9 rfl];exact f9);have hg:(S.map (cL L)).getD i []=cL L S[i]:=fB hi;have fo:=Ah hi;have hpo:=hS.po _ fo;have hF:=(hS.fl.mem _).1 fo;obtain⟨hm3,bJg⟩:=hpo.Uh asc hF
   have uA:((S.take (i+1)).flatMap fun q=>mX (L q))=((S.take i).flatMap fun q=>mX (L q))++mX (L S[i]):=by rw[Ax,Ha];simp[hi]
   rw[uA];generalize (S.take i).flatMap (fun q=>mX (L q))=T0 at *;generalize S[i]=q at *;have p5:(cL L q).length=5:=rfl;have p4:(cL L q).getD 4 aB=.bC 0 1 (vS (L q)):=rfl;refine aP ?_;refine bX ?_;simp only[↓zP,zJ,seval,e1,k9,aG,Ai,hi,hg,oL p5];refine bY ?_;generalize hX:(H1.alloc _).set H1.next _=H4;have u2:H4.get H0.next=some (.cells [.bC tag 3 (bK l)] false):=(by subst hX;rw[aA.aC,if_neg A0,aA.aI,if_neg A0];exact g2);have u5:H4.get H1.next=some (.cells (cL L q) false):=Zag;have un:H4.next=H1.next+1:=(by subst hX;simp only[aA.bA,aA.bH]);have uF:bM H4:=(by subst hX;exact(yB.alloc _).set Zaz _);have uO:Over H1 H4:=(by subst hX;exact((Over.refl H1).alloc _).set (Ag _) _);have uS:NI H0 H4 r:=PA.trans (.of uO);have uI:I T0 H4:=AF _ _ _ uO hI;clear hX hI PA yB g2 uO;generalize H1.next=r5 at *;refine cY fun f hf=>?_;have j1:=Ks hf k1;have j2:=Ks hf k2;have j5:f 5=.ref r5 0:=ZaN;clear hf;refine bX ?_;refine Tz ?_;refine bY ?_;have htl:(mX (L q)).length=(L q).length -2:=by simp[mX]
   have hlq:(L q).length<=l.length:=by
    have h1:=rK (L q) (gC (fun i=>l.getD i V0) l.length q.1 q.2) hpo.nodup (fun x hx=>hpo.aCk hx)
    have h2:(gC (fun i=>l.getD i V0) l.length q.1 q.2).length<=l.length:=by have :=Db (fun k=>decide (dot q.1 (l.getD k V0)=q.2)) (List.range l.length);simpa [gC] using this
    omega
   refine cP [] (fun i _ H'=>I (T0++(mX (L q)).take (i -2)) H'/\NI H0 H' r/\bM H'/\H'.get H0.next=some (.cells [.bC tag 3 (bK l)] false)/\H'.get r5=some (.cells (cL L q) false)/\r5<H'.next) 2 (L q).length A0 A0 A1 ?_ ?_ ?_ ?_ ?_
   . exact zq
   . exact⟨by simpa using uI,uS,uF,u2,u5,by omega⟩
   . rintro j f2 H2 IX hj eW e2 ⟨hI,PA,yB,g2,g5,gn⟩;have m5:f2 5=.ref r5 0:=(by rw[eW 5 rfl];simp only[zB,seval];exact j5);simp only[↓zP,zJ,seval,e2,m5,g5,p5,p4,dD];exact tB A0
   . rintro j f2 H2 IX hj eW e2 ⟨hI,PA,yB,g2,g5,gn⟩;have m1:f2 1=.func (.func fid) [] [.ref r 0]:=(by rw[eW 1 rfl];simp only[zB,seval];exact j1);have m2:f2 2=.ref H0.next 0:=(by rw[eW 2 rfl];simp only[zB,seval];exact j2);have m5:f2 5=.ref r5 0:=(by rw[eW 5 rfl];simp only[zB,seval];exact j5);obtain⟨a1,a2,a3,_,_⟩:=bJg (j -2) A0
     have htt:(mX (L q)).take (j+1 -2)=(mX (L q)).take (j -2)++[((L q).getD 0 0,(L q).getD (j -2+1) 0,(L q).getD (j -2+2) 0)]:=by have dT:j -2<(mX (L q)).length:=A0;rw[show j+1 -2=j -2+1 by omega,Ax,Ac dT];simp[mX]
     rw[htt,<-Dx];have s1:j -2+1=j -1:=A0;have s2:j -2+2=j:=A0;rw[s1] at a2 ⊢;rw[s2] at a3 ⊢;have b1:=(bU.1 a1).1;have b2:=(bU.1 a2).1;have b3:=(bU.1 a3).1;have o1:(vS (L q)).getD 0 []=[.int .i64 ((L q).getD 0 0:Nat)]:=(by rw[nR A0];simp[List.getD,show 0<(L q).length by omega]);have o2:(vS (L q)).getD (j -1) []=[.int .i64 ((L q).getD (j -1) 0:Nat)]:=(by rw[nR A0];simp[List.getD,show j -1<(L q).length by omega]);have o3:(vS (L q)).getD j []=[.int .i64 ((L q).getD j 0:Nat)]:=(by rw[nR A0];simp[List.getD,hj]);have vg:∀k,k<l.length->(bK l).getD k []=cE (gP l k):=fun k hk=>by rw[cH hk];simp[gP,List.getD,hk]
     have vn:∀k,k<l.length->bL M (gP l k):=fun k hk=>by have :gP l k=l[k]:=(by simp[gP,List.getD,hk]);rw[this];exact hl _ (Ah hk)
     generalize (L q).getD 0 0=x at *;generalize (L q).getD (j -1) 0=y at *;generalize (L q).getD j 0=z at *;have w1:IntKind.i64.wrap ((j:Int) -1)=((j -1:Nat):Int):=wI A0;have l3:∀v,(cE v).length=3:=fun v=>aM v;refine aP ?_;refine bX ?_;refine gZ 1 A1 yB.at1 fun H3 n3 e3=>?_;simp only[↓zP,zJ,seval,zD,m2,m5,e2,e3,g2,g5,p5,p4,pZ,aG,dD,aR,o1,o2,o3,w1,b1,b2,b3,vg x b1,vg y b2,vg z b3,show 0<(L q).length by omega,show j -1<(L q).length by omega,hj,aM];have h9:[AV.int .i64 (gP l x).x,.int .i64 (gP l x).y,.int .i64 (gP l x).z,.int .i64 (gP l y).x,.int .i64 (gP l y).y,.int .i64 (gP l y).z,.int .i64 (gP l z).x,.int .i64 (gP l z).y,.int .i64 (gP l z).z]=EE l (x,y,z):=rfl;have t9:(EE l (x,y,z)).length=9:=rfl;simp only[zJ,seval,zD,cE,h9,t9];refine bY ?_;generalize hX:(H3.set H2.next _).set H2.next _=H5;have x2:H5.get H0.next=some (.cells [.bC tag 3 (bK l)] false):=(by subst hX;rw[aA.aC,if_neg A0,aA.aC,if_neg A0,e3];exact g2);have x5:H5.get r5=some (.cells (cL L q) false):=(by subst hX;rw[aA.aC,if_neg A0,aA.aC,if_neg A0,e3];exact g5);have x7:H5.get H2.next=some (.cells (EE l (x,y,z)) false):=Zag;have xn:H5.next=H2.next+1:=by subst hX;simp only[aA.bA,n3]
     have xO:Over H2 H5:=by subst hX;refine⟨by simp only[aA.bA,n3];omega,fun k hk=>?_⟩;rw[aA.aC,if_neg A0,aA.aC,if_neg A0,e3]
     have xF:bM H5:=by subst hX;intro k hk;simp only[aA.bA,n3] at hk;rw[aA.aC,if_neg A0,aA.aC,if_neg A0,e3];exact yB k A0
     have xI:=AF _ _ _ xO hI;have xS:NI H0 H5 r:=PA.trans (.of xO);clear hX hI yB g2 g5 xO e3 n3 PA;generalize H2.next=r7 at *;refine cY fun f3 hf=>?_;have q1:=Ks hf m1;have q7:f3 7=.ref r7 0:=ZaN;clear hf;have c1:=LU (vn x b1) (vn y b2) (by have :M*M<=2^18*2^18:=Ba hM hM;omega);have cn:=iD (vn x b1) (vn y b2);have hMM:M*M<=2^18*2^18:=Ba hM hM;have hM3:2*(M*M)*M<=2^37*2^18:=Ba A0 hM
     have ic:∀i,CU ((aU (gP l x) (gP l y)).at i):=fun i=>by have h1:=cn.1;have h2:=cn.2.1;have h3:=cn.2.2;unfold aD.V.at;split<;>constructor<;>omega
     have iz:∀i,CU ((gP l z).at i):=fun i=>by have h1:=(vn z b3).1;have h2:=(vn z b3).2.1;have h3:=(vn z b3).2.2;unfold aD.V.at;split<;>constructor<;>omega
     have c2:=xl ic iz;rw[Vg cn (vn z b3) A0] at c2;change ∀H,Sg 185 [.agg (cE (aU (gP l x) (gP l y))),.agg (cE (gP l z))] H (.ret (.agg (cI (uL l (x,y,z))))) H at c2;obtain⟨H9,hS9,hI9,aBt,hf9⟩:=fA _ (x,y,z) H5 b1 b2 b3 (by have :=xS.1;omega) xF xI;have d0:(EE l (x,y,z)).take 3=cE (gP l x):=rfl;have d1:((EE l (x,y,z)).drop 3).take 3=cE (gP l y):=rfl;have d2:((EE l (x,y,z)).drop 6).take 3=cE (gP l z):=rfl;refine Dz ?_;simp only[↓zP,zJ,seval,zD,q1,q7,x7,pZ,t9,d0,d1];refine dM (c1 _) ?_;simp only[↓zP,zJ,seval,zD,q7,x7,pZ,t9,d2];refine dM (c2 _) ?_;simp only[↓zP,zJ,seval,zD,q7,x7,t9,oL t9];refine aFx (fid:=fid) (fs:=[]) (cs:=[.ref r 0]) A1 zq rfl hS9 aBt.1 (fun k hk hp=>?_) ?_
     . exfalso;simp at hp
     simp only[seval,zD];exact⟨hI9,xS.trans aBt,hf9,(aBt.2 _ A0 A0).trans x2,(aBt.2 _ A0 A0).trans x5,by have :=aBt.1;omega⟩
   rintro f2 H2 eW ⟨hI,PA,yB,g2,g5,gn⟩;rw[Bb A0] at hI;exact⟨hI,PA,yB,g2,by have :=PA.1;omega⟩
 rintro f' H1 hk ⟨hI,PA,yB,g2,gn⟩;rw[Ay] at hI;refine⟨rfl,[],rfl,rfl,hI,PA,yB⟩
end Go.Proofs.YtogfcjbgeebfkaaGreatDoor
namespace Go.Proofs.YtogfcjbgeebfkaaGreatDoor
open Go Go.Av Go.lP
attribute [local congr] aY aS aV aQ bD aX aW aH bE
attribute [local irreducible] FC bT eX
theorem bGh{x lo b:Nat}(hx:x<W)(h:lo+b<=W)(hb:b<=1):∃D:Nat,IntKind.u64.wrap (IntKind.u64.wrap ((x:Int) -(lo:Int)) -(b:Int))=(D:Int)/\D%W=ju x lo b/\D / 2^63=Ug x lo b:=by
 have hW:W=4294967296:=rfl;refine⟨if x<lo+b then x+2^64 -lo -b else x -lo -b,?_,?_,?_⟩
 . have e1:IntKind.u64.wrap ((x:Int) -(lo:Int))=((if x<lo then x+2^64 -lo else x -lo:Nat):Int):=by
    refine gR ?_ ?_<;>split<;>omega
   rw[e1];refine gR ?_ ?_
   . split<;>omega
   split<;>split<;>omega
 . unfold ju;simp only[hW] at *;split<;>omega
 unfold Ug;split<;>omega
theorem QX{o:List Nat}{i:Nat}(h:i<o.length)(x:Nat):(wC o).take i++[AV.int .u32 (x:Int)]++(wC o).drop (i+1)=wC (o.set i x):=tD h x
theorem aJf(a:Nat):LW 17 (aL 17 a):=⟨bP _ _,BQ⟩
theorem aYg(u:Nat):(u:Int).fdiv (2^min 63 IntKind.u64.bits)=((u / 2^63:Nat):Int):=aAt u
theorem NI.set{H H':aA}{p:Nat}(h:NI H H' p)(o:eY):NI H (H'.set p o) p:=⟨h.1,fun k h1 h2=>by rw[aA.aC,if_neg h2];exact h.2 k h1 h2⟩
theorem aLm{u v n j d p:Nat}{H:aA}(hg:H.get p=some (.cells (wC (aL 17 u)) false))(hp:p<H.next)(hn:n<=16)(hj:j+n<=16)(hd:d<W)(hv:v<W^n)(hu:u<W^(j+n+1))(ZL:u<W^17):
 ∃o H',(o=.ret (.bool (decide (u<d*v*W^j)))/\NI H H' p/\H'.get p=some (.cells (wC (aL 17 (tkN u v n j d))) false))/\Sg 256 [.ref p 0,.agg (wC (aL 16 v)),.int .i64 n,.int .i64 j,.int .u64 d] H o H':=by
 refine eH fit bCz (Al rfl) ?_;unfold aRt;dsimp only;have la:=iL (.aL v);have hW:W=4294967296:=rfl;have p1:p≠H.next:=by omega
 have ll:∀a k,IntKind.u64.wrap ((aJ a k:Nat):Int)=(aJ a k:Nat):=fun a k=>gR (Cm (cU a k) A1) (.inl rfl);have gw:∀i,i<16->(wC (aL 16 v)).getD i aB=.int .u32 (aJ v i):=fun i h=>fN h;refine bX ?_;refine Ty ?_;refine bY ?_;generalize hX:H.alloc _=HA;have g0:HA.get p=some (.cells (wC (aL 17 u)) false):=by subst hX;simp only[zI,seval,p1];exact hg
 have g1:HA.get H.next=some (.cells (wC (aL 16 v)) false):=by subst hX;simp only[zI,seval]
 have hN:NI H HA p:=by subst hX;exact⟨by simp only[zI,seval];omega,fun k hk _=>by simp only[zI,seval,show k≠H.next by omega]⟩
 clear hX;refine bX ?_;refine Tz ?_;refine bY ?_;refine aT fun K hK=>?_;refine bX ?_;refine Tz ?_;refine bY ?_;refine cC [11,12] (fun i vs H'=>∃(o:List Nat) (c b:Nat),vs=[.int .u64 (c:Nat),.int .u64 (b:Nat)]/\c<W/\b<=1/\LW 17 o/\kr o u (j+i)/\tA o+d*(v%W^i)*W^j=u+(c+b)*W^(j+i)/\H'.get p=some (.cells (wC o) false)/\H'.get H.next=some (.cells (wC (aL 16 v)) false)/\NI H H' p) n A0 A1 ?_ ?_ ?_ ?_ ?_
 . exact zq
 . simp only[↓zP,zG,seval]
 . refine⟨aL 17 u,0,0,by simp only[sm,zB,seval,Int.cast_ofNat_Int],by omega,by omega,aJf u,fun k hk=>?_,?_,g0,g1,hN⟩
   . rw[<-(aJf u).aJ,eD ZL]
   rw[eD ZL];simp[Jc]
 . rintro i f H2 hi hk e1 ⟨o,c,b,nQ,hc,hb,ho,hT,he,g0,g1,hS⟩;simp only[zM] at nQ;obtain⟨h11,h12⟩:=nQ;have k0:f 0=.ref p 0:=by rw[hk 0 rfl];simp only[↓zP,zG,seval]
   have k3:f 3=.int .i64 (j:Nat):=(by rw[hk 3 rfl];simp only[↓zP,zG,seval]);have k4:f 4=.int .u64 (d:Nat):=(by rw[hk 4 rfl];simp only[↓zP,zG,seval]);have k6:f 6=.ref H.next 0:=(by rw[hk 6 rfl];simp only[↓zP,zG,seval]);have vl:=cU v i;have ul:=cU u (j+i);have m1:d*aJ v i<=4294967295*4294967295:=Ba A0 A0;have s1:IntKind.u64.wrap ((d:Int)*((aJ v i:Nat):Int))=((d*aJ v i:Nat):Int):=gR A0 (.inl A2);have s2:IntKind.u64.wrap ((c:Int)+((d*aJ v i:Nat):Int))=((c+d*aJ v i:Nat):Int):=gR A0 (.inl A2);have s3:IntKind.i64.wrap ((j:Int)+(i:Int))=((j+i:Nat):Int):=wI A0;obtain⟨t1,t2,t3⟩:=um ho (show j+i<17 by omega) hb hT he;have hog:(wC o).getD (j+i) aB=.int .u32 (aJ u (j+i):Nat):=(by rw[mZ ZaE,hT _ (Ag _)]);have hol:(wC o).length=17:=(by rw[bW];exact ho.1);generalize hcc:c+d*aJ v i=cc at *;have SH:cc / W<W:=(by rw[hW];omega);have Qj:cc%W<W:=Bz _ oQ;have s4:IntKind.u64.wrap ((cc%W:Nat):Int)=((cc%W:Nat):Int):=gR A0 (.inl rfl);obtain⟨D,d1,d2,d3⟩:=bGh ul (lo:=cc%W) (b:=b) A0 hb;have zY:=(aFd ul (lo:=cc%W) (b:=b) A0).2.2;refine aP ?_;refine bX ?_;simp only[↓zP,zG,seval,e1];refine bY ?_;simp only[↓zP,zJ,seval,h11,h12,k0,k3,k4,k6,g0,g1,aG,la,show i<16 by omega,show i+1<=16 by omega,gw _ (show i<16 by omega),ll,s1,s2,s3,hog,hol,show j+i<17 by omega,show j+i+1<=17 by omega,AA,s4,d1,d2,d3,aYg,aTh];refine⟨_,_,_,rfl,SH,zY,t1,t2,t3,by rw[QX ZaE],by rw[if_neg A0],hS.set _⟩
 rintro f H2 hk ⟨o,c,b,nQ,hc,hb,ho,hT,he,g0,g1,hS⟩;simp only[zM] at nQ;obtain⟨h11,h12⟩:=nQ;have k0:f 0=.ref p 0:=by rw[hk 0 rfl];simp only[↓zP,zG,seval]
 have k2:f 2=.int .i64 (n:Nat):=by rw[hk 2 rfl];simp only[↓zP,zG,seval]
 have k3:f 3=.int .i64 (j:Nat):=by rw[hk 3 rfl];simp only[↓zP,zG,seval]
 have ul:=cU u (j+n);have s3:IntKind.i64.wrap ((j:Int)+(n:Int))=((j+n:Nat):Int):=wI A0;obtain⟨t1,t2,t3⟩:=aFa ho (show j+n<17 by omega) A0 hT hv hu he;have hog:(wC o).getD (j+n) aB=.int .u32 (aJ u (j+n):Nat):=by rw[mZ ZaE,hT _ (Ag _)]
 have hol:(wC o).length=17:=by rw[bW];exact ho.1
 obtain⟨D,d1,d2,d3⟩:=bGh ul (lo:=c) (b:=b) A0 hb;refine Tx ?_;apply hK;clear hK K;simp only[↓zP,zJ,seval,h11,h12,k0,k2,k3,g0,aG,ll,s3,hog,hol,show j+n<17 by omega,show j+n+1<=17 by omega,AA,d1,d2,d3,aYg];refine Rx ?_
 have hq:(((Ug (aJ u (j+n)) c b:Nat):Int)==1)=decide (u<d*v*W^j):=by rw[Di,Dh,Hj,<-t2];omega
 refine⟨by rw[hq];rfl,hS.set _,?_⟩;rw[aA.aC,if_pos rfl,QX ZaE,t1]
theorem aIh{u v n j p:Nat}{H:aA}(hg:H.get p=some (.cells (wC (aL 17 u)) false))(hp:p<H.next)(hn:n<=16)(hj:j+n<=16)(hv:v<W^n)(hu:u<W^(j+n+1))(ZL:u<W^17):
 ∃o H',(o=.ret (pA [])/\NI H H' p/\H'.get p=some (.cells (wC (aL 17 ((u+v*W^j)%W^(j+n+1)))) false))/\Sg 257 [.ref p 0,.agg (wC (aL 16 v)),.int .i64 n,.int .i64 j] H o H':=by
 refine eH fit bDa (Al rfl) ?_;unfold aRu;dsimp only;have la:=iL (.aL v);have hW:W=4294967296:=rfl;have p1:p≠H.next:=by omega
 have ll:∀a k,IntKind.u64.wrap ((aJ a k:Nat):Int)=(aJ a k:Nat):=fun a k=>gR (Cm (cU a k) A1) (.inl rfl);have gw:∀i,i<16->(wC (aL 16 v)).getD i aB=.int .u32 (aJ v i):=fun i h=>fN h;refine bX ?_;refine Ty ?_;refine bY ?_;generalize hX:H.alloc _=HA;have g0:HA.get p=some (.cells (wC (aL 17 u)) false):=by subst hX;simp only[zI,seval,p1];exact hg
 have g1:HA.get H.next=some (.cells (wC (aL 16 v)) false):=by subst hX;simp only[zI,seval]
 have hN:NI H HA p:=by subst hX;exact⟨by simp only[zI,seval];omega,fun k hk _=>by simp only[zI,seval,show k≠H.next by omega]⟩
 clear hX;refine bX ?_;refine Tz ?_;refine bY ?_;refine aT fun K hK=>?_;refine bX ?_;refine Tz ?_;refine bY ?_;refine cC [8] (fun i vs H'=>∃(o:List Nat) (c:Nat),vs=[.int .u64 (c:Nat)]/\c<=1/\LW 17 o/\kr o u (j+i)/\tA o+c*W^(j+i)=u+v%W^i*W^j/\H'.get p=some (.cells (wC o) false)/\H'.get H.next=some (.cells (wC (aL 16 v)) false)/\NI H H' p) n A0 A1 ?_ ?_ ?_ ?_ ?_
 . exact zq
 . simp only[↓zP,zG,seval]
 . refine⟨aL 17 u,0,by simp only[sm,zB,seval,Int.cast_ofNat_Int],by omega,aJf u,fun k hk=>?_,?_,g0,g1,hN⟩
   . rw[<-(aJf u).aJ,eD ZL]
   rw[eD ZL];simp[Jc]
 . rintro i f H2 hi hk e1 ⟨o,c,nQ,hc,ho,hT,he,g0,g1,hS⟩;simp only[zM] at nQ;have k0:f 0=.ref p 0:=by rw[hk 0 rfl];simp only[↓zP,zG,seval]
   have k3:f 3=.int .i64 (j:Nat):=(by rw[hk 3 rfl];simp only[↓zP,zG,seval]);have k5:f 5=.ref H.next 0:=(by rw[hk 5 rfl];simp only[↓zP,zG,seval]);have vl:=cU v i;have ul:=cU u (j+i);have s1:IntKind.u64.wrap (((aJ u (j+i):Nat):Int)+((aJ v i:Nat):Int))=((aJ u (j+i)+aJ v i:Nat):Int):=gR A0 (.inl A2);have s2:IntKind.u64.wrap ((c:Int)+((aJ u (j+i)+aJ v i:Nat):Int))=((aJ u (j+i)+aJ v i+c:Nat):Int):=gR A0 (.inl A0);have s3:IntKind.i64.wrap ((j:Int)+(i:Int))=((j+i:Nat):Int):=wI A0;obtain⟨t1,t2,t3⟩:=oe ho (show j+i<17 by omega) hT he;have hog:(wC o).getD (j+i) aB=.int .u32 (aJ u (j+i):Nat):=(by rw[mZ ZaE,hT _ (Ag _)]);have hol:(wC o).length=17:=(by rw[bW];exact ho.1);generalize hcc:aJ u (j+i)+aJ v i+c=cc at *;have SH:cc / W<=1:=(by rw[hW];omega);refine aP ?_;refine bX ?_;simp only[↓zP,zG,seval,e1];refine gG ?_;refine Dz ?_;simp only[↓zP,zJ,seval,zD,nQ,k0,k3,k5,g0,g1,aG,la,show i<16 by omega,show i+1<=16 by omega,gw _ (show i<16 by omega),ll,s1,s2,s3,hog,hol,show j+i<17 by omega,show j+i+1<=17 by omega];refine bY ?_;simp only[↓zP,zJ,seval,k0,k3,g0,aG,s3,hol,show j+i<17 by omega,show j+i+1<=17 by omega,AA,aTh];refine⟨_,_,rfl,SH,t1,t2,t3,by rw[QX ZaE],by rw[if_neg A0];exact g1,hS.set _⟩
 rintro f H2 hk ⟨o,c,nQ,hc,ho,hT,he,g0,g1,hS⟩;simp only[zM] at nQ;have k0:f 0=.ref p 0:=by rw[hk 0 rfl];simp only[↓zP,zG,seval]
 have k2:f 2=.int .i64 (n:Nat):=by rw[hk 2 rfl];simp only[↓zP,zG,seval]
 have k3:f 3=.int .i64 (j:Nat):=by rw[hk 3 rfl];simp only[↓zP,zG,seval]
 have s3:IntKind.i64.wrap ((j:Int)+(n:Int))=((j+n:Nat):Int):=wI A0;have t1:=aBa ho (show j+n<17 by omega) hT hv hu he;have hog:(wC o).getD (j+n) aB=.int .u32 (aJ u (j+n):Nat):=by rw[mZ ZaE,hT _ (Ag _)]
 have hol:(wC o).length=17:=by rw[bW];exact ho.1
 have s5:IntKind.u32.wrap (((aJ u (j+n):Nat):Int)+((c%W:Nat):Int))=(((aJ u (j+n)+c)%W:Nat):Int):=by rw[show((aJ u (j+n):Nat):Int)+((c%W:Nat):Int)=((aJ u (j+n)+c%W:Nat):Int) by simp,AA,Nat.add_mod_mod]
 refine Tx ?_;apply hK;clear hK K;refine Dz ?_;simp only[↓zP,zJ,seval,zD,nQ,k0,k2,k3,g0,aG,s3,hog,hol,show j+n<17 by omega,show j+n+1<=17 by omega,AA,s5];refine⟨rfl,[],rfl,rfl,hS.set _,?_⟩;rw[aA.aC,if_pos rfl,QX ZaE,t1]
theorem aAm{v d k:Nat}(Ou:0<d):((v / W^(k+1)%d)*W+aJ v k)%d=v / W^k%d/\(d<=W->((v / W^(k+1)%d)*W+aJ v k) / d=aJ (v / d) k):=by
 have e:=mG v k;generalize hA:v / W^(k+1)=A at e;generalize hx:aJ v k=x at e;have hdm:=Eh A d
 have e1:v / W^k=d*(A / d*W)+(A%d*W+x):=by
  rw[e]
  conv=>lhs;rw[<-hdm]
  rw[Bi,Bv,Bh]
 refine⟨by rw[e1,Nat.mul_add_mod],fun hdW=>?_⟩;have pd:x<W:=by rw[<-hx];exact cU v k
 have hr:A%d<d:=Bz _ Ou
 have hq:(A%d*W+x) / d<W:=by rw[Ch Ou];have :(A%d+1)*W<=d*W:=Bq _ hr;rw[Bi] at this;rw[Bx W d];omega
 unfold aJ;rw[Dw,Bx d,<-Dw,e1,Nat.mul_add_div Ou,Bx (A / d),Nat.mul_add_mod,Bn hq]
theorem SK{X k:Nat}(hk:k<16)(hX:X<W^16):(aL 16 (X / W^(k+1)*W^(k+1))).set k (aJ X k)=aL 16 (X / W^k*W^k):=by
 have hz:aJ (X / W^(k+1)*W^(k+1)) k=0:=by unfold aJ;rw[Cw,<-Bv,Nat.mul_right_comm,Nat.mul_div_cancel _ (dR k),Nat.mul_mod_left]
 have hv:X / W^(k+1)*W^(k+1)<W^16:=Ce (Jk _ _) hX;have :=Lq (v:=X / W^(k+1)*W^(k+1)) (X:=aJ X k) hk hv (by rw[hz,Dg];exact cU X k);rw[hz,Dg] at this;rw[this];congr 1;rw[mG X k,Bi,Bv,<-Ke]
theorem ud{v d:Nat}(hv:v<W^16)(Ou:0<d)(hd:d<W)(H:aA):
 Sg 229 [.agg (wC (aL 16 v)),.int .u32 d] H (.ret (.jZ [.agg (wC (aL 16 (v / d))),.int .u32 ((v%d:Nat):Int)])) H:=by
 refine So bCf Zac ?_ H;unfold aQz;dsimp only;have la:=iL (.aL v);have hW:W=4294967296:=rfl;have hX:v / d<W^16:=Ce (Gn _ _) hv;have z0:aL 16 (v / d / W^16*W^16)=zs:=by rw[Dn hX,Hk];decide
 refine Ty ?_;refine TL [6] (fun i vs H'=>vs=[.int .u64 ((v / W^i%d:Nat):Int)]/\H'.get 0=some (.cells (wC (aL 16 v)) false)/\H'.get 1=some (.cells (wC (aL 16 (v / d / W^i*W^i))) false)) 16 A0 A1 ?_ ?_ ?_ ?_ ?_
 . exact zq
 . refine⟨by simp only[sm,zB,seval,Dn hv,Nat.zero_mod,Int.cast_ofNat_Int],by simp only[seval,zI],by simp only[seval,zI,z0]⟩
 . rintro i f H1 hi hk e1 hJ;exact ZaO
 . rintro i f H1 hi hk e1 ⟨nQ,g0,g1⟩;simp only[zM] at nQ;have f1:f 1=.int .u32 d:=by rw[hk 1 rfl];simp only[↓zP,zG,seval]
   have f2:f 2=.ref 0 0:=(by rw[hk 2 rfl];simp only[↓zP,zG,seval]);have f4:f 4=.ref 1 0:=(by rw[hk 4 rfl];simp only[↓zP,zG,seval]);obtain⟨s1,s2⟩:=aAm (v:=v) (k:=i) Ou;have s2:=s2 A0;have Tq:v / W^(i+1)%d<4294967296:=(by have :=Bz (v / W^(i+1)) Ou;omega);have IY:aJ v i<4294967296:=cU v i;have SN:tN .or .u64 (IntKind.u64.wrap (((v / W^(i+1)%d:Nat):Int)*2^min 32 IntKind.u64.bits)) ((aJ v i:Nat):Int)=some (.int .u64 ((v / W^(i+1)%d*4294967296+aJ v i:Nat):Int)):=Zh Tq IY;have lx:=iL (.aL (v / d / W^(i+1)*W^(i+1)));generalize hr:v / W^(i+1)%d=r at *;generalize hx:aJ v i=x at *;have wx:IntKind.u64.wrap (x:Int)=(x:Int):=gR A0 (.inl rfl);have wd:IntKind.u64.wrap (d:Int)=(d:Int):=gR A0 (.inl rfl);refine aP ?_;simp only[↓zP,zJ,seval,e1,nQ,f2,g0,aG,hi,la,fN hi,hx,show i+1<=16 by omega,wx];have hdz:((d:Nat):Int)≠0:=by omega
   have t1:(((r*4294967296+x:Nat):Int)).tdiv (d:Int)=((aJ (v / d) i:Nat):Int):=by rw[<-s2,hW];rfl
   have t2:(((r*4294967296+x:Nat):Int)).tmod (d:Int)=((v / W^i%d:Nat):Int):=by rw[<-s1,hW];rfl
   have hlq:aJ (v / d) i<W:=cU _ _;have wq:IntKind.u64.wrap ((aJ (v / d) i:Nat):Int)=((aJ (v / d) i:Nat):Int):=gR A0 (.inl rfl);have EA:=SK hi hX;simp only[↓zP,zJ,seval,SN,f1,wd,hdz,t1,wq,AA,Bn hlq,f4,hi,g1,lx,show i+1<=16 by omega,t2];refine⟨trivial,g0,?_⟩;have :=tD (l:=aL 16 (v / d / W^(i+1)*W^(i+1))) (i:=i) (by rw[bP];exact hi) (aJ (v / d) i);rw[EA] at this;exact Ao (fun l=>some (eY.cells l false)) this
 rintro f H1 hk ⟨nQ,g0,g1⟩;simp only[zM] at nQ;have f4:f 4=.ref 1 0:=by rw[hk 4 rfl];simp only[↓zP,zG,seval]
 have lx:=iL (.aL (v / d));have hvd:v%d<W:=Cm (Bz _ Ou) hd;rw[Hl,Im,Dc] at g1;rw[Hl,Im] at nQ;simp only[↓zP,zJ,seval,nQ,f4,g1,lx,AA,Bn hvd];refine⟨rfl,_,by simp only[↓zP,zR,seval,lx,f4];rfl,?_⟩;rfl
theorem aEp{b:Nat}(hb:b<W^16)(h0:sz b≠0):0<dG (aJ b (sz b -1))/\dG (aJ b (sz b -1))<=32/\b*2^(32 -dG (aJ b (sz b -1)))<W^sz b/\W^(sz b -1)<=b*2^(32 -dG (aJ b (sz b -1))):=by
 have h1:=jr h0;have h2:=KH hb;have e:sz b -1+1=sz b:=by omega
 have hl:aJ b (sz b -1)=b / W^(sz b -1):=xH (by rw[e];exact h2);have hp:0<aJ b (sz b -1):=by rw[hl];exact Kc h1 (dR _)
 have k1:¬dG (aJ b (sz b -1))<=0:=fun h=>by have :=iR.1 h;simp at this;omega
 have k2:dG (aJ b (sz b -1))<=32:=iR.2 (cU _ _);have k3:aJ b (sz b -1)<2^dG (aJ b (sz b -1)):=iR.1 (Ag _);refine⟨by omega,k2,?_,By h1 (Nat.le_mul_of_pos_right _ (Gp A1))⟩;rw[hl] at k3;rw[Ch (dR _),hl.symm] at k3;generalize dG (aJ b (sz b -1))=t at *;have h4:=Nat.mul_lt_mul_of_pos_right k3 (Gp (n:=32 -t) (show 0<2 by decide))
 have e2:2^t*W^(sz b -1)*2^(32 -t)=W^sz b:=by rw[Nat.mul_right_comm,<-aMb t k2,<-Ke,Nat.succ_eq_add_one,e]
 rwa [e2] at h4
theorem xr{P:Program}{g:bF}{n:Nat}{pairs:List (Nat×Nat)}{base i k:Nat}{rs:List aZ}{rd:List (Nat×Nat)}{ef:List (Nat×aA×aA)}{f:cW}{H H':aA}{R:cW->aA->Prop}{d sz:Nat}{x y:Arg}{v:AV}(hd:d<n)(hc:dE (nN g f) H (.copy sz x y)=some (v,H'))(hn:H.next<=H'.next)(hr:∀x∈rd,(x.1,i)∈pairs->H.get x.2=H'.get x.2)
 (h:eX P g n pairs base (i+1) k rs rd ((i,H,H')::ef) (iZ f d v) H' R):eX P g n pairs base i k (⟨some d,.copy sz x y,none⟩::rs) rd ef f H R:=by
 have :fM n f (some d) v=iZ f d v:=by simp[fM,hd]
 unfold eX;rw[if_pos (by rfl)];simp only[dY.fresh,dY.pJ,Au,Ca,if_true,this,hc,bQ];exact⟨hn,hr,h⟩
theorem Mv{a b:Nat}(ha:a<W^16)(hb:b<W^16)(Qg:0<b)(H:aA):
 Sg 198 [.agg (wC (aL 16 a)),.agg (wC (aL 16 b))] H (.ret (.jZ [.agg (wC (aL 16 (a / b))),.agg (wC (aL 16 (a%b)))])) H:=by
 refine So bBl Zac ?_ H;unfold aQf;dsimp only;have la:=iL (.aL a);have lb:=iL (.aL b);have hW:W=4294967296:=rfl;refine bX ?_;refine Ty ?_;refine bY ?_;generalize hX:(((aA.alloc _ _).alloc _).alloc _).alloc _=HA;have g0:HA.get 0=some (.cells (wC (aL 16 a)) false):=by subst hX;simp only[zI,seval]
 have g1:HA.get 1=some (.cells (wC (aL 16 b)) false):=by subst hX;simp only[zI,seval]
 have g2:HA.get 2=some (.cells (wC zs) false):=by subst hX;simp only[zI,seval]
 have g3:HA.get 3=some (.cells (wC zs) false):=by subst hX;simp only[zI,seval]
 have gn:HA.next=4:=by subst hX;rfl
 clear hX;refine bX ?_;refine Dz ?_;simp only[↓zP,zJ,seval,zD,g1,lb];refine dM (sW b _) ?_;simp only[↓zP,zJ,seval,zD,g0,la];refine dM (sW a _) ?_;simp only[↓zP,zJ,seval,zD];refine bY ?_;refine cY fun f hf=>?_;have f2:f 2=.ref 0 0:=by subst hf;simp only[zB,seval]
 have f3:f 3=.ref 1 0:=by subst hf;simp only[zB,seval]
 have f4:f 4=.ref 2 0:=by subst hf;simp only[zB,seval]
 have f5:f 5=.ref 3 0:=by subst hf;simp only[zB,seval]
 have f6:f 6=.int .i64 (sz b:Nat):=by subst hf;simp only[zB,seval]
 have f7:f 7=.int .i64 (sz a:Nat):=by subst hf;simp only[zB,seval]
 clear hf;refine bX ?_;simp only[↓zP,zJ,seval,f2,f3,g0,g1,la,lb];refine bO (JS ha hb _) ?_;refine Tz ?_;refine⟨fun h=>?_,fun h=>?_⟩
 . have dT:a<b:=by unfold FN at h;split at h<;>(try split at h)<;>omega
   refine Dz ?_;simp only[↓zP,zJ,seval,zD,f2,f4,f5,g0,g2,g3,la];refine⟨rfl,_,by simp only[↓zP,zR,seval,f4,f5,la,iz];rfl,?_⟩;rw[Dn dT,Bn dT,tT];rfl
 have hle:b<=a:=by unfold FN at h;split at h<;>(try split at h)<;>omega
 refine bY ?_;refine cY fun f' hf=>?_;have k2:=Ks hf f2;have k3:=Ks hf f3;have k4:=Ks hf f4;have k5:=Ks hf f5;have k6:=Ks hf f6;have k7:=Ks hf f7;clear hf f2 f3 f4 f5 f6 f7 f h;have hbz:sz b≠0:=fun h=>by have :=(jt hb).1 h;omega
 have o7:1<=sz b:=by omega
 have bLx:=XL b;have bLw:=XL a;refine bX ?_;by_cases h1:sz b=1
 . have c1:(((sz b:Nat):Int)==1)=true:=by simp[h1]
   have hbW:b<W:=(by have :=KH hb;rw[h1,Nat.pow_one] at this;exact this);have KN:aJ b 0=b:=(by unfold aJ;rw[Hl,Im,Bn hbW]);have hrW:a%b<W:=Cm (Bz _ Qg) hbW;have lq:=iL (.aL (a / b));have lr:=iL (.aL (a%b));have gb:(wC (aL 16 b)).getD 0 aB=.int .u32 (b:Nat):=(by rw[fN A1,KN]);simp only[↓zP,zJ,seval,k6,c1,k2,k3,g0,g1,la,lb,pZ,gb];refine bO (ud ha Qg hbW _) ?_
   have hw:AV.int .u32 ((a%b:Nat):Int)::(wC zs).drop 1=wC (aL 16 (a%b)):=by have hk:∀k,1<=k->aJ (a%b) k=0:=fun k hk=>xG (m:=1) (by rw[Nat.pow_one];exact hrW) hk;have h0:aJ (a%b) 0=a%b:=(by unfold aJ;rw[Hl,Im,Bn hrW]);simp[wC,zs,aL,List.range,List.range.loop,hk,h0,List.replicate]
   simp only[↓zP,zJ,seval,k4,k5,g2,g3,gn,lq,lr,hw];refine⟨rfl,_,by simp only[↓zP,zR,seval,k4,k5,lq,lr];rfl,?_⟩;rfl
 have c1:(((sz b:Nat):Int)==1)=false:=by simp;omega
 simp only[↓zP,zG,seval,k6,c1];refine bY ?_;obtain⟨q1,q2,q3,q4⟩:=aEp hb hbz;have hmn:sz b<=sz a:=(MI hb).2 (Ce hle (KH ha));have hal:=KH ha;have hbg:=jr hbz;have gw:∀i,i<16->(wC (aL 16 b)).getD i aB=.int .u32 (aJ b i):=fun i h=>fN h;have w1:IntKind.i64.wrap (((sz b:Nat):Int) -1)=((sz b -1:Nat):Int):=wI A0;have w2:IntKind.i64.wrap (((sz a:Nat):Int) -((sz b:Nat):Int))=((sz a -sz b:Nat):Int):=wI A0;refine bX ?_;simp only[↓zP,zJ,seval,k6,w1,k3,g1,aG,lb,show sz b -1<16 by omega,show sz b -1+1<=16 by omega,gw _ (show sz b -1<16 by omega)];refine bO (aXs (cU b (sz b -1)) _) ?_;refine Tz ?_;refine bY ?_;generalize hn:sz b=n at *;generalize hm:sz a=m at *;generalize hs:32 -dG (aJ b (n -1))=s at *;have aIu:s<32:=by omega
 have bJi:b*2^s<W^16:=Bj q3 (Ck oQ A0);refine bX ?_;simp only[↓zP,zJ,seval,k3,g1,lb];refine bO (aOf hb aIu _) ?_;have lv:=iL (.aL (b*2^s));simp only[↓zP,zJ,seval,gn,lv];refine gG ?_;simp only[↓zP,zJ,seval,k2,g0,la,gn];refine bO (aOf ha aIu _) ?_;have lw:=iL (.aL (a*2^s));simp only[↓zP,zJ,seval,gn,lw];refine gG ?_;simp only[↓zP,zJ,seval,gn];refine bY ?_;generalize hX:aA.alloc _ _=HB;have g2:HB.get 2=some (.cells (wC zs) false):=by subst hX;simp only[zI,seval,gn,g2]
 have g3:HB.get 3=some (.cells (wC zs) false):=by subst hX;simp only[zI,seval,gn,g3]
 have g4:HB.get 4=some (.cells (wC (aL 16 (b*2^s))) false):=by subst hX;simp only[zI,seval,gn]
 have g5:HB.get 5=some (.cells (wC (aL 16 (a*2^s))) false):=by subst hX;simp only[zI,seval,gn]
 have g6:HB.get 6=some (.cells (AV.int .u32 0::wC zs) false):=by subst hX;simp only[zI,seval,gn]
 have gN:HB.next=7:=by subst hX;simp only[zI,seval,gn]
 clear hX g0 g1 gn;refine cY fun f hf=>?_;have f4:=Ks hf k4;have f5:=Ks hf k5;have f6:=Ks hf k6;have f7:=Ks hf k7;have f10:f 10=.int .i64 (s:Nat):=by subst hf;simp only[zB,seval]
 have f11:f 11=.ref 4 0:=by subst hf;simp only[zB,seval]
 have f13:f 13=.ref 5 0:=by subst hf;simp only[zB,seval]
 have f14:f 14=.int .u32 ((a*2^s / W^16:Nat):Int):=by subst hf;simp only[zB,seval]
 have f15:f 15=.ref 6 0:=by subst hf;simp only[zB,seval]
 clear hf k2 k3 k4 k5 k6 k7 f';refine bX ?_;refine Dz ?_;have sa6:iT HB 17 1 (.ref 6 0) none none none=some (.sl 6 1 0 17 17):=by simp[iT,aA.eG,g6,iz.1]
 have sa5:iT HB 16 1 (.ref 5 0) none none none=some (.sl 5 1 0 16 16):=by simp[iT,aA.eG,g5,lw.1]
 have el5:dI HB 1 (.sl 5 1 0 16 16)=some (fK 1 16 (wC (aL 16 (a*2^s)))):=by simp[dI,aA.eG,g5,lw.1]
 obtain⟨ch1,ch2,-⟩:=kQ 1 16 (wC (aL 16 (a*2^s))) (by rw[lw.1];decide);rw[Bb (by rw[lw.1];decide)] at ch1
 have ch3:wC (aL 16 (a*2^s))++List.drop (wC (aL 16 (a*2^s))).length (AV.int .u32 0::wC zs)=wC (aL 16 (a*2^s)++[0]):=by rw[lw.1];simp[wC,zs]
 generalize fK 1 16 (wC (aL 16 (a*2^s)))=ch at *;simp only[↓zP,zJ,seval,zD,dV,f13,f15,sa5,sa6]
 have cp:dE (nN gv (iZ (iZ f 57 (.sl 6 1 0 17 17)) 58 (.sl 5 1 0 16 16))) HB (.copy 1 (.tmp 57) (.tmp 58))=some (.int .i64 16,HB.set 6 (.cells (wC (aL 16 (a*2^s)++[0])) false)):=by
  have e1:(ch.take 16).flatten=wC (aL 16 (a*2^s)):=by rw[Bb A0,ch1]
  simp only[↓zP,zJ,seval,dE,el5,ch2,g6];simp[e1,ch3]
 refine xr A1 cp (Ag _) A2 ?_;simp only[seval,zD];refine bY ?_
 have aYo:a*2^s<W^17:=by have :=Hb ha (Nat.pow_lt_pow_right (show 1<2 by decide) aIu);exact Bj this A1
 have hAt:a*2^s / W^16=aJ (a*2^s) 16:=(xH aYo).symm
 have h17:((wC (aL 16 (a*2^s)++[0])).take 16++[AV.int .u32 ((a*2^s / W^16:Nat):Int)]++(wC (aL 16 (a*2^s)++[0])).drop 17)=wC (aL 17 (a*2^s)):=by rw[hAt];unfold wC;simp[aL,Ei]
 have bGq:(wC (aL 16 (a*2^s)++[0])).length=17:=by simp[bW,bP]
 refine bX ?_;simp only[↓zP,zJ,seval,f14,f15,bGq,h17,asNat];refine bY ?_;generalize hX:aA.set _ 6 _=HC
 replace g2:HC.get 2=some (.cells (wC zs) false):=by subst hX;simp only[zI,seval,g2]
 replace g3:HC.get 3=some (.cells (wC zs) false):=by subst hX;simp only[zI,seval,g3]
 replace g4:HC.get 4=some (.cells (wC (aL 16 (b*2^s))) false):=by subst hX;simp only[zI,seval,g4]
 replace g6:HC.get 6=some (.cells (wC (aL 17 (a*2^s))) false):=by subst hX;simp only[zI,seval]
 replace gN:6<HC.next:=by subst hX;simp only[zI,seval,gN]
 clear hX sa5 sa6 el5 cp g5 HB;have hA:=ry (s:=s) hal hmn hbg o7;have eQ:a*2^s / (b*2^s)=a / b:=Nat.mul_div_mul_right _ _ (Gp A1);have eR:a*2^s%(b*2^s) / 2^s=a%b:=by rw[Nat.mul_mod_mul_right,Nat.mul_div_cancel _ (Gp A1)]
 generalize hAA:a*2^s=A at *;generalize hV:b*2^s=v at *;have hvp:0<v:=Bj (dR _) q4;have bGt:A / v<W^16:=by rw[eQ];exact Ce (Gn _ _) ha
 have hQl:A / v<W^(m -n+1):=by rw[Ch hvp,Bx];exact hA
 refine aT fun K hK=>?_;refine bX ?_;simp only[↓zP,zG,seval,f6,f7,w2];refine bY ?_;refine TL [] (fun i _ H'=>H'.get 2=some (.cells (wC (aL 16 (A / v / W^i*W^i))) false)/\H'.get 3=some (.cells (wC zs) false)/\H'.get 4=some (.cells (wC (aL 16 v)) false)/\H'.get 6=some (.cells (wC (aL 17 (A%(v*W^i)))) false)/\6<H'.next) (m -n+1) A0 A1 ?_ ?_ ?_ ?_ ?_
 . simp only[zB,seval];exact Ao (AV.int .i64) A0
 . rw[Dn hQl,Hk,tT,Bn hA];exact⟨g2,g3,g4,g6,gN⟩
 . rintro i f2 H1 hi hk e1 hJ;exact ZaO
 . rintro j f2 H1 hj hk e1 ⟨g2,g3,g4,g6,gN⟩;have k4:f2 4=.ref 2 0:=by rw[hk 4 rfl];simp only[zB,seval];exact f4
   have k6:f2 6=.int .i64 (n:Nat):=(by rw[hk 6 rfl];simp only[zB,seval];exact f6);have k11:f2 11=.ref 4 0:=(by rw[hk 11 rfl];simp only[zB,seval];exact f11);have k15:f2 15=.ref 6 0:=(by rw[hk 15 rfl];simp only[zB,seval];exact f15);have hu:A%(v*W^(j+1))<v*W^(j+1):=Bz _ (Il hvp (dR _));obtain⟨_,_,r3,r4,r5⟩:=aYn A0 q3 q4 hu;obtain⟨st1,st2⟩:=aDu (A:=A) (j:=j) A0 q3 q4;have ZL:A%(v*W^(j+1))<W^17:=Ce (Nat.mod_le _ _) aYo;generalize hU:A%(v*W^(j+1))=u at *;obtain⟨_,H2,⟨rfl,n2,s2⟩,hg⟩:=aBe (v:=v) g6 gN A0 A0 (show j+n<=16 by omega) r3 r4;have gN2:6<H2.next:=A0;have d2:=(s2 2 A0).trans g2;have d3:=(s2 3 A0).trans g3;have d4:=(s2 4 A0).trans g4;have d6:=(s2 6 A0).trans g6;have hgW:gsU u v n j<W:=Ce (Jh _ _) A1;change (gsU u v n j*v*W^j<=u->_) at st1;rw[<-k15] at hg;refine aP ?_;refine bX ?_;simp only[↓zP,zJ,seval,e1,k6,k11,g4,lv];refine bO (hg) ?_;refine Tz ?_;refine bY ?_;have hq:gsD (aJ u (j+n)) (aJ u (j+n -1)) (aJ u (j+n -2)) (aJ v (n -1)) (aJ v (n -2))=gsU u v n j:=rfl;rw[hq] at st1 st2;generalize hD:gsU u v n j=d at *;clear hq hg;obtain⟨_,H3,⟨rfl,⟨n3,s3⟩,e6⟩,ht⟩:=aLm (d:=d) (v:=v) d6 gN2 A0 (show j+n<=16 by omega) hgW q3 r5 ZL;have gN3:6<H3.next:=A0;have e2:=(s3 2 A0 A0).trans d2;have e3:=(s3 3 A0 A0).trans d3;have e4:=(s3 4 A0 A0).trans d4;rw[<-k15] at ht;refine aT fun K2 dL=>?_
   have fin:∀(f3:cW) (H4:aA) (d':Nat),d'=aJ (A / v) j->f3 4=.ref 2 0->f3 16=.int .i64 (j:Nat)->f3 17=.int .u64 (d':Nat)->H4.get 2=some (.cells (wC (aL 16 (A / v / W^(j+1)*W^(j+1)))) false)->H4.get 3=some (.cells (wC zs) false)->H4.get 4=some (.cells (wC (aL 16 v)) false)->H4.get 6=some (.cells (wC (aL 17 (A%(v*W^j)))) false)->6<H4.next->K2 f3 [] H4:=by
    rintro f3 H4 d' rfl x4 x16 x17 y2 y3 y4 y6 yn;apply dL;clear dL K2 hK;have Yy:=cU (A / v) j;have lx:=iL (.aL (A / v / W^(j+1)*W^(j+1)));have EA:=SK (show j<16 by omega) bGt
    have Uu:(wC (aL 16 (A / v / W^(j+1)*W^(j+1)))).take j++[AV.int .u32 ((aJ (A / v) j:Nat):Int)]++(wC (aL 16 (A / v / W^(j+1)*W^(j+1)))).drop (j+1)=wC (aL 16 (A / v / W^j*W^j)):=by rw[QX (by rw[bP];omega),EA]
    simp only[↓zP,zJ,seval,x4,x16,x17,AA,Bn Yy,aG,show j<16 by omega,show j+1<=16 by omega,y2,lx,Uu,y3,y4,y6];exact⟨trivial,trivial,trivial,trivial,yn⟩
   refine aT fun K3 BH=>?_;simp only[↓zP,zJ,seval,e1,k6,k11,d4,lv];refine bO (ht) ?_;refine Tx ?_;apply BH;clear BH K3 dL;by_cases dT:u<d*v*W^j
   . obtain⟨z1,z2,z3⟩:=st2 dT;rw[Aj dT];have hN1:tkN u v n j d=u+W^(j+n+1) -d*v*W^j:=by unfold tkN;rw[if_neg A0]
     have hu1:tkN u v n j d<W^(j+n+1):=by rw[hN1];have :=dR (j+n+1);omega
     have hu2:tkN u v n j d<W^17:=Bj hu1 (Ck oQ A0);obtain⟨_,H4,⟨rfl,⟨n4,s4⟩,y6⟩,hv⟩:=aIh (v:=v) e6 gN3 A0 (show j+n<=16 by omega) q3 hu1 hu2;rw[hN1,z1] at y6;rw[<-k15] at hv;have s1:IntKind.u64.wrap ((d:Int) -1)=((d -1:Nat):Int):=gR A0 (.inl A0);simp only[↓zP,zJ,seval,s1,e1,k6,k11,e4,lv];refine bO (hv) ?_;refine Tx ?_;refine fin _ H4 (d -1) z3 ?_ ?_ ?_ ((s4 2 A0 A0).trans e2) ((s4 3 A0 A0).trans e3) ((s4 4 A0 A0).trans e4) y6 (by omega)<;>simp only[zB,seval,k4,e1]
   obtain⟨z1,z2⟩:=st1 A0;have hN1:tkN u v n j d=u -d*v*W^j:=(by unfold tkN;rw[if_pos A0]);rw[hN1,z1] at e6;rw[Ad dT];refine Tz ?_;refine fin _ H3 d z2 ?_ ?_ ?_ e2 e3 e4 e6 (by omega)<;>simp only[zB,seval,k4,e1]
 rintro f2 H1 hk ⟨g2,g3,g4,g6,gN⟩;have k4:f2 4=.ref 2 0:=by rw[hk 4 rfl];simp only[zB,seval];exact f4
 have k5:f2 5=.ref 3 0:=by rw[hk 5 rfl];simp only[zB,seval];exact f5
 have k10:f2 10=.int .i64 (s:Nat):=by rw[hk 10 rfl];simp only[zB,seval];exact f10
 have k15:f2 15=.ref 6 0:=by rw[hk 15 rfl];simp only[zB,seval];exact f15
 rw[Hl,Im,Dc] at g2;rw[Hl,Dc] at g6;have hR:A%v<W^16:=Cm (Bz _ hvp) bJi;have lR:=iL (.aL (A%v));have lq:=iL (.aL (A / v));have ld:=iL (.aL (a%b));refine Tx ?_;apply hK;clear hK K;refine bX ?_;have sa:iT H1 17 1 (.ref 6 0) none (some 16) none=some (.sl 6 1 0 16 17):=by simp[iT,aA.eG,g6,aWf]
 have dn:=aHw hR aIu;rw[eR] at dn;rw[eQ] at g2 lq
 have t16:(wC (aL 17 (A%v))).take 16=wC (aL 16 (A%v)):=by unfold wC;rw[<-List.map_take,PQ A1]
 refine Dz ?_;simp only[↓zP,zJ,seval,zD,dV,asNat,k4,k10,k15,g2,g6,lq,sa,aWf,t16];refine dM (dn _) ?_;simp only[↓zP,zJ,seval,zD,k4,k5,g2,g3,lq,ld];refine bY ?_;refine Tx ?_;refine⟨rfl,_,by simp only[↓zP,zR,seval,k4,k5,lq,ld];rfl,?_⟩;rfl
def aTd:AV->Option Nat
 |.int .u32 n=>match Nat.blt n.natAbs W&&decide ((n.natAbs:Int)=n) with
  |true=>some n.natAbs
  |false=>none
 |_=>none
theorem aHs{x:AV}{a:Nat}(h:aTd x=some a):x=.int .u32 (a:Nat)/\a<W:=by
 unfold aTd at h;split at h
 . split at h
   . rename_i n hc;cases h;simp only[Ak,Bf] at hc;exact⟨by rw[hc.2],by simpa using hc.1⟩
   cases h
 cases h
def aHr:List AV->Option (List Nat)
 |[]=>some []
 |x::r=>match aTd x,aHr r with
  |some a,some l=>some (a::l)
  |_,_=>none
theorem dm:∀{v:List AV} {l:List Nat},aHr v=some l->v=wC l/\∀d∈l,d<W
 |[],l,h=>by cases h;exact⟨rfl,fun d hd=>by cases hd⟩
 |x::r,l,h=>by
  simp only[aHr] at h;split at h
  . rename_i a l' ha nB;cases h;obtain⟨h1,h2⟩:=dm nB;obtain⟨h3,h4⟩:=aHs ha;refine⟨by rw[h1,h3];rfl,fun d hd=>?_⟩
    rcases Am.1 hd with rfl|hd
    . exact h4
    exact h2 d hd
  cases h
def Ob:List AV->Option (Option Int)
 |.bool b::.bool n::r=>match aHr r with
  |some l=>match Nat.beq l.length 16 with
   |true=>some (RX b n l)
   |false=>none
  |none=>none
 |_=>none
theorem sL{v:List AV}{x:Option Int}(h:Ob v=some x):dS v x:=by
 unfold Ob at h;split at h
 . rename_i b n r;split at h
   . rename_i l hl;split at h
     . rename_i hc;cases h;obtain⟨h1,h2⟩:=dm hl;exact⟨b,n,l,⟨Bd hc,h2⟩,by rw[h1],rfl⟩
     cases h
   cases h
 cases h
def qy(g:Option Int->AV):List AV->Option AV
 |[.agg a]=>match Ob a with
  |some x=>some (g x)
  |none=>none
 |_=>none
def qz(g:Option Int->Option Int->AV):List AV->Option AV
 |[.agg a,.agg b]=>match Ob a,Ob b with
  |some x,some y=>some (g x y)
  |_,_=>none
 |_=>none
theorem No{g:Option Int->AV}{f:FuncId}(hS:∀a x,dS a x->∀H,Sg f [.agg a] H (.ret (g x)) H){args:List AV}{v:AV}(h:qy g args=some v)(H:aA):Sg f args H (.ret v) H:=by
 unfold qy at h;split at h
 . rename_i a;split at h
   . rename_i x hx;cases h;exact hS a x (sL hx) H
   cases h
 cases h
theorem Np{g:Option Int->Option Int->AV}{f:FuncId}(hS:∀a b x y,dS a x->dS b y->∀H,Sg f [.agg a,.agg b] H (.ret (g x y)) H){args:List AV}{v:AV}(h:qz g args=some v)(H:aA):Sg f args H (.ret v) H:=by
 unfold qz at h;split at h
 . rename_i a b;split at h
   . rename_i x y hx hy;cases h;exact hS a b x y (sL hx) (sL hy) H
   cases h
 cases h
def aDl:List AV->Option AV
 |[.int .i64 z]=>match decide (-2^63<=z)&&decide (z<2^63) with
  |true=>some (.agg (cI z))
  |false=>none
 |_=>none
theorem aDm{args:List AV}{v:AV}(h:aDl args=some v)(H:aA):Sg 51 args H (.ret v) H:=by
 unfold aDl at h;split at h
 . rename_i z;split at h
   . rename_i hc;cases h;simp only[Ak,Bf] at hc;exact tJ hc.1 hc.2 H
   cases h
 cases h
def aWw(f:FuncId)(args:List AV):Option AV:=
 match Nat.beq f 51 with
 |true=>aDl args
 |false=>match Nat.beq f 57 with
 |true=>qz (fun x y=>.agg (cO (vJ x y))) args
 |false=>match Nat.beq f 158 with
 |true=>qz (fun x y=>.agg (cO (vJ x (NR y)))) args
 |false=>match Nat.beq f 114 with
 |true=>qz (fun x y=>.agg (cO (lO x y))) args
 |false=>match Nat.beq f 165 with
 |true=>qy (fun x=>.agg (cO (NR x))) args
 |false=>match Nat.beq f 199 with
 |true=>qy (fun x=>.agg (cO (aSv x))) args
 |false=>match Nat.beq f 110 with
 |true=>qy (fun x=>.int .i64 (fV x)) args
 |false=>match Nat.beq f 95 with
 |true=>qz (fun x y=>.int .i64 (kW x y)) args
 |false=>match Nat.beq f 156 with
 |true=>qy (fun x=>.jZ [.int .i64 (eT x).1,.bool (eT x).2]) args
 |false=>none
theorem aKi{f:FuncId}{args:List AV}{v:AV}(h:aWw f args=some v)(H:aA):Sg f args H (.ret v) H:=by
 unfold aWw at h;split at h
 . rename_i hf;obtain rfl:=Bd hf;exact aDm h H
 split at h
 . rename_i hf;obtain rfl:=Bd hf;exact Np (fun a b x y ha hb H=>KQ ha hb H) h H
 split at h
 . rename_i hf;obtain rfl:=Bd hf;exact Np (fun a b x y ha hb H=>YG ha hb H) h H
 split at h
 . rename_i hf;obtain rfl:=Bd hf;exact Np (fun a b x y ha hb H=>tI ha hb H) h H
 split at h
 . rename_i hf;obtain rfl:=Bd hf;exact No (fun a x ha H=>TR ha H) h H
 split at h
 . rename_i hf;obtain rfl:=Bd hf;exact No (fun a x ha H=>xg ha H) h H
 split at h
 . rename_i hf;obtain rfl:=Bd hf;exact No (fun a x ha H=>qR ha H) h H
 split at h
 . rename_i hf;obtain rfl:=Bd hf;exact Np (fun a b x y ha hb H=>FB ha hb H) h H
 split at h
 . rename_i hf;obtain rfl:=Bd hf;exact No (fun a x ha H=>wJ ha H) h H
 cases h
end Go.Proofs.YtogfcjbgeebfkaaGreatDoor
