/-
  Part of the proof of statement 13
-/
import Derived.Test.YtogfcjbgeebfkaaGreatDoorB23
import Derived.Test.YtogfcjbgeebfkaaGreatDoorB19
import Derived.Test.YtogfcjbgeebfkaaGreatDoorB07
import Derived.Test.YtogfcjbgeebfkaaGreatDoorB17
set_option linter.unusedVariables false
set_option maxRecDepth 100000
set_option linter.unusedSimpArgs false
set_option maxHeartbeats 16000000
namespace Go.Proofs.YtogfcjbgeebfkaaGreatDoor
open Go Go.Av Go.aH
variable{l:List aH.V}{S:List (aH.V×Int)}{L:aH.V×Int->List Nat}
theorem rz(w:wB l S L)(Q:l.length<=64):∀q∈S,(L q).length<=64:=fun q D=>by obtain⟨s,r,m,e,W,h⟩:=(w.po q D).ex;rw[h,Ah,Bt];have O:=W.le;have Z:=Da (fun k=>decide (aH.dot q.1 (l.getD k V0)=q.2)) (List.range l.length);rw[Bt] at Z;have B:(iF (fun i=>l.getD i V0) l.length q.1 q.2).length<=l.length:=Z;omega
theorem aMn:∀T:List (aH.V×Int),(∀q∈T,(L q).length<=64)->(JW T L).length<=T.length*64:=fun T=>by
 induction T with
 |nil=>simp[JW]
 |cons q T K=>intro h;have O:=K fun x C=>h x (Ax _ C);have Z:=h q Ay;have B:=nT (fun i=>if(L q).getD i 0<(L q).getD ((i+1)%(L q).length) 0 then [((((L q).getD i 0:Nat):Int),(((L q).getD ((i+1)%(L q).length) 0:Nat):Int))] else []) 1 (fun i=>by split<;>simp) (List.range (L q).length);rw[Bt,Df] at B;have h4:(ZD (L q) (L q).length).length<=(L q).length:=B;simp only[JW,El,Aq,As,Bn,Fh] at O ⊢;omega
theorem AY(w:wB l S L){x:Int×Int}:
 x∈JW S L↔∃q∈S,∃a b:Nat,aH.Next (L q) a b/\a<b/\x=pN (a,b):=by
 simp only[JW,Ec];constructor
 . rintro⟨q,D,C⟩;simp only[ZD,Ec,Bb] at C;obtain⟨i,F,C⟩:=C;split at C
   . rename_i h;rw[Ca] at C;refine⟨q,D,(L q).getD i 0,(L q).getD ((i+1)%(L q).length) 0,⟨i,F,?_,?_⟩,h,C⟩
     all_goals grind
   grind
 rintro⟨q,D,a,b,⟨i,F,O,Z⟩,j,rfl⟩;refine⟨q,D,?_⟩;simp only[ZD,Ec,Bb];refine⟨i,F,?_⟩;have T:(L q).getD i 0=a:=by grind
 have o:(L q).getD ((i+1)%(L q).length) 0=b:=by grind
 simp_all[T,o,if_pos,j,pN]
theorem Pq(U:l.Pairwise jC){S:List (aH.V×Int)}{L:aH.V×Int->List Nat}(w:wB l S L)(p:S≠[]):JW S L≠[]:=by
 obtain⟨q,r,rfl⟩:=Ef p;have D:=Ay (a:=q) (l:=r);have u:=(w.fl.mem q).1 D;have o:=w.po q D
 have Q:0<(L q).length:=by obtain⟨s,n,m,e,W,h⟩:=o.ex;rw[h];simpa using W.pos
 have c:(0+1)%(L q).length<(L q).length:=Bz _ Q;have y:aH.Next (L q) (L q)[0] (L q)[(0+1)%(L q).length]:=⟨0,Q,Ai Q,Ai c⟩;generalize (L q)[0]=a at *;generalize (L q)[(0+1)%(L q).length]=b at *;have i:=o.lQ.1 y;have j:b≠a:=i.2.2.1
 rcases Ep a b with h|h
 . have :pN (a,b)∈JW (q::r) L:=(AY w).2 ⟨q,D,a,b,y,h,rfl⟩
   grind
 obtain⟨f,d',g,v,x,k⟩:=o.back (CS U) u y;have t:=(w.fl.mem (f,d')).2 v;have d:=x.uniq (w.po _ t);rw[d] at k;have :pN (b,a)∈JW (q::r) L:=(AY w).2 ⟨(f,d'),t,b,a,k,by omega,rfl⟩
 grind
theorem TT{tag:Nat}(W:Nat.blt tag 2=true){l:List aH.V}(G:qC l=0):∃U:List aH.V,U.length<=2^20/\(∀v,v∈U↔IsE l v)/\(∀v∈U,bT (2^19) v)/\
 (∀H,Sg 182 [.agg [.bK tag 3 (bU l)]] H (.ret (.bK (H.next+2) 5 ((gG l).map (cX (iX l))))) (H.alloc .tok))/\
 ∀H,Sg 183 [.agg [.bK tag 3 (bU l)]] H (.ret (.bK 0 3 (bU U))) H:=by
 obtain⟨M,_,s,X,Q,n,A⟩:=rM G;have u:=mI M;obtain⟨E,p1,p2,P⟩:=aBn W A (Ad _) Q u s X;have i:∀x∈E,∃q∈gG l,∃a b:Nat,aH.Next (iX l q) a b/\a<b/\x=pN (a,b):=fun x C=>(AY u).1 (p1.mem_iff.1 C)
 have f:E=(E.map fun x=>(x.1.toNat,x.2.toNat)).map pN:=by rw[Ea];refine(Gn E).symm.trans (Dk fun x C=>?_);obtain⟨q,D,a,b,_,_,rfl⟩:=i x C;simp[pN]
 have I:E.length<=2^20:=by rw[p1.length_eq];have :=aMn (L:=iX l) (gG l) (rz u Q);have :(gG l).length*64<=64*64:=Az X (Ad _);omega
 have o:E≠[]:=fun h=>Pq M u s (by rw[h] at p1;exact List.Perm.eq_nil p1.symm);generalize c:(E.map fun x=>(x.1.toNat,x.2.toNat))=w at *
 have F:∀p:Nat×Nat,p∈w↔∃q∈gG l,aH.Next (iX l q) p.1 p.2/\p.1<p.2:=fun p=>by
  rw[<-c,Be];constructor
  . rintro⟨x,C,rfl⟩;obtain⟨q,D,a,b,O,Z,rfl⟩:=i x C;exact⟨q,D,by simpa [pN] using O,by simpa [pN] using Z⟩
  rintro⟨q,D,O,Z⟩;exact⟨pN p,p1.mem_iff.2 ((AY u).2 ⟨q,D,p.1,p.2,O,Z,rfl⟩),by simp[pN]⟩
 have R:∀q∈gG l,∀a b,aH.Next (iX l q) a b->a<l.length/\b<l.length:=fun q D a b h=>by have O:=(u.po q D).lQ.1 h;exact⟨(cJ.1 O.1).1,(cJ.1 O.2.1).1⟩
 refine⟨w.map (GQ l),?_,?_,?_,fun H=>EP W A (Ad _) Q u s H,fun H=>uj W A (Ad _) (E:=w) ?_ ?_ ?_ ?_ H⟩
 . rw[Ah,<-c,Ah];exact I
 . intro v;rw[Be];constructor
   . rintro⟨p,m,rfl⟩;obtain⟨q,D,O,Z⟩:=(F p).1 m;have B:=(u.po q D).lQ.1 O;exact⟨q,(u.fl.mem q).1 D,p.1,p.2,B.2,B.1,Z,rfl⟩
   rintro⟨q,D,a,b,O,Z,B,rfl⟩;have t:=(u.fl.mem q).2 D;exact⟨(a,b),(F (a,b)).2 ⟨q,t,(u.po q t).lQ.2 ⟨Z,O⟩,B⟩,rfl⟩
 . intro v J;obtain⟨p,m,rfl⟩:=Be.1 J;obtain⟨q,D,O,Z⟩:=(F p).1 m;obtain⟨b1,b2⟩:=R q D _ _ O
   have d:∀k,k<l.length->bT (2^18) (l.getD k V0):=fun k g=>by have :l.getD k V0=l[k]:=(by simp[List.getD,g]);rw[this];exact A _ (Ag g)
   exact gT (d _ b2) (d _ b1)
 . rw[<-c,Ah];exact I
 . intro e;rw[<-c,Ir] at e;exact o e
 . intro p m;obtain⟨q,D,O,Z⟩:=(F p).1 m;exact R q D _ _ O
 rw[<-f];exact P
theorem Uf{ta tb:Nat}(f:Nat.blt ta 2=true)(e:Nat.blt tb 2=true){a b:List aH.V}(I:qC a=0)(X:qC b=0)(H:aB):
 Sg 31 [.agg [.bK ta 3 (bU a)],.agg [.bK tb 3 (bU b)]] H (.ret (.bool (rN a b))) H:=by
 obtain⟨U,O,K,z,J,t⟩:=TT f I;obtain⟨W,N,F,v,G,p⟩:=TT e X;obtain⟨T,_,Q,g,P,C,y⟩:=rM I;obtain⟨s,_,AB,o,r,m,x⟩:=rM X;have k:=mI T;have E:=mI s
 have j:∀n,n∈lX (gG a) (gG b) U W↔IsD a b n:=fun n=>by
  have R:∀(l:List aH.V) (M:l.Pairwise jC),n∈(gG l).map (·.1)↔∃d,oR (fun i=>l.getD i V0) l.length n d:=fun l M=>by
   rw[Be];constructor
   . rintro⟨q,D,rfl⟩;exact⟨q.2,((rR l).mem q).1 D⟩
   rintro⟨d,hd⟩;exact⟨(n,d),((rR l).mem (n,d)).2 hd,rfl⟩
  have Y:n∈MZ U W↔∃u w,IsE a u/\IsE b w/\n=aH.bC u w/\n≠V0:=by
   simp only[MZ,Ec,Ix];constructor
   . rintro⟨u,S,w,L,h⟩;split at h
     . cases h
     rename_i Z;obtain rfl:=Aa h;exact⟨u,w,(K u).1 S,(F w).1 L,rfl,Z⟩
   rintro⟨u,w,S,L,rfl,A⟩;exact⟨u,(K u).2 S,w,(F w).2 L,by rw[if_neg A]⟩
  unfold lX IsD;rw[Cg,Ar,Ar,R a T,R b s,Y,or_assoc]
 have c:rN a b=(lX (gG a) (gG b) U W).any (pP a b):=by rw[Eh,Cz];rw[qM];exact exists_congr fun n=>and_congr_left' (j n).symm
 rw[c];refine WX f e y x (Ad _) A0 A0 C m (MU:=2^19) A1 J G t p z v g o AB O N (B:=2*(2^19*2^19)) (fun n A=>?_) A1 H
 rcases(j n).1 A with ⟨d,h⟩|⟨d,h⟩|⟨u,w,S,L,rfl,_⟩
 . exact rS (q:=(n,d)) y h
 . exact rS (q:=(n,d)) x h
 exact iM (z u ((K u).2 S)) (v w ((F w).2 L))
attribute [local congr] aZ aQ aR aL bD aU aS aG bE
attribute [local irreducible] FC bS eE
def rI(p:AV×List aH.V):Prop:=(p.1=.bG/\p.2=[])\/p.1=.bK 0 3 (bU p.2)
def ML(S:List (AV×List aH.V)):List (List AV):=S.map fun p=>[p.1]
def AG(pv:AV)(S:List (AV×List aH.V)):Prop:=(pv=.bG/\S=[])\/pv=.bK 0 1 (ML S)
variable{p:AV×List aH.V}
theorem rI.free(h:rI p):p.1.free=true:=by
 rcases h with ⟨h,_⟩|h
 . rw[h];rfl
 rw[h];exact cT rfl _
variable{S:List (AV×List aH.V)}
theorem Qu(h:∀p∈S,rI p):fK (ML S)=true:=by
 induction S with
 |nil=>rfl
 |cons p S K=>have O:=(h p Ay).free;have Z:=K fun x C=>h x (Ax _ C);simp only[ML] at Z;simp only[ML,Bw,fK,cP,O,Z,Dx]
theorem AG.free{pv:AV}(h:AG pv S)(m:∀p∈S,rI p):pv.free=true:=by rcases h with ⟨h,_⟩|h<;>simp_all[h,AV.free,Qu,m]
def OK(v:aH.V):Bool:=(decide (v.x>4096)||decide (v.x< -4096))||((decide (v.y>4096)||decide (v.y< -4096))||(decide (v.z>4096)||decide (v.z< -4096)))
noncomputable def nF (l:List aH.V):Int:=if qC l≠0 then qC l else if l.any OK then 1 else 0
def aLt(w R B r1:Int):Bool:=decide (w<1)||(decide (R<w)||(decide (R>1099511627776)||(decide (B<0)||(decide (r1<B)||decide (r1>4000)))))
noncomputable def Ns (S:List (List aH.V)):Bool:=(List.range S.length).any fun i=>(List.range i).any fun k=> !rN (S.getD i []) (S.getD k [])
noncomputable def HJ (S:List (List aH.V)):Int:=match S.find? fun l=> !decide (nF l=0) with
 |some l=>nF l
 |none=>if Ns S then 150 else 0
noncomputable def CU (name:List UInt8) (S:List (List aH.V)) (w R B r1:Int):Int:=
 if BL name=false then 5 else if S.length<1\/8<S.length then 2 else if aLt w R B r1=true then 1 else HJ S
variable{ls:List (List aH.V)}{i:Nat}
theorem iu(F:i<ls.length)(h:∀j (Y:j<i),nF (ls[j]'(Cx Y F))=0)(z:nF ls[i]≠0):HJ ls=nF ls[i]:=by
 have :ls.find? (fun l=> !decide (nF l=0))=some ls[i]:=by
  rw[List.find?_eq_some_iff_getElem]
  grind
 simp[HJ,this]
theorem im(h:∀l∈ls,nF l=0):HJ ls=if Ns ls then 150 else 0:=by
 have :ls.find? (fun l=> !decide (nF l=0))=none:=by grind
 simp[HJ,this]
theorem qc(h:nF l=0):qC l=0/\∀v∈l,OK v=false:=by
 unfold nF at h
 grind
theorem ff{k:Nat}(F:i<ls.length)(E:k<i)(h:rN ls[i] (ls[k]'(Cx E F))=false):Ns ls=true:=by
 unfold Ns;rw[Cz];refine⟨i,Bb.2 F,?_⟩;rw[Cz];refine⟨k,Bb.2 E,?_⟩
 grind
theorem YG(h:∀i k (F:i<ls.length) (E:k<i),rN ls[i] (ls[k]'(Cx E F))=true):Ns ls=false:=by
 unfold Ns
 grind
theorem SB(h:rI p)(Q:p.2.length<2^30)(H:aB):Sg 101 [.agg [p.1]] H (.ret (.int .i64 (qC p.2))) H:=by
 rcases h with ⟨h1,Z⟩|h1
 . rw[h1,Z,Pc];exact SC H
 rw[h1];exact VF rfl Q (zY _) (mI (zY _).SL) H
def iQ(name:List UInt8)(pv:AV)(w R B r1:Int):List AV:=[.str name,pv,.int .i64 w,.int .i64 R,.int .i64 B,.int .i64 r1]
end Go.Proofs.YtogfcjbgeebfkaaGreatDoor
namespace Go.Proofs.YtogfcjbgeebfkaaGreatDoor
open Go Go.Av Go.iW Go.aH
attribute [local congr] aZ aQ aR aL bD aU aS aG bE
attribute [local irreducible] FC bS eE
noncomputable def se (l:List aH.V) (p:Nat):Option Int:=GK l p (CM (gG l) (iX l))
noncomputable def trO (l:List aH.V):Option Int:=oI (oI (se l 0) (se l 4)) (se l 8)
noncomputable def ya (l:List aH.V) (p:Nat):Option Int:=if p / 3=p%3 then oI (wH (se l p)) (trO l) else wH (se l p)
noncomputable def Mr (l:List aH.V) (p:Nat):Option Rat:=FK (ya l p) (some 120)
def mR(x:Nat->Option Rat)(n:Nat):List (List AV):=(List.range n).map fun p=>gL (x p)
theorem jR(x:Nat->Option Rat)(n:Nat):(mR x n).length=n:=by simp[mR]
theorem oj(x:Nat->Option Rat)(n:Nat):mR x (n+1)=mR x n++[gL (x n)]:=by simp[mR,Dh]
theorem pB(x:Nat->Option Rat)(n:Nat):fK (mR x n)=true:=by exact dQ (fun p=>eW (x p)) _
def z162:List AV:=cN 9 fun _=>cO (some 0)
theorem aJx:[AV.bool false,AV.bool false,AV.int .u32 0,AV.int .u32 0,AV.int .u32 0,AV.int .u32 0,AV.int .u32 0,AV.int .u32 0,AV.int .u32 0,AV.int .u32 0,AV.int .u32 0,AV.int .u32 0,AV.int .u32 0,AV.int .u32 0,AV.int .u32 0,AV.int .u32 0,AV.int .u32 0,AV.int .u32 0,AV.bool false,AV.bool false,AV.int .u32 0,AV.int .u32 0,AV.int .u32 0,AV.int .u32 0,AV.int .u32 0,AV.int .u32 0,AV.int .u32 0,AV.int .u32 0,AV.int .u32 0,AV.int .u32 0,AV.int .u32 0,AV.int .u32 0,AV.int .u32 0,AV.int .u32 0,AV.int .u32 0,AV.int .u32 0,AV.bool false,AV.bool false,AV.int .u32 0,AV.int .u32 0,AV.int .u32 0,AV.int .u32 0,AV.int .u32 0,AV.int .u32 0,AV.int .u32 0,AV.int .u32 0,AV.int .u32 0,AV.int .u32 0,AV.int .u32 0,AV.int .u32 0,AV.int .u32 0,AV.int .u32 0,AV.int .u32 0,AV.int .u32 0,AV.bool false,AV.bool false,AV.int .u32 0,AV.int .u32 0,AV.int .u32 0,AV.int .u32 0,AV.int .u32 0,AV.int .u32 0,AV.int .u32 0,AV.int .u32 0,AV.int .u32 0,AV.int .u32 0,AV.int .u32 0,AV.int .u32 0,AV.int .u32 0,AV.int .u32 0,AV.int .u32 0,AV.int .u32 0,AV.bool false,AV.bool false,AV.int .u32 0,AV.int .u32 0,AV.int .u32 0,AV.int .u32 0,AV.int .u32 0,AV.int .u32 0,AV.int .u32 0,AV.int .u32 0,AV.int .u32 0,AV.int .u32 0,AV.int .u32 0,AV.int .u32 0,AV.int .u32 0,AV.int .u32 0,AV.int .u32 0,AV.int .u32 0,AV.bool false,AV.bool false,AV.int .u32 0,AV.int .u32 0,AV.int .u32 0,AV.int .u32 0,AV.int .u32 0,AV.int .u32 0,AV.int .u32 0,AV.int .u32 0,AV.int .u32 0,AV.int .u32 0,AV.int .u32 0,AV.int .u32 0,AV.int .u32 0,AV.int .u32 0,AV.int .u32 0,AV.int .u32 0,AV.bool false,AV.bool false,AV.int .u32 0,AV.int .u32 0,AV.int .u32 0,AV.int .u32 0,AV.int .u32 0,AV.int .u32 0,AV.int .u32 0,AV.int .u32 0,AV.int .u32 0,AV.int .u32 0,AV.int .u32 0,AV.int .u32 0,AV.int .u32 0,AV.int .u32 0,AV.int .u32 0,AV.int .u32 0,AV.bool false,AV.bool false,AV.int .u32 0,AV.int .u32 0,AV.int .u32 0,AV.int .u32 0,AV.int .u32 0,AV.int .u32 0,AV.int .u32 0,AV.int .u32 0,AV.int .u32 0,AV.int .u32 0,AV.int .u32 0,AV.int .u32 0,AV.int .u32 0,AV.int .u32 0,AV.int .u32 0,AV.int .u32 0,AV.bool false,AV.bool false,AV.int .u32 0,AV.int .u32 0,AV.int .u32 0,AV.int .u32 0,AV.int .u32 0,AV.int .u32 0,AV.int .u32 0,AV.int .u32 0,AV.int .u32 0,AV.int .u32 0,AV.int .u32 0,AV.int .u32 0,AV.int .u32 0,AV.int .u32 0,AV.int .u32 0,AV.int .u32 0]=z162:=rfl
theorem aNd{l:List aH.V}(h:qC l=0)(H:aB):Sg 78 [.agg [.bK 0 3 (bU l)]] H (.ret (.agg [.int .i64 3,.int .i64 3,.bK 0 36 (mR (Mr l) 9)])) H:=by
 obtain⟨s,_,cU,_,Q,_,U⟩:=rM h;have w:=mI s;refine fA fit dZ bLc (Ab rfl) (by simp only[sf,cT (tag:=0) rfl]) ?_ H;unfold W78;dsimp only;have lo:∀x,(cO x).length=18:=fun x=>mG x;simp only[aJx];refine bP ?_;refine Tz ?_;refine fQ ?_;refine Ty ?_;refine bQ ?_;have lz:z162.length=162:=rfl;generalize hX:(((aB.mk 0 .nil).alloc _).alloc _).alloc _=c;have a0:=Kv (i:=0) hX;have a1:=Kv (i:=1) hX;have a2:=Kv (i:=2) hX;have an:c.next=3:=by subst hX;rfl
 have W:aY c:=by subst hX;exact(((aY.nil _).alloc _).alloc _).alloc _
 clear hX;obtain⟨_,H9,⟨rfl,b,xR,N⟩,aq⟩:=Yo (tag:=0) rfl U (Ad _) Q w cU (CS s) (II l 2) (fun T H H' S ⟨O,Z⟩=>⟨Au O S.le,YH S Z O⟩) (aFn U (Ad _) 2) (H0:=c) A0 ⟨by omega,a2⟩ W;have b1:=(xR.2 1 A0 A0).trans a1;have aj:3<=H9.next:=by have :=xR.1;omega
 have XY:H9.get 2=some (.cells (cN 9 fun p=>cO (se l p)) false):=b.2;clear b;refine aP fun K hK=>?_;refine Wy ?_;apply hK;clear hK K a0 a1 a2 W;have a:∀p,p<9->(cO (se l p)).length=18:=fun p _=>lo _;have q0:(cN 9 fun p=>cO (se l p)).take 18=cO (se l 0):=MX (m:=18) a (i:=0) A1;have q4:((cN 9 fun p=>cO (se l p)).drop 72).take 18=cO (se l 4):=MX (m:=18) a (i:=4) A1;have q8:((cN 9 fun p=>cO (se l p)).drop 144).take 18=cO (se l 8):=MX (m:=18) a (i:=8) A1;have l9:=MY a;have is:∀p,eJ (cO (se l p)) (se l p):=fun p=>eJ.wK _ _;have ar:=xB (is 0) (is 4);have af:=xB (eJ.add (x:=se l 0) (y:=se l 4)) (is 8);rw[show oI (oI (se l 0) (se l 4)) (se l 8)=trO l from rfl] at af;refine bP ?_;refine fZ 1 A1 N.at1 fun H1 n1 e1=>?_;have :=oL NP;refine Wz ?_;refine bQ ?_;have ab:aY H1:=fun j Y=>by rw[e1 j];exact N j A0
 generalize hX:(H1.set H9.next _).set H9.next _=t;have d1:=Kw hX e1 b1;have d2:=Kw hX e1 XY;have d4:=Kz hX;have dn:H9.next+1=t.next:=by subst hX;simp only[aB.bB];omega
 have dF:aY t:=by subst hX;exact(ab.set A0 _).set Zaw _
 clear hX;generalize H9.next=r4 at *;refine bP ?_;refine Ty ?_;refine bQ ?_;generalize hX:(t.alloc _).set t.next _=F;have c1:=Ku hX d1;have c2:=Ku hX d2;have c4:=Ku hX d4
 have c5:F.get t.next=some (.cells [.int .i64 3,.int .i64 3,.bG] false):=by subst hX;rw[aB.aD,if_pos rfl];try rfl
 have cn:t.next<F.next:=by subst hX;simp only[aB.bB,aB.bJ];omega
 clear hX;generalize t.next=M at *;refine cC fun f MJ=>?_;have P:f 2=.ref 1 0:=by subst MJ;simp only[zB,seval]
 have f3:f 3=.ref 2 0:=by subst MJ;simp only[zB,seval]
 have f4:f 4=.ref r4 0:=by subst MJ;simp only[zB,seval]
 have f5:f 5=.ref M 0:=by subst MJ;simp only[zB,seval]
 clear MJ
 obtain⟨J,hJ⟩:∃J:Nat->aB->Prop,J=fun m H'=>∃v,Own H' 36 v (mR (Mr l) m)/\H'.get M=some (.cells [.int .i64 3,.int .i64 3,v] false)/\H'.get 1=some (.cells [.int .i64 0,.int .i64 0,.bG] false)/\H'.get 2=some (.cells (cN 9 fun p=>cO (se l p)) false)/\H'.get r4=some (.cells (cO (trO l)) false)/\M<H'.next:=⟨_,rfl⟩
 have j0:J 0 F:=by rw[hJ];exact⟨.bG,.nil _ _,c5,c1,c2,c4,cn⟩
 refine aP fun K hK=>?_;refine bP ?_;refine Tz ?_;refine bQ ?_;refine fE [] (fun i _ H'=>J (3*i) H') 3 A1 rfl A1 ?_ ?_ ?_ ?_
 . exact zq
 . exact j0
 . rintro i u H1 WI E D j0;have k3:u 3=.ref 2 0:=by rw[E 3 rfl];simp only[zB,seval];exact f3
   have k4:u 4=.ref r4 0:=(by rw[E 4 rfl];simp only[zB,seval];exact f4);have k5:u 5=.ref M 0:=(by rw[E 5 rfl];simp only[zB,seval];exact f5);clear E;refine aM ?_;refine bP ?_;simp only[↓zP,zG,seval,D];refine fQ ?_;refine Tz ?_;refine bQ ?_;refine fE [] (fun k _ H'=>J (3*i+k) H') 3 A1 rfl A1 ?_ ?_ ?_ ?_
   . exact zq
   . exact j0
   . rintro k L H2 lO E e2 j1;have q3:L 3=.ref 2 0:=(by rw[E 3 rfl];simp only[zB,seval];exact k3);have a6:L 4=.ref r4 0:=(by rw[E 4 rfl];simp only[zB,seval];exact k4);have q5:L 5=.ref M 0:=(by rw[E 5 rfl];simp only[zB,seval];exact k5);have q6:L 6=.int .i64 i:=E 6 rfl;clear E;have d:3*i+k<9:=A0;have ad:=MX a d;have hp:i*54+k*18=(3*i+k)*18:=A0;have ag:(3*i+k)*18<=144:=A0;have o:=PM (is (3*i+k));rw[hJ] at j1;obtain⟨v,S,A,g,g2,R,I⟩:=j1;refine aM ?_;refine bP ?_;simp only[↓zP,zG,seval,e2];refine fQ ?_;simp only[↓zP,zJ,seval,q3,q6,aI,WI,lO,g2,l9,hp,ag,ad];refine eI (o _) ?_;simp only[↓zP,zJ,seval,lo,oL NP];refine bQ ?_;generalize hX:(H2.alloc _).set H2.next _=G;have u1:=Ku hX g;have u2:=Ku hX g2;have u4:=Ku hX R;have u5:=Ku hX A;have u8:=Kz hX;have un:G.next=H2.next+1:=by subst hX;simp only[aB.bB,aB.bJ]
     have uo:Own G 36 v (mR (Mr l) (3*i+k)):=by refine vL S A0 fun k O Z=>?_;subst hX;rw[aB.aD,if_neg A0,aB.aJ,if_neg A0];exact Z
     clear hX S g g2 R A;generalize H2.next=r8 at *;refine cC fun f MJ=>?_;have X:=Ks MJ a6;have B:=Ks MJ q5;have p6:=Ks MJ q6;have p7:f 7=.int .i64 k:=(by subst MJ;simp only[zB,seval]);have p8:f 8=.ref r8 0:=(by subst MJ;simp only[zB,seval]);clear MJ q3 a6 q5 q6;refine aP fun K hK=>?_
     have key:∀(f:dI) (H5:aB),f 5=.ref M 0->f 8=.ref r8 0->H5.get r8=some (.cells (cO (ya l (3*i+k))) false)->(∀j,j≠r8->H5.get j=G.get j)->H5.next=G.next->K f [] H5:=by
      intro f H5 B p8 w8 we wn;apply hK;clear hK K;have w5:=(we M A0).trans u5;have w1:=(we 1 A0).trans u1;have w2:=(we 2 A0).trans u2;have C:=(we r4 A0).trans u4
      have wo:Own H5 36 v (mR (Mr l) (3*i+k)):=by refine vL uo A0 fun j O Z=>?_;rw[we j (by intro h;rw[h,u8] at Z;cases Z)];exact Z
      have ae:=uP (z:=120) A1 A1
      have ii:eJ (cO (ya l (3*i+k))) (ya l (3*i+k)):=by
       unfold ya;split
       . exact .add
       exact(is _).neg
      have mk:=vM ii (.enc (z:=120) A1);rw[show FK (ya l (3*i+k)) (some 120)=Mr l (3*i+k) from rfl] at mk;obtain⟨H6,z1,z2,z3,r,z5⟩:=Has.push (.inr wo) (ys:=[gL (Mr l (3*i+k))]) (bytes:=136) rfl (by rw[jR,As,Bo];omega);have lq:=cZ (Mr l (3*i+k));refine Dz ?_;simp only[↓zP,zJ,seval,zD,B,p8,w5,w8,lo,oL (lo (ya l (3*i+k)))];refine gV (ae _) ?_;simp only[seval];refine gV (mk _) ?_;simp only[↓zP,zJ,seval,zD,B,w5,lq];rw[show dM H5 36 (.bK 1 36 [gL (Mr l (3*i+k))])=some [gL (Mr l (3*i+k))] from rfl];have y1:=(r 1 A0 (by rw[w1];simp)).trans w1;have y2:=(r 2 A0 (by rw[w2];simp)).trans w2;have y4:=(r r4 A0 (by rw[C];simp)).trans C;have y5:=(r M A0 (by rw[w5];simp)).trans w5;simp only[z1,bV,zJ,seval,y5,z2];refine⟨by omega,trivial,?_⟩;rw[hJ,show 3*i+(k+1)=(3*i+k)+1 by omega];dsimp only;rw[oj];refine⟨_,.inr ⟨H5.next,rfl,by simp only[aB.bB];omega,by rw[aB.aD,if_neg A0];exact z3⟩,?_⟩;simp only[aB.aD,aB.bB,y1,y2,y4,show ¬(1=M) by omega,show ¬(2=M) by omega,show ¬(r4=M) by omega,Db,if_true,Ke];omega
     clear hK;by_cases a7:i=k
     . have e:((i:Int)==(k:Int))=true:=(by rw[a7];exact Hh _);have q:=xB (is (3*i+k)).neg (show eJ (cO (trO l)) (trO l) from .add);have iP:oI (wH (se l (3*i+k))) (trO l)=ya l (3*i+k):=(by unfold ya;rw[if_pos A0]);rw[iP] at q;simp only[↓zP,zJ,seval,X,p6,p7,p8,e,u4,u8,lo,oL (lo (trO l)),oL (lo (wH (se l (3*i+k))))];refine eI (q _) ?_;simp only[↓zP,zJ,seval,p8,u8,lo];refine key _ _ (by simp only[zB,seval];exact B) (by simp only[zB,seval];exact p8) ?_ ?_ ?_
       . exact ZaK
       . intro j Y;rw[aB.aD,if_neg Y]
       rw[aB.bB]
     have e:((i:Int)==(k:Int))=false:=(by rw[Dc];omega);have iP:wH (se l (3*i+k))=ya l (3*i+k):=(by unfold ya;rw[if_neg A0]);rw[iP] at u8;simp only[↓zP,zG,seval,p6,p7,e];exact key _ _ (by simp only[zB,seval];exact B) (by simp only[zB,seval];exact p8) u8 (fun _ _=>rfl) rfl
   rintro L H2 E j1;exact j1
 rintro u H1 E j1;rw[hJ] at j1;obtain⟨v,S,A,g,g2,R,I⟩:=j1;have k2:u 2=.ref 1 0:=by rw[E 2 rfl];simp only[zB,seval];exact P
 have k5:u 5=.ref M 0:=by rw[E 5 rfl];simp only[zB,seval];exact f5
 have xx:mR (Mr l) (3*3)≠[]:=fun h=>by have :=Al List.length h;rw[jR] at this;cases this
 obtain⟨n,rfl,bp,ak⟩:∃n,v=.bK (n+2) 36 (mR (Mr l) 9)/\n<H1.next/\H1.get n=some .tok:=by
  rcases S with ⟨_,h⟩|h
  . exact absurd h xx
  exact h
 refine Tx ?_;apply hK;clear hK K;refine Wz ?_;have uD:=pB (Mr l) 9;refine⟨rfl,_,by simp only[↓zP,zR,seval,k2];rfl,?_⟩;refine⟨_,2,rfl,fun nw=>?_⟩;simp[nJ,iH,kK,GI,uD,EK,AV.free]
theorem yj{v:List AV}{x:Option Rat}(J:lA v x)(H:aB):Sg 261 [.agg v] H (.ret (.bool (!x.isSome))) H:=by refine So aSu Zby ?_ H;unfold aLi;dsimp only;have g:=lS J;have d:=oL J.len;refine bP ?_;refine Ty ?_;refine fQ ?_;refine Wz ?_;refine bQ ?_;refine Tx ?_;refine Rx ?_;rfl
theorem VN(x:Nat->Option Rat){n i:Nat}(h:i<n):(mR x n).getD i []=gL (x i):=by simp[mR,List.getD,h]
def Wl(x:Nat->Option Rat)(n:Nat):Bool:=(List.range n).any fun p=> !(x p).isSome
variable{x:Nat->Option Rat}{n:Nat}
theorem aNy(C:∀p,p<n->lA (gL (x p)) (x p))(A:n<2^30)(H:aB):∃r:Int,(decide (r≥0)=Wl x n)/\Sg 294 [.bK 0 36 (mR x n),.func (.func 261) [] []] H (.ret (.int .i64 r)) H:=by
 obtain⟨r,V⟩:∃r:Int,r=match (List.range n).find? (fun p=> !(x p).isSome) with
  |some p=>(p:Int)
  |none=> -1:=⟨_,rfl⟩
 have Q:(∀p,p<n->(x p).isSome=true)->r= -1:=fun h=>by rw[V,Hl.2 fun p m=>by rw[h p (Bb.1 m)];decide]
 have z:∀p,p<n->(∀q,q<p->(x q).isSome=true)->(x p).isSome=false->r=p:=fun p m D h=>by
  have :(List.range n).find? (fun p=> !(x p).isSome)=some p:=by rw[List.find?_range_eq_some];exact⟨by rw[h];rfl,Bb.2 m,fun j Y=>by rw[D j Y];rfl⟩
  rw[V,this]
 refine⟨r,?_,?_⟩
 . unfold Wl;by_cases h:∀p,p<n->(x p).isSome=true
   . rw[Q h,Fp.2 fun p m=>by rw[h p (Bb.1 m)];decide];rfl
   obtain⟨p,m⟩:∃p,(List.range n).find? (fun p=> !(x p).isSome)=some p:=by rw[<-Option.isSome_iff_exists,List.find?_isSome];simp only[Classical.not_forall] at h;obtain⟨p,m,h⟩:=h;exact⟨p,Bb.2 m,by simpa using h⟩
   rw[V,m];rw[Af (show(p:Int)≥0 by omega)];symm;exact Cz.2 ⟨p,Jc m,Jw (p:=fun p=> !(x p).isSome) m⟩
 refine So aSx Zci ?_ H;unfold aLl;dsimp only;refine bP ?_;refine Tz ?_;refine bQ ?_;refine aP fun K hK=>?_;refine bP ?_;simp only[↓zP,zJ,seval,jR];refine bQ ?_;refine bR [] (fun i _ H'=>∀q,q<i->(x q).isSome=true) n A0 A1 ?_ ?_ ?_ ?_ ?_
 . exact zq
 . exact zq
 . exact fun q D=>absurd D (Am _)
 . rintro i f H1 F E T Y;have k0:f 0=.bK 0 36 (mR x n):=E 0 rfl;have k1:f 1=.func (.func 261) [] []:=E 1 rfl;have d:=VN x F;have Z:=oL (cZ (x i));have a:=yj (C i F);refine aM ?_;refine bP ?_;simp only[↓zP,zG,seval,T];refine fQ ?_;simp only[↓zP,zG,seval,k0,k1,aI,jR,F,d,Z];refine nM A1 (fs:=[]) (cs:=[]) (fid:=261) zq (by simp only[Bw,Er,zB,seval,Cw,Bx]) (a _) ?_;refine Tx ?_;refine bQ ?_
   cases M:(x i).isSome with
   |false=>refine Ty ?_;refine Rx ?_;rw[z i F Y M];rfl
   |true=>
    refine Ty ?_;intro q D
    rcases Nat.lt_or_eq_of_le (Nat.le_of_lt_succ D) with h|h
    . exact Y q h
    rw[h];exact M
 rintro f H1 E Y;refine Tx ?_;apply hK;clear hK K;refine Tz ?_;refine Rx ?_;rw[Q Y];rfl
theorem aNx(C:∀p,p<n->lA (gL (x p)) (x p))(A:n<2^30)(H:aB):Sg 260 [.bK 0 36 (mR x n),.func (.func 261) [] []] H (.ret (.bool (Wl x n))) H:=by
 refine So aSt Zci ?_ H;unfold aLh;dsimp only
 obtain⟨r,O,Z⟩:∃r:Int,(decide (r≥0)=Wl x n)/\∀H,Sg 294 [.bK 0 36 (mR x n),.func (.func 261) [] []] H (.ret (.int .i64 r)) H:=by obtain⟨r,O,Z⟩:=aNy C A ⟨0,.nil⟩;exact⟨r,O,fun H=>Z.frame dZ Zci (tk:=none) (fun k E=>by cases E) (n:=0) H (uG rfl)⟩
 refine bP ?_;refine Tz ?_;refine fQ ?_;refine Wz ?_;refine bQ ?_;refine Tx ?_;exact ZaB
theorem QY(C:∀p,p<n->lA (gL (x p)) (x p))(A:n<2^30)(H:aB):Sg 203 [.bK 0 36 (mR x n)] H (.ret (.bool (!Wl x n))) H:=by refine So aSn (by simp only[sf,pB]) ?_ H;unfold aLb;dsimp only;have Z:=aNx C A;refine bP ?_;refine Tz ?_;refine fQ ?_;refine Wz ?_;refine bQ ?_;refine Tx ?_;refine Rx ?_;rfl
def mC(x:Nat->Option Rat):List AV:=[.int .i64 3,.int .i64 3,.bK 0 36 (mR x 9)]
theorem FG(x:Nat->Option Rat):cP (mC x)=true:=by simp only[mC,sf,pB]
def ZB(x:Nat->Option Rat):Prop:=(∀p,p<9->lA (gL (x p)) (x p))/\Wl x 9=false
def mN(n:Nat)(x:Nat->Option Rat):List AV:=[.int .i64 n,.int .i64 n,.bK 0 36 (mR x (n*n))]
theorem FH(n:Nat)(x:Nat->Option Rat):cP (mN n x)=true:=by simp only[mN,sf,pB]
def PL(n:Nat)(x:Nat->Option Rat):Prop:=(∀p,p<n*n->lA (gL (x p)) (x p))/\Wl x (n*n)=false
theorem Lz(h:n<=3):n*n<=9:=Az h h
theorem dj(B:n<=3){x:Nat->Option Rat}(C:PL n x)(H:aB):Sg 202 [.agg (mN n x)] H (.ret (.int .i64 0)) H:=by
 refine So aSm Zbs ?_ H;unfold aLa;dsimp only;have L:=Lz B;have d:=QY C.1 A0;rw[C.2] at d;refine bP ?_;refine Ty ?_;refine bQ ?_;have f:IntKind.i64.wrap ((n:Int)*(n:Int))=((n*n:Nat):Int):=by rw[<-Int.natCast_mul,wrap_i64 A0 A0]
 refine bP ?_;refine aM ?_;have g0:(mN n x).getD 0 aC=.int .i64 n:=rfl;have g:(mN n x).getD 1 aC=.int .i64 n:=rfl;have e:(mN n x).getD 2 aC=.bK 0 36 (mR x (n*n)):=rfl;have p:(mN n x).length=3:=rfl;have b1:decide ((n:Int)<0)=false:=Ac A0;have b2:decide ((n:Int)>200)=false:=Ac A0;have D:(((n*n:Nat):Int) != ((n*n:Nat):Int))=false:=by simp
 generalize n*n=q at *;refine bP ?_;refine Wz ?_;refine bQ ?_;have := @jR;refine Wz ?_;refine bQ ?_;refine Tz ?_;exact ZaB
theorem ee(B:n<=3){x:Nat->Option Rat}(C:PL n x)(H:aB):Sg 201 [.agg (mN n x)] H (.ret (.bool false)) H:=by refine So aSl Zbs ?_ H;unfold aKz;dsimp only;have g:=dj B C;have d:=oL (show(mN n x).length=3 from rfl);refine bP ?_;refine Ty ?_;refine fQ ?_;have :((0:Int) != 0)=false:=rfl;refine Wz ?_;refine bQ ?_;refine Tx ?_;refine Rx ?_;rfl
def mLN(n:Nat)(l:List (Nat->Option Rat)):List (List AV):=l.map (mN n)
theorem aGj(n:Nat)(l:List (Nat->Option Rat)):(mLN n l).length=l.length:=by simp[mLN]
variable{i:Nat}
theorem bCa{l:List (Nat->Option Rat)}(h:i<l.length):(mLN n l).getD i []=mN n l[i]:=by simp[mLN,List.getD,h]
theorem aNz(n:Nat)(l:List (Nat->Option Rat)):fK (mLN n l)=true:=dQ (FH n) l
theorem dp{tag:Nat}(W:Nat.blt tag 2=true)(n:Nat)(l:List (Nat->Option Rat)):(AV.bK tag 3 (mLN n l)).free=true:=by simp only[AV.free,W,Dm];exact aNz n l
theorem aGi(B:n<=3){l:List (Nat->Option Rat)}(C:∀x∈l,PL n x)(A:l.length<2^30){tag:Nat}(W:Nat.blt tag 2=true)(H:aB):Sg 259 [.bK tag 3 (mLN n l),.func (.func 201) [] []] H (.ret (.int .i64 (-1))) H:=by
 refine So aSs (by simp only[sf,dp W n l];rfl) ?_ H;unfold aLg;dsimp only;refine bP ?_;refine Tz ?_;refine bQ ?_;refine aP fun K hK=>?_;refine bP ?_;simp only[↓zP,zJ,seval,aGj];refine bQ ?_;refine bR [] (fun i _ H'=>True) l.length A0 A1 ?_ ?_ ?_ ?_ ?_
 . exact zq
 . exact zq
 . trivial
 . rintro i f H1 F E T Y;have k0:f 0=.bK tag 3 (mLN n l):=E 0 rfl;have k1:f 1=.func (.func 201) [] []:=E 1 rfl;have d:=bCa (n:=n) F;have a:=ee B (C _ (Ag F));generalize l[i]=x at *;have Z:=oL (show(mN n x).length=3 from rfl);refine aM ?_;refine bP ?_;refine Wy ?_;refine fQ ?_;have := @aGj;refine Wy ?_;refine nM A1 (fs:=[]) (cs:=[]) (fid:=201) zq (by simp only[Bw,Er,zB,seval,Cw,Bx]) (a _) ?_;refine Tx ?_;refine bQ ?_;exact Zbj
 rintro f H1 E Y;refine Tx ?_;apply hK;clear hK K;refine Tz ?_;exact ZaB
theorem aGg(B:n<=3){l:List (Nat->Option Rat)}(C:∀x∈l,PL n x)(A:l.length<2^30){tag:Nat}(W:Nat.blt tag 2=true)(H:aB):Sg 200 [.bK tag 3 (mLN n l),.func (.func 201) [] []] H (.ret (.bool false)) H:=by refine So aSk (by simp only[sf,dp W n l];rfl) ?_ H;unfold aKy;dsimp only;have Z:=aGi B C A W;refine bP ?_;refine Tz ?_;refine fQ ?_;refine Wz ?_;refine bQ ?_;refine Tx ?_;refine Rx ?_;rfl
theorem FI(B:n<=3){l:List (Nat->Option Rat)}(C:∀x∈l,PL n x)(A:l.length<2^30){tag:Nat}(W:Nat.blt tag 2=true)(H:aB):Sg 115 [.bK tag 3 (mLN n l)] H (.ret (.bool true)) H:=by refine So aRw (by simp only[sf,dp W n l]) ?_ H;unfold aKk;dsimp only;have Z:=aGg B C A W;refine bP ?_;refine Tz ?_;refine fQ ?_;refine Wz ?_;refine bQ ?_;refine Tx ?_;refine Rx ?_;rfl
theorem ND{k:Nat}(F:i<n)(E:k<n):n*i+k<n*n:=by have :n*(i+1)<=n*n:=Dd _ F;rw[Nat.mul_succ] at this;omega
theorem aNw(B:n<=3)(x:Nat->Option Rat){i k:Nat}(F:i<n)(E:k<n)(H:aB):Sg 116 [.agg (mN n x),.int .i64 i,.int .i64 k] H (.ret (.agg (gL (x (n*i+k))))) H:=by
 refine Sp aRx Zbs Zao ?_ H;unfold aKl;dsimp only;simp only[lG];have m:=ND F E;have L:=Lz B;have g:(mN n x).getD 1 aC=.int .i64 n:=rfl;have e:(mN n x).getD 2 aC=.bK 0 36 (mR x (n*n)):=rfl;have p:(mN n x).length=3:=rfl;have w1:IntKind.i64.wrap ((i:Int)*(n:Int))=((n*i:Nat):Int):=by rw[<-Int.natCast_mul,Cc i n,wrap_i64 A0 A0]
 have w2:IntKind.i64.wrap (((n*i:Nat):Int)+(k:Int))=((n*i+k:Nat):Int):=wI A0;have d:=VN x m;generalize n*i=o at *;have Z:=oL (cZ (x (o+k)));generalize n*n=X at *;refine bP ?_;refine Ty ?_;refine fQ ?_;simp only[↓zP,zJ,seval,g,e,p,w1,w2,aI,jR,m,d,Z,oL fV];refine bQ ?_;refine Tx ?_;refine⟨rfl,_,by simp only[↓zP,zR,seval,Z];rfl,?_⟩;rfl
theorem Mv(x:Nat->Option Rat){i k:Nat}(F:i<3)(E:k<3)(H:aB):Sg 116 [.agg (mC x),.int .i64 i,.int .i64 k] H (.ret (.agg (gL (x (3*i+k))))) H:=aNw (n:=3) A1 x F E H
end Go.Proofs.YtogfcjbgeebfkaaGreatDoor
namespace Go.Proofs.YtogfcjbgeebfkaaGreatDoor
open Go Go.Av
def aVc:CW Tryz.f166:=⟨_,dD⟩
theorem bHk:Fi 166 aVc:=dH Tryz.func166 aVc
def W79:CW Tryz.f79:=⟨_,dD⟩
theorem bRl:Fi 79 W79:=dH Tryz.func79 W79
end Go.Proofs.YtogfcjbgeebfkaaGreatDoor
namespace Go.Proofs.YtogfcjbgeebfkaaGreatDoor
open Go Go.Av Go.iW Go.aH
attribute [local congr] aZ aQ aR aL bD aU aS aG bE
attribute [local irreducible] FC bS eE
variable{x:Nat->Option Rat}
theorem aGf{y:Nat->Option Rat}(C:ZB x)(Q:ZB y){i k r s:Nat}(F:i<3)(E:k<3){H:aB}(V:H.get r=some (.cells (mC x) false))(M:H.get s=some (.cells (mC y) false))(n:r<H.next)(g:s<H.next)(N:aY H):
 ∃H',Sg 166 [.int .i64 i,.int .i64 k,.ref r 0,.ref s 0] H (.ret (.agg (gL (mT (x (3*i+k)) (y (3*i+k)))))) H'/\Over H H'/\aY H':=by
 have a1:=Mv x F E;have l:=Mv y F E;have m:3*i+k<9:=by omega
 have j:=Ls (C.1 _ m) (Q.1 _ m);have b:=oL (show(mC x).length=3 from rfl);have a:=oL (show(mC y).length=3 from rfl);have Z:=oL (cZ (mT (x (3*i+k)) (y (3*i+k))))
 obtain⟨_,H',⟨rfl,h⟩,w⟩:=bZ (R:=fun o H'=>o=.ret (.agg (gL (mT (x (3*i+k)) (y (3*i+k)))))/\Over H H'/\aY H') fit bHk (args:=[.int .i64 i,.int .i64 k,.ref r 0,.ref s 0]) (H:=H) (Ab rfl) (by
  unfold aVc;dsimp only;simp only[lG];refine bP ?_;refine Tz ?_;refine bQ ?_;generalize hX:aB.alloc H _=c;have f:c.get r=some (.cells (mC x) false):=by subst hX;rw[aB.aJ,if_neg A0];exact V
  have d:c.get s=some (.cells (mC y) false):=by subst hX;rw[aB.aJ,if_neg A0];exact M
  have S:c.get H.next=some (.cells HO false):=by subst hX;rw[aB.aJ,if_pos rfl]
  have K:Over H c:=by subst hX;exact(Over.refl H).alloc _
  have W:aY c:=by subst hX;exact N.alloc _
  have e:H.next<c.next:=by subst hX;simp only[aB.bJ];omega
  clear hX;refine bP ?_;refine Dz ?_;have :=oL fV;refine Wz ?_;refine bQ ?_;refine Tx ?_;refine⟨rfl,_,by simp only[↓zP,zR,seval,Z];rfl,?_⟩
  exact⟨rfl,K.set (Ad _) _,W.set e _⟩)
 exact⟨H',w,h⟩
theorem dq{c:Option Rat}(C:ZB x)(l:lA (gL c) c){i k r s:Nat}(F:i<3)(E:k<3){H:aB}(V:H.get r=some (.cells (mC x) false))(M:H.get s=some (.cells (gL c) false))(n:r<H.next)(g:s<H.next)(N:aY H):
 ∃H',Sg 167 [.int .i64 i,.int .i64 k,.ref r 0,.ref s 0] H (.ret (.agg (gL (nX (x (3*i+k)) c)))) H'/\Over H H'/\aY H':=by
 have a1:=Mv x F E;have m:3*i+k<9:=by omega
 have p:=Lt (C.1 _ m) l;have b:=oL (show(mC x).length=3 from rfl);have a:=oL (cZ c);have Z:=oL (cZ (nX (x (3*i+k)) c))
 obtain⟨_,H',⟨rfl,h⟩,w⟩:=bZ (R:=fun o H'=>o=.ret (.agg (gL (nX (x (3*i+k)) c)))/\Over H H'/\aY H') fit aSe (args:=[.int .i64 i,.int .i64 k,.ref r 0,.ref s 0]) (H:=H) (Ab rfl) (by
  unfold aKs;dsimp only;simp only[lG];refine bP ?_;refine Tz ?_;refine bQ ?_;generalize hX:aB.alloc H _=j;have f:j.get r=some (.cells (mC x) false):=by subst hX;rw[aB.aJ,if_neg A0];exact V
  have d:j.get s=some (.cells (gL c) false):=by subst hX;rw[aB.aJ,if_neg A0];exact M
  have S:j.get H.next=some (.cells HO false):=by subst hX;rw[aB.aJ,if_pos rfl]
  have K:Over H j:=by subst hX;exact(Over.refl H).alloc _
  have W:aY j:=by subst hX;exact N.alloc _
  have e:H.next<j.next:=by subst hX;simp only[aB.bJ];omega
  clear hX;refine bP ?_;refine Dz ?_;have :=oL fV;refine Wz ?_;refine bQ ?_;refine Tx ?_;refine⟨rfl,_,by simp only[↓zP,zR,seval,Z];rfl,?_⟩
  exact⟨rfl,K.set (Ad _) _,W.set e _⟩)
 exact⟨H',w,h⟩
variable{n:Nat}{H:aB}
theorem te{P:Program}{g:bL}{pairs:List (Nat×Nat)}{base:Nat}{i k:Nat}{W:List bH}{a:List (Nat×Nat)}{t:List (Nat×aB×aB)}{f:dI}{R:dI->aB->Prop}
 {d:Nat} {c:Arg} {fid:FuncId} {fs cs:List AV} {xs:List Arg} {args:List AV} {v:AV} {H':aB} (hd:d<n) (b:nZ g f c=.func (.func fid) fs cs) (I:fs++xs.map (nZ g f)++cs=args) (w:Sound P g fid args H (.ret v) H') (A:H.next<=H'.next)
 (V:∀x∈a,(x.1,i)∈pairs->H.get x.2=H'.get x.2)
 (h:eE P g n pairs base (i+1) k W a ((i,H,H')::t) (jF f d v) H' R):eE P g n pairs base i k (⟨some d,.call c xs,none⟩::W) a t f H R:=by
 have :∀v,gJ n f (some d) v=jF f d v:=fun v=>by simp[gJ,hd]
 unfold eE;rw[if_pos (by rfl)];simp only[this];refine⟨v,H',?_,A,V,h⟩;exact⟨(fid,fs,cs),by rw[b];rfl,by rw[I];exact w⟩
def Kp(N:Nat)(H H':aB):Prop:=H.next<=H'.next/\∀id,id<N->H.get id≠some .tok->H'.get id=H.get id
theorem Kp.of{N:Nat}{H1:aB}(h:Over H H1)(y:N<=H.next):Kp N H H1:=⟨h.le,fun id a _=>h.same id (Au a y)⟩
theorem XM:∀a b:List AV,qD (a++b)=qD a++qD b
 |[],b=>rfl
 |x::a,b=>by simp only[Fe,qD,XM a b]
theorem aZc(l:List Nat):qD (wC l)=wC l:=by
 induction l with
 |nil=>rfl
 |cons x l K=>simp only[wC,Bw,qD,wu] at *;rw[K]
theorem aZb(z:Int):qD (cI z)=cI z:=by simp only[cI,qD,wu,aZc]
theorem aMu(x:Option Rat):qD (gL x)=gL x:=by
 cases x with
 |none=>rfl
 |some q=>simp only[gL,cQ,XM,aZb]
theorem aEi(x:Nat->Option Rat)(n:Nat):DG (mR x n)=mR x n:=by
 unfold mR
 induction List.range n with
 |nil=>rfl
 |cons p l K=>simp only[Bw,DG,K,aMu]
theorem Xx(n1:0<n)(n3:n<=3){H0:aB}{Q:aB->Prop}(N:∀H H',Q H->Kp H0.next H H'->Q H'){y:Nat->Option Rat}(hy:PL n y){fid:FuncId}{cs:List AV}
 (s:∀H,Q H->aY H->∀i k:Nat,i<n->k<n->∃H',Sg fid ([.int .i64 i,.int .i64 k]++cs) H (.ret (.agg (gL (y (n*i+k))))) H'/\Over H H'/\aY H') (G:Q H0) (a7:aY H0):
 ∃tk H',Sg 117 [.int .i64 n,.int .i64 n,.func (.func fid) [] cs] H0 (.ret (.iV [.agg [.int .i64 n,.int .i64 n,.bK (tk+2) 36 (mR y (n*n))],.int .i64 0])) H'/\Q H'/\tk<H'.next/\H'.get tk=some .tok/\aY H':=by
 obtain⟨o,H',⟨tk,rfl,h⟩,w⟩:=bZ (R:=fun o H'=>∃tk,o=.ret (.iV [.agg [.int .i64 n,.int .i64 n,.bK (tk+2) 36 (mR y (n*n))],.int .i64 0])/\Q H'/\tk<H'.next/\H'.get tk=some .tok/\aY H') fit aRy (args:=[.int .i64 n,.int .i64 n,.func (.func fid) [] cs]) (H:=H0) (Ab rfl) (by
  unfold aKm;dsimp only;refine bP ?_;refine Tz ?_;refine fQ ?_;refine Ty ?_;refine bQ ?_;generalize hX:aB.set _ _ _=F;have c6:F.get H0.next=some (.cells [.int .i64 0,.int .i64 0,.bG] false):=by subst hX;rw[aB.aD,if_neg A0,aB.aJ,if_neg Zal,aB.aJ,if_pos rfl]
  have c8:F.get (H0.next+1)=some (.cells [.int .i64 n,.int .i64 n,.bG] false):=by subst hX;rw[aB.aD,if_pos rfl];try rfl
  have c:H0.next+1<F.next:=by subst hX;simp only[aB.bB,aB.bJ];omega
  have ae:Over H0 F:=by subst hX;exact(((Over.refl H0).alloc _).alloc _).set A0 _
  have cF:aY F:=by subst hX;exact((a7.alloc _).alloc _).set Zal _
  clear hX;have ad:=N _ _ G (.of ae (Ad _));generalize H0.next=Y at *;obtain⟨r8,W⟩:∃r8,r8=Y+1:=⟨_,rfl⟩;rw[<-W] at c8 c;refine cC fun f l=>?_;have A:f 0=.int .i64 n:=by subst l;simp only[zB,seval,dY,Ce]
  have u:f 1=.int .i64 n:=by subst l;simp only[zB,seval,dY,Ce,Ed]
  have P:f 2=.func (.func fid) [] cs:=by subst l;simp only[zB,seval,dY,Ce,Ed]
  have L:f 6=.ref Y 0:=by subst l;simp only[zB,seval]
  have z:f 8=.ref r8 0:=by subst l;simp only[zB,seval];rw[W]
  clear l
  obtain⟨J,t⟩:∃J:Nat->aB->Prop,J=fun m H'=>∃v,Own H' 36 v (mR y m)/\H'.get r8=some (.cells [.int .i64 n,.int .i64 n,v] false)/\H'.get Y=some (.cells [.int .i64 0,.int .i64 0,.bG] false)/\Q H'/\aY H'/\r8<H'.next:=⟨_,rfl⟩
  have j0:J 0 F:=by rw[t];exact⟨.bG,.nil _ _,c8,c6,ad,cF,c⟩
  refine aP fun K hK=>?_;refine bP ?_;refine Wy ?_;refine bQ ?_;refine bR [] (fun i _ H'=>J (n*i) H') n A0 A1 ?_ ?_ ?_ ?_ ?_
  . exact zq
  . exact zq
  . exact j0
  . rintro i g Ha q E D j0;have k1:g 1=.int .i64 n:=by rw[E 1 rfl];simp only[zB,seval];exact u
    have k2:g 2=.func (.func fid) [] cs:=(by rw[E 2 rfl];simp only[zB,seval];exact P);have k8:g 8=.ref r8 0:=(by rw[E 8 rfl];simp only[zB,seval];exact z);clear E;refine aM ?_;refine bP ?_;simp only[↓zP,zG,seval,D];refine fQ ?_;simp only[↓zP,zG,seval,k1];refine bQ ?_;refine bR [] (fun k _ H'=>J (n*i+k) H') n A0 A1 ?_ ?_ ?_ ?_ ?_
    . exact zq
    . exact zq
    . exact j0
    . rintro k V Hb lO E e2 a;have q2:V 2=.func (.func fid) [] cs:=(by rw[E 2 rfl];simp only[zB,seval];exact k2);have q8:V 8=.ref r8 0:=(by rw[E 8 rfl];simp only[zB,seval];exact k8);have q9:V 9=.int .i64 i:=E 9 rfl;clear E;rw[t] at a;obtain⟨v,S,g8,X,gQ,gF,I⟩:=a;refine aM ?_;refine bP ?_;simp only[↓zP,zG,seval,e2];refine bQ ?_;obtain⟨Hc,S1,o1,ab⟩:=s Hb gQ gF i k q lO;have hp:=ND q lO;have n9:=Lz n3;refine Dz ?_;simp only[↓zP,zJ,seval,zD,q2,q8,q9,g8];refine te (fid:=fid) (fs:=[]) (cs:=cs) A1 (by simp only[iG,zB,seval]) (by simp only[Bw,Er,Cw,iG,zB,seval]) S1 o1.le ?_ ?_
      . intro x C _;rw[Ca] at C;subst C;exact(o1.same r8 I).symm
      have p:=(o1.same r8 I).trans g8;have U:=(o1.same Y A0).trans X;have wQ:=N _ _ gQ (.of o1 A0);have wn:=Au I o1.le;have wo:Own Hc 36 v (mR y (n*i+k)):=vL S o1.le fun j O Z=>by rw[o1.same j O];exact Z
      obtain⟨M,z1,z2,b,r,B⟩:=Has.push (.inr wo) (ys:=[gL (y (n*i+k))]) (bytes:=136) rfl (by rw[jR,As,Bo];omega);have lq:=cZ (y (n*i+k));simp only[↓zP,zJ,seval,zD,q8,p,lq];rw[show dM Hc 36 (.bK 1 36 [gL (y (n*i+k))])=some [gL (y (n*i+k))] from rfl];have y8:=(r r8 wn (by rw[p];simp)).trans p;have y6:=(r Y A0 (by rw[U];simp)).trans U;simp only[z1,bV,zJ,seval,y8,z2];refine⟨by omega,trivial,?_⟩;rw[t,show n*i+(k+1)=(n*i+k)+1 by omega];dsimp only;rw[oj];refine⟨_,.inr ⟨Hc.next,rfl,by simp only[aB.bB];omega,by rw[aB.aD,if_neg A0];exact b⟩,?_⟩;refine⟨by rw[aB.aD,if_pos rfl],by rw[aB.aD,if_neg A0];exact y6,N _ _ wQ ⟨by simp only[aB.bB];omega,fun id O Z=>?_⟩,(B ab).set A0 _,by simp only[aB.bB];omega⟩;rw[aB.aD,if_neg A0];exact r id A0 Z
    rintro V Hb E a;exact a
  rintro g Ha E a;rw[t] at a;obtain⟨v,S,g8,X,gQ,gF,I⟩:=a;have k6:g 6=.ref Y 0:=by rw[E 6 rfl];simp only[zB,seval];exact L
  have k8:g 8=.ref r8 0:=by rw[E 8 rfl];simp only[zB,seval];exact z
  have xx:mR y (n*n)≠[]:=fun h=>by have :=Al List.length h;rw[jR,Bo] at this;have :=Hn n1 n1;omega
  obtain⟨tk,rfl,T,a6⟩:∃tk,v=.bK (tk+2) 36 (mR y (n*n))/\tk<Ha.next/\Ha.get tk=some .tok:=by
   rcases S with ⟨_,h⟩|h
   . exact absurd h xx
   exact h
  have d:∀H,Sg 203 [.bK (tk+2) 36 (mR y (n*n))] H (.ret (.bool true)) H:=fun H=>by
   apply Sound.wu;have e:qD [AV.bK (tk+2) 36 (mR y (n*n))]=[.bK 0 36 (mR y (n*n))]:=(by simp only[qD,wu,aEi]);rw[e];have :=QY hy.1 (by have :=Lz n3;omega) H
   rwa [hy.2] at this
  refine Tx ?_;apply hK;clear hK K;refine bP ?_;simp only[↓zP,zJ,seval,k8,g8];refine eI (d _) ?_;refine Ty ?_;refine fQ ?_;simp only[↓zP,zJ,seval,k6,k8,g8,X];refine bQ ?_;refine Tx ?_;refine⟨rfl,_,by simp only[↓zP,zR,seval,k6];rfl,?_⟩;refine⟨tk,rfl,N _ _ gQ ⟨by simp only[aB.bB];exact Ad _,fun id O Z=>by rw[aB.aD,if_neg A0]⟩,by simp only[aB.bB];exact T,?_,gF.set A0 _⟩;rw[aB.aD,if_neg]
  . exact a6
  rintro rfl;rw[X] at a6
  cases a6)
 exact⟨tk,H',w,h⟩
theorem om{H0:aB}{Q:aB->Prop}(N:∀H H',Q H->Kp H0.next H H'->Q H'){y:Nat->Option Rat}(b:ZB y){fid:FuncId}{cs:List AV}
 (s:∀H,Q H->aY H->∀i k:Nat,i<3->k<3->∃H',Sg fid ([.int .i64 i,.int .i64 k]++cs) H (.ret (.agg (gL (y (3*i+k))))) H'/\Over H H'/\aY H') (G:Q H0) (a:aY H0):
 ∃n H',Sg 117 [.int .i64 3,.int .i64 3,.func (.func fid) [] cs] H0 (.ret (.iV [.agg [.int .i64 3,.int .i64 3,.bK (n+2) 36 (mR y 9)],.int .i64 0])) H'/\Q H'/\n<H'.next/\H'.get n=some .tok:=by
 obtain⟨tk,H',O,Z,B,h4,_⟩:=Xx (n:=3) A1 A1 N b s G a;exact⟨tk,H',O,Z,B,h4⟩
end Go.Proofs.YtogfcjbgeebfkaaGreatDoor
namespace Go.Proofs.YtogfcjbgeebfkaaGreatDoor
open Go Go.Av
def aTq:CW Tryz.f103:=⟨_,dD⟩
theorem bFx:Fi 103 aTq:=dH Tryz.func103 aTq
def aTr:CW Tryz.f105:=⟨_,dD⟩
theorem bFy:Fi 105 aTr:=dH Tryz.func105 aTr
def aTx:CW Tryz.f111:=⟨_,dD⟩
theorem bGe:Fi 111 aTx:=dH Tryz.func111 aTx
def W35:CW Tryz.f35:=⟨_,dD⟩
theorem bQq:Fi 35 W35:=dH Tryz.func35 W35
def W7:CW Tryz.f7:=⟨_,dD⟩
theorem is7:Fi 7 W7:=dH Tryz.func7 W7
end Go.Proofs.YtogfcjbgeebfkaaGreatDoor
namespace Go.Proofs.YtogfcjbgeebfkaaGreatDoor
open Go Go.Av Go.iW Go.aH
attribute [local congr] aZ aQ aR aL bD aU aS aG bE
attribute [local irreducible] FC bS eE
def sdQ(q:aH.V×Int)(x:Nat->Option Rat):Option Rat:=sQ (fun i=>some (q.1.at i:Rat)) x 3
def InQ(S:List (aH.V×Int))(x:Nat->Option Rat):Prop:=∀q∈S,∃y,sdQ q x=some y/\OI (some (q.2:Rat)) (some y)=1
variable{z:Int}
theorem ud{x y:Option Int}(h:oI x y=some z):∃a b,x=some a/\y=some b/\z=a+b:=by
 cases x with
 |none=>cases h
 |some a=>cases y with
  |none=>cases h
  |some b=>exact⟨a,b,rfl,rfl,(NA h).1⟩
theorem My{x y:Option Int}(h:oD x y=some z):∃a b,x=some a/\y=some b/\z=a*b:=by
 cases x with
 |none=>cases h
 |some a=>cases y with
  |none=>cases h
  |some b=>exact⟨a,b,rfl,rfl,(NA h).1⟩
variable{q:Rat}
theorem aGq{n d:Option Int}(h:FK n d=some q):∃a b,n=some a/\d=some b/\b≠0/\q=Rat.divInt a b:=by
 cases n with
 |none=>cases h
 |some a=>cases d with
  |none=>cases h
  |some b=>grind[FK]
theorem Mz{x y:Option Rat}{z:Rat}(h:nX x y=some z):∃a b,x=some a/\y=some b/\z=a*b:=by
 cases x with
 |none=>cases h
 |some a=>cases y with
  |none=>cases h
  |some b=>grind[nX]
theorem ET{x y:Option Rat}{z:Rat}(h:mT x y=some z):∃a b,x=some a/\y=some b/\z=a+b:=by
 cases x with
 |none=>cases h
 |some a=>cases y with
  |none=>cases h
  |some b=>
   refine⟨a,b,rfl,rfl,?_⟩;obtain⟨N,D,O,Z,K,rfl⟩:=aGq h;obtain⟨_,_,B,h4,rfl⟩:=ud O;obtain⟨_,_,T,o,rfl⟩:=My B;obtain⟨_,_,C,k,rfl⟩:=My h4;obtain⟨_,_,Y,t,rfl⟩:=My Z;obtain rfl:=Aa o;obtain rfl:=Aa Y;obtain rfl:=Aa t;have I:((a.den:Nat):Int)≠0:=(by have :=a.den_nz;omega);have X:((b.den:Nat):Int)≠0:=(by have :=b.den_nz;omega);have d:((Int.gcd a.den b.den:Nat):Int)≠0:=fun G=>I (by have :=(Kq (a:=(a.den:Int)) (b:=(b.den:Int))).1 A0;exact this.1);obtain⟨p,m⟩:=Ei (a.den:Int) (b.den:Int);obtain⟨q,j⟩:=Dq (a.den:Int) (b.den:Int);generalize ((Int.gcd a.den b.den:Nat):Int)=g at *;have f:(a.den:Int).fdiv g=p:=(by rw[m,uW d]);have i:(b.den:Int).fdiv g=q:=(by rw[j,uW d]);have c:p*(b.den:Int)≠0:=(by rw[<-f];exact K);rw[f,i]
   have e:a+b=Rat.divInt (a.num*b.den+b.num*a.den) (a.den*b.den):=by
    conv=>lhs;rw[<-Rat.num_divInt_den a,<-Rat.num_divInt_den b]
    rw[Rat.divInt_add_divInt _ _ I X]
   rw[e,Rat.divInt_eq_divInt_iff c (Int.mul_ne_zero I X)]
   grind
variable{x:Nat->Option Rat}{y:Rat}
theorem aIm{q:aH.V×Int}(h:sdQ q x=some y):∃a b c,x 0=some a/\x 1=some b/\x 2=some c/\y=(q.1.x:Rat)*a+(q.1.y:Rat)*b+(q.1.z:Rat)*c:=by obtain⟨s2,d,Z,k2,rfl⟩:=ET h;obtain⟨s1,R,O,k1,rfl⟩:=ET Z;obtain⟨s0,w,G,k0,rfl⟩:=ET O;obtain⟨g,a,Y,D,rfl⟩:=Mz k0;obtain⟨n1,b,T,b0,rfl⟩:=Mz k1;obtain⟨n2,c,o,v,rfl⟩:=Mz k2;obtain rfl:=Aa G;obtain rfl:=Aa Y;obtain rfl:=Aa T;obtain rfl:=Aa o;refine⟨a,b,c,D,b0,v,?_⟩;rw[show((0:Int):Rat)=0 from rfl,Rat.zero_add];rfl
theorem aDj{d:Int}(h:OI (some (d:Rat)) (some y)=1):y<(d:Rat):=by grind[OI,sK,Rat.lt_iff]
theorem InQ.int{S:List (aH.V×Int)}(h:InQ S x){X:aH.V}{w:Int}(L:0<w)(G:∀a,x 0=some a->a=Rat.divInt X.x w)(O:∀a,x 1=some a->a=Rat.divInt X.y w)(Z:∀a,x 2=some a->a=Rat.divInt X.z w):∀q∈S,dot q.1 X<w*q.2:=by
 intro q D;obtain⟨y,Q,R⟩:=h q D;obtain⟨a,b,c,Y,T,o,rfl⟩:=aIm Q;have r:=aDj R;rw[G a Y,O b T,Z c o] at r
 have key:(q.1.x:Rat)*Rat.divInt X.x w+(q.1.y:Rat)*Rat.divInt X.y w+(q.1.z:Rat)*Rat.divInt X.z w=((dot q.1 X:Int):Rat) / (w:Rat):=by
  simp only[Rat.divInt_eq_div,Rat.div_def,dot,Rat.intCast_add,Rat.intCast_mul]
  grind
 rw[key,Rat.div_lt_iff (Rat.intCast_pos.2 L),<-Rat.intCast_mul,Rat.intCast_lt_intCast] at r
 grind
noncomputable def LM (l:List aH.V):List ((aH.V×Int)×List Nat):=(gG l).map fun q=>(q,iX l q)
variable{l:List aH.V}
theorem aNk(h:l.Pairwise jC):Ob (nK l) l.length (LM l) where
 fl:=by
  have e:(LM l).map Prod.fst=gG l:=by unfold LM;rw[Ea];exact Gn _
  rw[e];exact rR l
 po:=by intro e z;obtain⟨q,D,rfl⟩:=Be.1 z;exact(mI h).po q D
theorem To(y:Nat×Nat×Nat->Int):dK y (CM (gG l) (iX l))=dK (fun e=>dK y (kZ e.2)) (LM l):=by simp[CM,LM,BI,EJ]
variable{k:Nat}
theorem aQo(h:k<l.length):nK l k∈l:=by
 have :nK l k=l[k]:=by simp[nK,List.getD,h]
 grind
theorem IsW.c{v:List AV}{x:Nat->Option Rat}(h:IsW v x):∃c,v=c3 c/\(∀i,i<3->lA (c i) (x i))/\∀i,i<3->(c i).length=36:=by obtain⟨c,rfl,R⟩:=h;exact⟨c,rfl,R,fun i F=>(R i F).len⟩
def yN(x y:Option Rat):Option Rat:=match y with
 |some q=>nX x (FK (some (q.den:Int)) (some q.num))
 |none=>none
variable{v:List AV}
theorem qk{w:List AV}{x y:Option Rat}(J:lA v x)(L:lA w y)(H:aB):Sg 66 [.agg v,.agg w] H (.ret (.agg (gL (yN x y)))) H:=by
 refine Sp bLa ZaP Zao ?_ H;unfold W66;dsimp only;simp only[lG];have f:=lS L;have d:=J.len;have Q:=L.len;refine bP ?_;refine Ty ?_;refine bQ ?_;refine aP fun K hK=>?_;have :=oL Q;refine Wy ?_
 cases y with
 |none=>simp only[Ci];have :=qZ;have :=oL (show Rj.length=36 from rfl);have :=oL (show HO.length=36 from rfl);refine Wy ?_;refine⟨rfl,_,by simp only[↓zP,zR,seval,oL (show Rj.length=36 from rfl)];rfl,?_⟩;rfl
 |some q=>
  obtain⟨rfl,N⟩:=L.some;have mk:=vM (.enc (z:=(q.den:Int)) (by simpa using N.2)) (.enc (z:=q.num) N.1);simp only[Bg];refine Ty ?_;apply hK;clear hK K;have j:(cQ q).length=36:=Q;have c:(cQ q).take 18=cI q.num:=by unfold cQ;rw[Ck Zcf];exact(oL (cL _)).2.1
  have a:((cQ q).drop 18).take 18=cI (q.den:Int):=by unfold cQ;rw[Em Zcf,(oL (cL _)).2.2,Cw];exact(oL (cL _)).2.1
  have U:=Lt J (lA.mk (.enc (z:=(q.den:Int)) (by simpa using N.2)) (.enc (z:=q.num) N.1));have E:=oL (cZ (yN x (some q)));refine bP ?_;refine Dz ?_;have :=oL d;refine Wz ?_;rw[show nX x (FK (some (q.den:Int)) (some q.num))=yN x (some q) from rfl];simp only[↓zP,zJ,seval,zD,E,oL (show HO.length=36 from rfl)];exact ZaD
noncomputable def vo (l:List aH.V):Option Int:=aJt l (gG l) (iX l)
noncomputable def ce (l:List aH.V):Nat->Option Rat:=bNo l (gG l) (iX l)
theorem bDi(h:qC l=0)(H:aB):Sg 58 [.agg [.bK 0 3 (bU l)]] H (.ret (.agg (cO (vo l)))) H:=by obtain⟨s,_,n,_,U,_,f⟩:=rM h;exact ZZ (tag:=0) rfl f (Ad _) U (mI s) n (CS s) H
def Pok(ls:List (List aH.V)):Prop:=ls.length<=8/\∀l∈ls,qC l=0
def pE(ls:List (List aH.V)):List (List AV):=ls.map fun l=>[.bK 0 3 (bU l)]
theorem NC(ls:List (List aH.V)):(pE ls).length=ls.length:=by simp[pE]
variable{ls:List (List aH.V)}
theorem fg(h:k<ls.length):(pE ls).getD k []=[.bK 0 3 (bU ls[k])]:=by simp[pE,List.getD,h]
theorem pt:∀ls:List (List aH.V),fK (pE ls)=true
 |[]=>rfl
 |l::ls=>by have :=pt ls;simp only[pE,Bw,sf,cT (tag:=0) rfl] at *;rw[this]
def bd(name:List UInt8)(ls:List (List aH.V))(w R B r1:Int):List AV:=iQ name (.bK 0 1 (pE ls)) w R B r1
theorem Oe(name:List UInt8)(ls:List (List aH.V))(w R B r1:Int):cP (bd name ls w R B r1)=true:=by simp only[bd,iQ,sf,pt]
noncomputable def JU (ls:List (List aH.V)):Option Int:=wK vo ls
theorem aBc(ls:List (List aH.V)){k:Nat}(h:k<ls.length):JU (ls.take (k+1))=oI (JU (ls.take k)) (vo ls[k]):=by unfold JU;rw[Ao,Ai h];exact FW _ _ _
theorem aLs{name:List UInt8}(m:Pok ls)(w R B r1:Int)(H:aB):Sg 13 [.agg (bd name ls w R B r1)] H (.ret (.agg (cO (JU ls)))) H:=by
 refine So bGn (by simp only[sf,Oe]) ?_ H;unfold W13;dsimp only;have t:=uP (z:=0) A1 A1;have l:=cL 0;have lo:∀x,(cO x).length=18:=fun x=>mG x;have p:(bd name ls w R B r1).length=6:=rfl;have b1:(bd name ls w R B r1).getD 1 aC=.bK 0 1 (pE ls):=rfl;have A:=m.1;generalize bd name ls w R B r1=o at *;refine bP ?_;refine Tz ?_;refine fQ ?_;have :=oL NP;refine Wz ?_;refine bQ ?_;generalize hX:aB.set _ 2 _=c;have D:=Kv (i:=0) hX;have a1:=Kv (i:=1) hX;have k:c.get 2=some (.cells (cO (JU (ls.take 0))) false):=by subst hX;simp only[zI,seval];rfl
 have a:3<=c.next:=by subst hX;exact Ad _
 clear hX;refine cC fun f N=>?_;have n:=Kf (i:=1) N;have P:=Kf (i:=2) N;have S:=Kf (i:=3) N;clear N;refine aP fun K hK=>?_;refine bP ?_;have := @NC;refine Wy ?_;refine bQ ?_;refine bR [] (fun i _ H'=>H'.get 1=some (.cells (.bool false::.bool false::wC zs) false)/\H'.get 2=some (.cells (cO (JU (ls.take i))) false)/\3<=H'.next) ls.length A0 A1 ?_ ?_ ?_ ?_ ?_
 . exact zq
 . exact zq
 . exact⟨a1,k,a⟩
 . rintro i u H1 F E T ⟨g,e,I⟩;have k3:u 3=.ref 2 0:=by rw[E 3 rfl];simp only[zB,seval];exact S
   have k8:u 8=.bK 0 1 (pE ls):=E 8 rfl;have d:=fg F;have J:=bDi (m.2 _ (Ag F));have q:=xB (eJ.wK vo (ls.take i)) (show eJ (cO (vo ls[i])) (vo ls[i]) from eJ.wK _ _);rw[aBc ls F];rw[show oI (wK vo (ls.take i)) (vo ls[i])=oI (JU (ls.take i)) (vo ls[i]) from rfl] at q;rw[show wK vo (ls.take i)=JU (ls.take i) from rfl] at q;generalize JU (ls.take i)=x at *;generalize vo ls[i]=y at *;have L:∀v:AV,[v].length=1:=fun _=>rfl;refine aM ?_;refine bP ?_;simp only[↓zP,zJ,seval,T,k8,aI,NC,F,d];refine bQ ?_;generalize hX:(H1.alloc _).set H1.next _=G;have h:=Ku hX g;have j:=Ku hX e;have b:=Kz hX;have un:3<=G.next:=Zau;clear hX;generalize H1.next=r at *;refine Dz ?_;simp only[↓zP,zJ,seval,zD,k3,j,b,lo,oL (lo x)];refine gV (J _) ?_;simp only[seval];refine gV (q _) ?_;simp only[↓zP,zJ,seval,zD,k3,h,j,lo,oL (lo x)];exact un
 rintro u H1 E ⟨g,e,I⟩;rw[Ap] at e;have k2:u 2=.ref 1 0:=by rw[E 2 rfl];simp only[zB,seval];exact P
 have k3:u 3=.ref 2 0:=by rw[E 3 rfl];simp only[zB,seval];exact S
 refine Tx ?_;apply hK;clear hK K;generalize JU ls=x at *;refine Wz ?_;refine⟨rfl,_,by simp only[↓zP,zR,seval,k2,oL (lo x)];rfl,?_⟩;rfl
def aQe{α:Type}(x:α->Option Rat)(T:List α):Option Rat:=T.foldl (fun s t=>mT s (x t)) (some ((0:Int):Rat))
variable{α:Type}
theorem lA.aQe{x:α->Option Rat}(C:∀t,lA (gL (x t)) (x t)):∀(T:List α) (s:Option Rat),lA (gL s) s->lA (gL (T.foldl (fun s t=>mT s (x t)) s)) (T.foldl (fun s t=>mT s (x t)) s)
 |[],s,h=>h
 |t::T,s,h=>lA.aQe C T _ (.add h (C t))
noncomputable def shQ (i:Nat) (l:List aH.V):Option Rat:=nX (FK (vo l) (some 1)) (ce l i)
noncomputable def smB (ls:List (List aH.V)) (i:Nat):Option Rat:=aQe (shQ i) ls
theorem lA.sm(ls:List (List aH.V))(i:Nat):lA (gL (smB ls i)) (smB ls i):=lA.aQe (fun t=>.mul) ls _ (.int A1 A1)
theorem Sj{a b:Int}(X:b≠0):(Rat.divInt a b).num.natAbs<=a.natAbs/\(Rat.divInt a b).den<=b.natAbs:=by obtain⟨G,O,Z⟩:=Qe (n:=a) X;refine⟨by rw[<-O];exact(uV G).1,?_⟩;have :=(uV (x:=b) G).1;omega
def Bq(q:Rat)(a b:Nat):Prop:=q.num.natAbs<=2^a/\q.den<=2^b
theorem bCq(n:Nat){a:Nat}(h:a<32*n):2^a<W^n:=by rw[show W=2^32 from rfl,<-Nat.pow_mul];exact Nat.pow_lt_pow_right A1 h
variable{a:Nat}
theorem aHl(h:a<=511):2^a<W^16:=bCq 16 A0
variable{b:Nat}
theorem Bq.fit(h:Bq q a b)(I:a<=511)(X:b<=511):tP q:=
 ⟨Bv h.1 (aHl I),Bv h.2 (aHl X)⟩
variable{d c:Nat}
theorem Bq.mono(h:Bq q a b)(I:a<=c)(X:b<=d):Bq q c d:=
 ⟨Aw h.1 (Bu A1 I),Aw h.2 (Bu A1 X)⟩
variable{n:Int}
theorem Bq.divInt{d:Int}(hd:d≠0)(O:n.natAbs<=2^a)(Z:d.natAbs<=2^b):Bq (Rat.divInt n d) a b:=
 ⟨Aw (Sj hd).1 O,Aw (Sj hd).2 Z⟩
theorem Bq.int(h:n.natAbs<=2^a):Bq (n:Rat) a 0:=⟨h,Ad _⟩
theorem AM(x:Rat):((x.den:Nat):Int)≠0:=by have :=x.den_nz;omega
theorem gK{x y:Int}{A B:Nat}(h:x.natAbs<=A)(k:y.natAbs<=B):(x*y).natAbs<=A*B:=by rw[Ew];exact Az h k
variable{x:Rat}
theorem Bq.mul(C:Bq x a b)(Q:Bq y c d):Bq (x*y) (a+c) (b+d):=by
 have e:x*y=Rat.divInt (x.num*y.num) (x.den*y.den):=by
  conv=>lhs;rw[<-Rat.num_divInt_den x,<-Rat.num_divInt_den y]
  rw[Rat.divInt_mul_divInt]
 rw[e,];refine .divInt (Int.mul_ne_zero (AM x) (AM y)) ?_ ?_
 . rw[Ee];exact gK C.1 Q.1
 rw[Ee];exact gK (by simpa using C.2) Zbv
theorem Bq.add{e:Nat}(C:Bq x a b)(Q:Bq y c d)(O:a+d<e)(Z:c+b<e):Bq (x+y) e (b+d):=by
 have eq:x+y=Rat.divInt (x.num*y.den+y.num*x.den) (x.den*y.den):=by
  conv=>lhs;rw[<-Rat.num_divInt_den x,<-Rat.num_divInt_den y]
  rw[Rat.divInt_add_divInt _ _ (AM x) (AM y)]
 rw[eq];refine .divInt (Int.mul_ne_zero (AM x) (AM y)) ?_ ?_
 . have p1:(x.num*y.den).natAbs<=2^a*2^d:=gK C.1 Zbv;have p2:(y.num*x.den).natAbs<=2^c*2^b:=gK Q.1 (by simpa using C.2);rw[<-Ee] at p1 p2;obtain⟨o,rfl⟩:∃o,e=o+1:=⟨e -1,by omega⟩;have q1:2^(a+d)<=2^o:=Bu A1 A0;have q2:2^(c+b)<=2^o:=Bu A1 A0;omega
 rw[Ee];exact gK (by simpa using C.2) Zbv
theorem Bq.neg(h:Bq x a b):Bq (-x) a b:=⟨by rw[Rat.neg_num,Ja];exact h.1,by exact h.2⟩
theorem norm_le(h:z.natAbs<=2^a)(I:a<=511):norm z=some z:=by unfold norm;rw[if_pos (Bv h (aHl I))]
theorem qX(C:Bq x a b)(Q:Bq y c d)(O:a+c<=511)(Z:b+d<=511):nX (some x) (some y)=some (x*y):=by simp only[nX];rw[if_pos ((C.mul Q).fit O Z)]
theorem DF(a b:Nat):((a:Int).fdiv (Int.gcd a b)).natAbs<=a:=by have :(Int.gcd a b:Int)=((Nat.gcd a b:Nat):Int):=rfl;rw[this,Int.fdiv_eq_ediv_of_nonneg _ A0,<-Int.natCast_ediv,Cs];exact Fq _ _
theorem CL(C:Bq x a b)(Q:Bq y c d)(O:a+d<=510)(Z:c+b<=510)(B:b+d<=511):mT (some x) (some y)=some (x+y):=by
 have p1:(x.num*((y.den:Int).fdiv (Int.gcd x.den y.den))).natAbs<=2^(a+d):=by rw[Ee,Int.gcd_comm];exact gK C.1 (Aw (DF _ _) Q.2)
 have p2:(y.num*((x.den:Int).fdiv (Int.gcd x.den y.den))).natAbs<=2^(c+b):=by rw[Ee];exact gK Q.1 (Aw (DF _ _) C.2)
 have P:(((x.den:Int).fdiv (Int.gcd x.den y.den))*(y.den:Int)).natAbs<=2^(b+d):=by rw[Ee];exact gK (Aw (DF _ _) C.2) Zbv
 obtain⟨e,h⟩:∃e,e=510:=⟨_,rfl⟩
 have X:(x.num*((y.den:Int).fdiv (Int.gcd x.den y.den))+y.num*((x.den:Int).fdiv (Int.gcd x.den y.den))).natAbs<=2^(e+1):=by have q1:2^(a+d)<=2^e:=Bu A1 A0;have q2:2^(c+b)<=2^e:=Bu A1 A0;omega
 have hd:((x.den:Int).fdiv (Int.gcd x.den y.den))*(y.den:Int)≠0:=by refine Int.mul_ne_zero (fun G=>?_) (AM y);obtain⟨k,E⟩:=Ei (x.den:Int) (y.den:Int);generalize ((Int.gcd x.den y.den:Nat):Int)=g at *;have f:g≠0:=fun G=>AM x (by rw[E,G,Js]);rw[E,uW f] at G;exact AM x (by rw[E,G,Fu])
 have :∃z,mT (some x) (some y)=some z:=by simp only[mT,oD,oI,norm_le p1 (Aw O A1),norm_le p2 (Aw Z A1),norm_le P B,norm_le X A0,FK];rw[if_neg hd];exact⟨_,rfl⟩
 obtain⟨z,s⟩:=this;obtain⟨_,_,T,o,rfl⟩:=ET s;obtain rfl:=Aa T;obtain rfl:=Aa o;exact s
theorem KO(C:Bq x a b)(Q:Bq y c d)(G:y≠0)(O:a+d<=511)(Z:b+c<=511):yN (some x) (some y)=some (x / y):=by
 have A:y.num≠0:=fun h=>G (Rat.num_eq_zero.1 h)
 have e:FK (some (y.den:Int)) (some y.num)=some y⁻¹ :=by simp[FK,if_neg,A,Rat.inv_def]
 have F:Bq y⁻¹ d c:=by rw[Rat.inv_def];exact .divInt A Zbv Q.1
 simp only[yN,e];rw[qX C F O Z,Rat.div_def]
theorem RQ{x:α->Option Int}{y:α->Int}(I:a<=511){B:Nat}{T:List α}(h:∀t∈T,x t=some (y t))(r:∀t∈T,(y t).natAbs<=B)(A:T.length*B<=2^a):wK x T=some (dK y T):=by
 have b:∀(T:List α) (s:Int),(∀t∈T,x t=some (y t))->(∀t∈T,(y t).natAbs<=B)->s.natAbs+T.length*B<=2^a->T.foldl (fun s t=>oI s (x t)) (some s)=some (s+dK y T):=by
  intro T
  induction T with
  |nil=>simp[dK]
  |cons t T K=>intro s h r A;have O:=r t Ay;rw[As,Cy] at A;have e:oI (some s) (some (y t))=some (s+y t):=norm_le (a:=a) A0 I;rw[List.foldl_cons,h t Ay,e,K _ (fun u c=>h u (Ax _ c)) (fun u c=>r u (Ax _ c)) A0];simp only[dK];congr 1;omega
 have :=b T 0 h r (by simpa using A);rw[Int.zero_add] at this;exact this
def eh:Option Rat->Option Rat
 |some x=>some (-x)
 |none=>none
def SN(x y:Option Rat):Option Rat:=mT x (eh y)
theorem RP(C:Bq x a b)(Q:Bq y c d)(O:a+d<=510)(Z:c+b<=510)(B:b+d<=511):SN (some x) (some y)=some (x -y):=by show mT (some x) (some (-y))=_;rw[CL C Q.neg O Z B,Rat.sub_eq_add_neg]
theorem Bq.sub{e:Nat}(C:Bq x a b)(Q:Bq y c d)(O:a+d<e)(Z:c+b<e):Bq (x -y) e (b+d):=by rw[Rat.sub_eq_add_neg];exact C.add Q.neg O Z
theorem kj(q:Rat):(cQ q).take 18=cI q.num/\((cQ q).drop 18).take 18=cI (q.den:Int):=by refine⟨by unfold cQ;rw[Ck Zcf];exact(oL (cL _)).2.1,?_⟩;unfold cQ;rw[Em Zcf,(oL (cL _)).2.2,Cw];exact(oL (cL _)).2.1
theorem aGs(h:tP q):tP (-q):=⟨by rw[Rat.neg_num,Ja];exact h.1,by rw[Rat.neg_den];exact h.2⟩
variable{x:Option Rat}
theorem lA.neg(h:lA v x):lA (gL (eh x)) (eh x):=by
 cases x with
 |none=>exact .bad
 |some q=>exact .enc (aGs h.some.2)
theorem aPp(J:lA v x)(H:aB):Sg 105 [.agg v] H (.ret (.agg (gL (eh x)))) H:=by
 refine Sp bFy Zby Zao ?_ H;unfold aTr;dsimp only;simp only[lG];have f:=lS J;have d:=J.len;refine bP ?_;refine Ty ?_;refine bQ ?_;refine aP fun K hK=>?_;have :=oL d;refine Wy ?_
 cases x with
 |none=>simp only[Ci];have :=qZ;have :=oL (show Rj.length=36 from rfl);have :=oL (show HO.length=36 from rfl);refine Wy ?_;refine⟨rfl,_,by simp only[↓zP,zR,seval,oL (show Rj.length=36 from rfl)];rfl,?_⟩;rfl
 |some q=>
  obtain⟨rfl,N⟩:=J.some;have o:=PM (eJ.enc (z:=q.num) N.1);obtain⟨c,a⟩:=kj q;simp only[Bg];refine Ty ?_;apply hK;clear hK K;have j:(cQ q).length=36:=d;have lo:=mG (wH (some q.num));have b:=cL (q.den:Int)
  have e:cO (wH (some q.num))++cI (q.den:Int)=gL (eh (some q)):=by show cI (-q.num)++_=cI (-q).num++cI ((-q).den:Int);rw[Rat.neg_num,Rat.neg_den]
  have E:=oL (cZ (eh (some q)));refine bP ?_;refine Dz ?_;refine Wz ?_;have b1:(cO (wH (some q.num))++List.drop 18 HO).length=36:=by rw[Aq,lo];rfl
  have b2:List.take 18 (cO (wH (some q.num))++List.drop 18 HO)=cO (wH (some q.num)):=by rw[<-lo,List.take_left]
  have D:List.drop 36 (cO (wH (some q.num))++List.drop 18 HO)=[]:=Bl A0;simp only[↓zP,zJ,seval,zD,j,a,lo,b,b1,b2,D,e,E,oL (show HO.length=36 from rfl)];exact ZaD
variable{y:Option Rat}
theorem aPq{w:List AV}(J:lA v x)(L:lA w y)(H:aB):Sg 103 [.agg v,.agg w] H (.ret (.agg (gL (SN x y)))) H:=by refine Sp bFx ZaP Zao ?_ H;unfold aTq;dsimp only;simp only[lG];have o:=aPp L;have C:=Ls J L.neg;rw[show mT x (eh y)=SN x y from rfl] at C;have d:=J.len;have Q:=L.len;have E:=oL (cZ (SN x y));refine bP ?_;refine Ty ?_;refine fQ ?_;refine Dz ?_;have :=oL d;have :=oL Q;have :=oL (show HO.length=36 from rfl);refine Wz ?_;refine bQ ?_;refine Tx ?_;refine⟨rfl,_,by simp only[↓zP,zR,seval,E];rfl,?_⟩;rfl
def zX:Option Rat->Int
 |some q=>iI (some q.num)
 |none=>0
theorem Qv(J:lA v x)(H:aB):Sg 111 [.agg v] H (.ret (.int .i64 (zX x))) H:=by
 refine So bGe Zby ?_ H;unfold aTx;dsimp only;have f:=lS J;have d:=J.len;refine bP ?_;refine Ty ?_;refine bQ ?_;refine aP fun K hK=>?_;have :=oL d;refine Wy ?_
 cases x with
 |none=>simp only[Ci];refine Ty ?_;refine Rx ?_;rfl
 |some q=>obtain⟨rfl,N⟩:=J.some;have sg:=tR (eJ.enc (z:=q.num) N.1);obtain⟨c,a⟩:=kj q;simp only[Bg];refine Ty ?_;apply hK;clear hK K;have j:(cQ q).length=36:=d;refine Wz ?_;refine Rx ?_;rfl
theorem aEm{sz:Nat}:∀{els:List (List AV)} {k:Nat} {x:List AV},(∀e∈els,e.length=sz)->k<els.length->x.length=sz->els.flatten.take (k*sz)++x++els.flatten.drop (k*sz+sz)=(els.set k x).flatten
 |[],_,_,_,h,_=>absurd h (Am _)
 |e::els,0,x,hl,_,hx=>by have z:=hl e Ay;simp[<-z]
 |e::els,k+1,x,hl,hk,hx=>by have z:=hl e Ay;have K:=aEm (els:=els) (k:=k) (x:=x) (fun y Q=>hl y (Ax _ Q)) (by simpa using hk) hx;rw[List.set_cons_succ,Cb,Cb,<-K,show(k+1)*sz=e.length+k*sz by rw[Cy,z];omega,Bm,List.take_length_add_append,Iv];simp only[Di]
theorem aRg{sz:Nat}:∀{els:List (List AV)} {k:Nat},(∀e∈els,e.length=sz)->k<els.length->(els.flatten.drop (k*sz)).take sz=els.getD k []
 |[],_,_,h=>absurd h (Am _)
 |e::els,0,hl,_=>by have z:=hl e Ay;simp[<-z]
 |e::els,k+1,hl,hk=>by have z:=hl e Ay;have K:=aRg (els:=els) (k:=k) (fun y Q=>hl y (Ax _ Q)) (by simpa using hk);rw[Cb,show(k+1)*sz=e.length+k*sz by rw[Cy,z];omega,Iv,K];rfl
def mF(x:Nat->Option Rat)(n:Nat):List AV:=(mR x n).flatten
theorem Xw(x:Nat->Option Rat)(n:Nat):∀e∈mR x n,e.length=36:=fun e z=>by obtain⟨p,_,rfl⟩:=Be.1 z;exact cZ _
theorem dm(x:Nat->Option Rat)(n:Nat):(mF x n).length=n*36:=by
 have :∀{els:List (List AV)},(∀e∈els,e.length=36)->els.flatten.length=els.length*36:=fun {els}=>by
  induction els with
  |nil=>intro _;rfl
  |cons e els K=>intro h;rw[Cb,Aq,K fun y Q=>h y (Ax _ Q),h e Ay,As,Cy,Iu]
 rw[mF,this (Xw x n),jR]
variable{x:Nat->Option Rat}{n:Nat}
theorem bMc{p:Nat}(h:p<n):((mF x n).drop (p*36)).take 36=gL (x p):=by rw[mF,aRg (Xw x n) (by rw[jR];exact h),VN x h]
theorem bBz{p:Nat}(h:p<n)(v:Option Rat):gH (mF x n) (p*36) (gL v)=mF (fun q=>if q=p then v else x q) n:=by
 unfold gH;rw[cZ,mF,aEm (Xw x n) (by rw[jR];exact h) (cZ v)];unfold mF;congr 1;refine Et (by rw[Il,jR,jR]) fun i O Z=>?_;rw[List.getElem_set];simp only[mR,Dv,Gt];by_cases e:p=i
 . rw[if_pos e,if_pos e.symm]
 rw[if_neg e,if_neg (Ne.symm e)]
theorem aGh{y:Nat->Option Rat}(h:∀p,p<n->x p=y p):mF x n=mF y n:=by unfold mF mR;congr 1;exact Dk fun p m=>by rw[h p (Bb.1 m)]
def fl(n:Nat)(x:Nat->Nat->Option Rat)(p:Nat):Option Rat:=x (p / n) (p%n)
variable{i j:Nat}
theorem aRh(x:Nat->Nat->Option Rat)(Y:j<n):fl n x (n*i+j)=x i j:=by unfold fl;rw[Ju A0,Ij,Dg Y,Bk Y,Cv]
def ups(x:Nat->Nat->Option Rat)(i j:Nat)(v:Option Rat)(a b:Nat):Option Rat:=if a=i/\b=j then v else x a b
theorem qg(Y:j<n):(a=n*i+j)↔(a / n=i/\a%n=j):=by
 constructor
 . rintro rfl;rw[Ju A0,Ij,Dg Y,Bk Y,Cv];exact Za1
 rintro⟨rfl,rfl⟩;exact(Dt a n).symm
theorem aZe(x:Nat->Nat->Option Rat)(Y:j<n)(v:Option Rat):(fun q=>if q=n*i+j then v else fl n x q)=fl n (ups x i j v):=by
 funext q;unfold fl ups;by_cases h:q=n*i+j
 . rw[if_pos h,if_pos ((qg Y).1 h)]
 rw[if_neg h,if_neg fun e=>h ((qg Y).2 e)]
def vW(H:aB)(id n:Nat)(x:Nat->Nat->Option Rat):Prop:=H.get id=some (.cells (mF (fl n x) (n*n)) true)
def JX(id n i:Nat):AV:=.sl id 36 (n*i*36) n n
theorem jh(n i j:Nat):n*i*36+j*36=(n*i+j)*36:=by rw[Bn]
variable{x:Nat->Nat->Option Rat}
theorem IH(F:i<n)(Y:j<n):((mF (fl n x) (n*n)).drop (n*i*36+j*36)).take 36=gL (x i j):=by rw[jh,bMc (ND F Y),aRh x Y]
theorem CP(F:i<n)(Y:j<n):n*i*36+j*36+36<=(mF (fl n x) (n*n)).length:=by have :=ND F Y;rw[dm];omega
theorem kh(F:i<n)(Y:j<n)(v:Option Rat):gH (mF (fl n x) (n*n)) (n*i*36+j*36) (gL v)=mF (fl n (ups x i j v)) (n*n):=by rw[jh,bBz (ND F Y),aZe x Y]
theorem SZ{y:Nat->Nat->Option Rat}(h:∀i j,i<n->j<n->x i j=y i j):mF (fl n x) (n*n)=mF (fl n y) (n*n):=
 aGh fun p m=>by
  have A:0<n:=by rcases Fy n with e|e;rw[e] at m;omega;exact e
  exact h _ _ (Kh m) (Bz _ A)
def Ow(a n:Nat):List (List AV):=(List.range n).map fun i=>[JX a n i]
theorem Vm(a n:Nat):(Ow a n).length=n:=by simp[Ow]
theorem Ox(a:Nat){n i:Nat}(h:i<n):(Ow a n).getD i []=[JX a n i]:=by simp[Ow,List.getD,h]
theorem aIk(a n i:Nat):(List.range (i+1)).map (fun i=>[JX a n i])=(List.range i).map (fun i=>[JX a n i])++[[JX a n i]]:=by rw[Dh,Cg];rfl
theorem lA.div{x:Option Rat}:lA (gL (yN x y)) (yN x y):=by
 unfold yN;cases y
 . exact .bad
 exact .mul
end Go.Proofs.YtogfcjbgeebfkaaGreatDoor
namespace Go.Proofs.YtogfcjbgeebfkaaGreatDoor
open Go Go.Av
def W45:CW Tryz.f45:=⟨_,dD⟩
theorem bQv:Fi 45 W45:=dH Tryz.func45 W45
def aUa:CW Tryz.f118:=⟨_,dD⟩
theorem bGh:Fi 118 aUa:=dH Tryz.func118 aUa
def aUb:CW Tryz.f119:=⟨_,dD⟩
theorem bGi:Fi 119 aUb:=dH Tryz.func119 aUb
def aVr:CW Tryz.f204:=⟨_,dD⟩
theorem bIa:Fi 204 aVr:=dH Tryz.func204 aVr
def aXg:CW Tryz.f263:=⟨_,dD⟩
theorem bJp:Fi 263 aXg:=dH Tryz.func263 aXg
def aXf:{x // xT Tryz.prog gv true Tryz.f262=some x}:=⟨_,dD⟩
theorem bJo:gX Tryz.prog gv true 262 aXf.1:=dT Tryz.func262 (by kernel_rfl) aXf.2
def aXw:CW Tryz.f296:=⟨_,dD⟩
theorem bKf:Fi 296 aXw:=dH Tryz.func296 aXw
def aYf:CW Tryz.f325:=⟨_,dD⟩
theorem bKp:Fi 325 aYf:=dH Tryz.func325 aYf
def aXx:CW Tryz.f297:=⟨_,dD⟩
theorem bKg:Fi 297 aXx:=dH Tryz.func297 aXx
def aYg:CW Tryz.f326:=⟨_,dD⟩
theorem bKq:Fi 326 aYg:=dH Tryz.func326 aYg
def aXy:CW Tryz.f298:=⟨_,dD⟩
theorem bKh:Fi 298 aXy:=dH Tryz.func298 aXy
def aXz:CW Tryz.f299:=⟨_,dD⟩
theorem bKi:Fi 299 aXz:=dH Tryz.func299 aXz
def aYb:CW Tryz.f300:=⟨_,dD⟩
theorem bKl:Fi 300 aYb:=dH Tryz.func300 aYb
def aYc:CW Tryz.f301:=⟨_,dD⟩
theorem bKm:Fi 301 aYc:=dH Tryz.func301 aYc
def aYd:CW Tryz.f302:=⟨_,dD⟩
theorem bKn:Fi 302 aYd:=dH Tryz.func302 aYd
end Go.Proofs.YtogfcjbgeebfkaaGreatDoor
namespace Go.Proofs.YtogfcjbgeebfkaaGreatDoor
open Go Go.Av Go.iW Go.aH
attribute [local congr] aZ aQ aR aL bD aU aS aG bE
attribute [local irreducible] FC bS eE
variable{a n i k:Nat}{x:Nat->Nat->Option Rat}
theorem aPj{r:Nat}(F:i<n)(E:k<n)(C:lA (gL (x i k)) (x i k)){H:aB}(b:vW H a n x)(V:H.get r=some (.cells [.int .i64 k] false)):
 Sg 299 [JX a n i,.ref r 0] H (.ret (.bool (zX (x i k) != 0))) H:=by
 have T:=IH (x:=x) F E;have c:=CP (x:=x) F E;have d:=jh n i k;have sg:=Qv C;have Z:=oL (cZ (x i k));unfold vW at b
 obtain⟨_,H',⟨rfl,rfl⟩,w⟩:=bZ (R:=fun o H'=>o=.ret (.bool (zX (x i k) != 0))/\H'=H) fit bKi (args:=[JX a n i,.ref r 0]) (H:=H) (Ab rfl) (by
  unfold aXz JX;dsimp only;generalize mF (fl n x) (n*n)=cs at *;generalize n*i*36=off at *;refine bP ?_;refine Tz ?_;refine fQ ?_;simp only[↓zP,zJ,seval,V,b,aI,E,T,c];refine eI (sg _) ?_;refine Tz ?_;refine bQ ?_;refine Tx ?_;refine Rx ?_
  exact⟨rfl,rfl⟩)
 exact w
variable{els:List (List AV)}
theorem aNl{r tag:Nat}(G:els.getD 0 []=[JX a n i])(U:0<els.length)(O:els.length<2^30)(F:i<n)(E:k<n)(C:lA (gL (x i k)) (x i k))(s:zX (x i k)≠0){H:aB}(d:vW H a n x)(V:H.get r=some (.cells [.int .i64 k] false)):
 Sg 298 [.bK tag 1 els,.func (.func 299) [] [.ref r 0]] H (.ret (.int .i64 0)) H:=by
 have b:=aPj F E C d V;have X:(zX (x i k) != 0)=true:=by simpa using s
 rw[X] at b
 obtain⟨_,H',⟨rfl,rfl⟩,w⟩:=bZ (R:=fun o H'=>o=.ret (.int .i64 0)/\H'=H) fit bKh (args:=[.bK tag 1 els,.func (.func 299) [] [.ref r 0]]) (H:=H) (Ab rfl) (by
  unfold aXy;dsimp only;refine bP ?_;refine Tz ?_;refine bQ ?_;refine aP fun K hK=>?_;refine bP ?_;refine Ty ?_;refine bQ ?_;refine bR [] (fun j _ H'=>j=0/\H'=H) els.length A0 A1 ?_ ?_ ?_ ?_ ?_
  . exact zq
  . exact zq
  . exact Za1
  . rintro j f H1 Y q T ⟨rfl,rfl⟩;have k0:f 0=.bK tag 1 els:=by rw[q 0 rfl];simp only[zB,seval,dY,Ce]
    have k1:f 1=.func (.func 299) [] [.ref r 0]:=(by rw[q 1 rfl];simp only[zB,seval,dY,Ce,Ed]);refine aM ?_;refine bP ?_;refine Wy ?_;refine fQ ?_;have c:((0:Nat):Int)=0:=rfl;refine Wy ?_;refine nM A1 (fs:=[]) (cs:=[.ref r 0]) (fid:=299) zq (by simp only[Bw,Er,zB,seval,Cw,Fe]) b ?_;refine Tx ?_;refine bQ ?_;refine Tz ?_;refine Rx ?_;exact Za1
  rintro f H1 q ⟨Y,_⟩
  omega)
 exact w
def UY(x:Nat->Nat->Option Rat)(i:Nat)(v:Nat->Option Rat)(j p q:Nat):Option Rat:=if p=i/\q<j then v q else x p q
theorem aDh(x:Nat->Nat->Option Rat)(i:Nat)(v:Nat->Option Rat)(j:Nat):ups (UY x i v j) i j (v j)=UY x i v (j+1):=by
 funext p q;unfold ups UY;by_cases h:p=i/\q=j
 . rw[if_pos h,if_pos ⟨h.1,by omega⟩,h.2]
 rw[if_neg h];by_cases Z:p=i/\q<j
 . rw[if_pos Z,if_pos ⟨Z.1,by omega⟩]
 rw[if_neg Z,if_neg fun B=>by
  by_cases e:q=j
  . exact h ⟨B.1,e⟩
  exact Z ⟨B.1,by omega⟩]
def SP(a:Nat)(H H':aB):Prop:=H.next<=H'.next/\∀j,j<H.next->j≠a->H'.get j=H.get j
theorem SP.refl(a:Nat)(H:aB):SP a H H:=⟨Ad _,fun _ _ _=>rfl⟩
variable{H:aB}
theorem SP.of{H1 H2:aB}(h:SP a H H1)(o:Over H1 H2):SP a H H2:=⟨Aw h.1 o.le,fun j O Z=>(o.same j (Au O h.1)).trans (h.2 j O Z)⟩
theorem SP.trans{H1 H2:aB}(h:SP a H H1)(o:SP a H1 H2):SP a H H2:=⟨Aw h.1 o.1,fun j O Z=>(o.2 j (Au O h.1) Z).trans (h.2 j O Z)⟩
variable{H':aB}
theorem vW.over(h:vW H a n x)(o:Over H H')(I:a<H.next):vW H' a n x:=(o.same a I).trans h
theorem Se{v:Nat->Option Rat}{fid:FuncId}{cs:List AV}(F:i<n)(J:n<=3){H:aB}(I:a<H.next)(r:vW H a n x)(u:aY H)
 (s:∀j,j<n->∀H1,SP a H H1->vW H1 a n (UY x i v j)->aY H1->∃H2,Sg fid ([.int .i64 j]++cs) H1 (.ret (.agg (gL (v j)))) H2/\Over H1 H2/\aY H2):
 ∃H',Sg 300 [JX a n i,.func (.func fid) [] cs] H (.ret (.iV [])) H'/\SP a H H'/\vW H' a n (fun p q=>if p=i then v q else x p q)/\aY H':=by
 obtain⟨_,H',⟨rfl,h⟩,w⟩:=bZ (R:=fun o H'=>o=.ret (.iV [])/\SP a H H'/\vW H' a n (fun p q=>if p=i then v q else x p q)/\aY H') fit bKl (args:=[JX a n i,.func (.func fid) [] cs]) (H:=H) (Ab rfl) (by
  unfold aYb JX;dsimp only;refine bP ?_;refine Ty ?_;refine bQ ?_;refine bR [] (fun j _ H'=>SP a H H'/\vW H' a n (UY x i v j)/\aY H') n A0 A1 ?_ ?_ ?_ ?_ ?_
  . exact zq
  . exact zq
  . refine⟨.refl _ _,?_,u⟩;have :UY x i v 0=x:=by funext p q;unfold UY;rw[if_neg A0]
    rw[this];exact r
  . rintro j f H1 Y E T ⟨b1,b,W⟩;have k0:f 0=.sl a 36 (n*i*36) n n:=E 0 rfl;have k1:f 1=.func (.func fid) [] cs:=E 1 rfl;obtain⟨H2,S2,o2,k⟩:=s j Y H1 b1 b W;have g:=b.over o2 (Au I b1.1);have t:=CP (x:=UY x i v j) F Y;have C:=kh (x:=UY x i v j) F Y (v j);have Z:=cZ (v j);rw[aDh] at C;unfold gH at C;rw[Z] at C;have d:=b1.of o2;unfold vW at g ⊢;clear b;generalize mF (fl n (UY x i v j)) (n*n)=c at *;generalize mF (fl n (UY x i v (j+1))) (n*n)=y at *;generalize n*i*36=off at *;refine aM ?_;refine Wz ?_;refine nM A1 (fs:=[]) (cs:=cs) (fid:=fid) zq (by simp only[Bw,Er,zB,seval,Cw,Fe]) S2 ?_;simp only[↓zP,zJ,seval,aI,Y,g,Z,t,C];refine⟨⟨by simp only[aB.bB];exact d.1,fun p O l=>?_⟩,trivial,k.set (Au I d.1) _⟩;rw[aB.aD,if_neg l];exact d.2 p O l
  rintro f H1 E ⟨b1,b,W⟩;refine⟨rfl,[],rfl,?_⟩;refine⟨rfl,b1,?_,W⟩;unfold vW at b ⊢;rw[b,SZ (x:=UY x i v n)];intro p q m D;unfold UY;by_cases e:p=i
  . rw[if_pos ⟨e,D⟩,if_pos e]
  rw[if_neg (fun h=>e h.1),if_neg e])
 exact⟨H',w,h⟩
variable{y:Nat->Nat->Option Rat}
theorem aYv{j r3 r4 r8 t:Nat}{p:Option Rat}{kk:AV}{b:Bool}(E:k<n)(Y:j<n)(C:lA (gL (y k j)) (y k j))(m:lA (gL p) p){H:aB}(I:a<H.next)(q:r8<H.next)(d:r3<H.next)(l:r4<H.next)(D:vW H a n y)
 (B:H.get r3=some (.cells [.bK t 1 (Ow a n)] false)) (h4:H.get r4=some (.cells [.int .i64 k] false)) (z:H.get r8=some (.cells (kk::(gL p++[.bool b])) false)) (u:aY H):
 ∃H',Sg 301 ([.int .i64 j]++[.ref r3 0,.ref r4 0,.ref r8 0]) H (.ret (.agg (gL (yN (y k j) p)))) H'/\Over H H'/\aY H':=by
 have T:=IH (x:=y) E Y;have F:=CP (x:=y) E Y;have s:=qk C m;have Z:=oL (cZ (y k j));have r:=cZ p;have f:=cZ (yN (y k j) p);have A:(kk::(gL p++[.bool b])).length=38:=by rw[As,Aq,r];rfl
 have v:((kk::(gL p++[.bool b])).drop 1).take 36=gL p:=by rw[Gj,Eo,<-r,List.take_left]
 have g:=Ox a E;have X:=Vm a n;unfold vW at D
 obtain⟨_,H',⟨rfl,h⟩,w⟩:=bZ (R:=fun o H'=>o=.ret (.agg (gL (yN (y k j) p)))/\Over H H'/\aY H') fit bKm (args:=[.int .i64 j,.ref r3 0,.ref r4 0,.ref r8 0]) (H:=H) (Ab rfl) (by
  unfold aYc;dsimp only;simp only[lG];unfold JX at g;generalize mF (fl n y) (n*n)=cs at *;generalize n*k*36=off at *;generalize Ow a n=els at *;generalize kk::(gL p++[.bool b])=i at *;refine bP ?_;refine Tz ?_;refine bQ ?_;generalize hX:aB.alloc H _=c;have S:c.get H.next=some (.cells HO false):=by subst hX;rw[aB.aJ,if_pos rfl]
  have K:Over H c:=by subst hX;exact(Over.refl H).alloc _
  have W:aY c:=by subst hX;exact u.alloc _
  have e:H.next<c.next:=by subst hX;simp only[aB.bJ];omega
  clear hX
  replace D:=(K.same a I).trans D
  replace B:=(K.same r3 d).trans B
  replace h4:=(K.same r4 l).trans h4
  replace z:=(K.same r8 q).trans z
  refine bP ?_;refine Dz ?_;have :=oL fV;refine Wz ?_;refine bQ ?_;refine Tx ?_;refine⟨rfl,_,by simp only[↓zP,zR,seval,f,oL f];rfl,?_⟩
  exact⟨rfl,K.set (Ad _) _,W.set e _⟩)
 exact⟨H',w,h⟩
theorem bDh{j r3 r4 r11 r12 t:Nat}{w:Option Rat}(F:i<n)(E:k<n)(Y:j<n)(C:lA (gL (y k j)) (y k j))(A:lA (gL (y i j)) (y i j))(m:lA (gL w) w){H:aB}(I:a<H.next)(q:r11<H.next)(p:r12<H.next)(d:r3<H.next)(l:r4<H.next)(z:vW H a n y)
 (B:H.get r3=some (.cells [.bK t 1 (Ow a n)] false)) (h4:H.get r4=some (.cells [.int .i64 k] false)) (Q:H.get r11=some (.cells [JX a n i] false)) (M:H.get r12=some (.cells (gL w) false)) (u:aY H):
 ∃H',Sg 302 ([.int .i64 j]++[.ref r11 0,.ref r12 0,.ref r3 0,.ref r4 0]) H (.ret (.agg (gL (SN (y i j) (nX w (y k j)))))) H'/\Over H H'/\aY H':=by
 have T:=IH (x:=y) E Y;have L:=CP (x:=y) E Y;have J:=IH (x:=y) F Y;have b:=CP (x:=y) F Y;have U:=Lt m C;have s:=aPq A (lA.mul (x:=w) (y:=y k j));have Z:=oL (cZ (y k j));have G:=oL (cZ (y i j));have r:=oL (cZ w);have f:=cZ (SN (y i j) (nX w (y k j)));have g:=Ox a E;have X:=Vm a n;unfold vW at z
 obtain⟨_,H',⟨rfl,h⟩,D⟩:=bZ (R:=fun o H'=>o=.ret (.agg (gL (SN (y i j) (nX w (y k j)))))/\Over H H'/\aY H') fit bKn (args:=[.int .i64 j,.ref r11 0,.ref r12 0,.ref r3 0,.ref r4 0]) (H:=H) (Ab rfl) (by
  unfold aYd;dsimp only;simp only[lG];unfold JX at g Q;generalize mF (fl n y) (n*n)=cs at *;generalize n*k*36=off at *;generalize n*i*36=v at *;generalize Ow a n=els at *;refine bP ?_;refine Tz ?_;refine bQ ?_;generalize hX:aB.alloc H _=c;have S:c.get H.next=some (.cells HO false):=by subst hX;rw[aB.aJ,if_pos rfl]
  have K:Over H c:=by subst hX;exact(Over.refl H).alloc _
  have W:aY c:=by subst hX;exact u.alloc _
  have e:H.next<c.next:=by subst hX;simp only[aB.bJ];omega
  clear hX
  replace z:=(K.same a I).trans z
  replace B:=(K.same r3 d).trans B
  replace h4:=(K.same r4 l).trans h4
  replace Q:=(K.same r11 q).trans Q
  replace M:=(K.same r12 p).trans M
  refine bP ?_;refine Dz ?_;have :=oL fV;refine Wz ?_;refine bQ ?_;refine Tx ?_;refine⟨rfl,_,by simp only[↓zP,zR,seval,f,oL f];rfl,?_⟩
  exact⟨rfl,K.set (Ad _) _,W.set e _⟩)
 exact⟨H',D,h⟩
def OwL(H:aB)(lo sz:Nat)(v:AV)(els:List (List AV)):Prop:=(v=.bG/\els=[])\/∃k,v=.bK (k+2) sz els/\lo<=k/\k<H.next/\H.get k=some .tok
variable{v:AV}{lo sz:Nat}
theorem OwL.push{bytes:Nat}{ys:List (List AV)}(h:OwL H lo sz v els)(Q:ys.isEmpty=false)(X:(els.length+ys.length)*bytes<=2^40):
 ∃H',fM H sz bytes false v ys=some (.bK (H.next+2) sz (els++ys),H')/\H'.next=H.next+1/\H'.get H.next=some .tok/\(∀id,id<H.next->id<lo\/H.get id≠some .tok->H'.get id=H.get id)/\(aY H->aY H'):=by
 rcases h with ⟨rfl,rfl⟩|⟨k,rfl,i,T,E⟩
 . simp only[Bo,Ds] at X;exact⟨H.alloc .tok,by simp[fM,Q,X,lE],by simp,by rw[aB.aJ,if_pos rfl],fun id O _=>by rw[aB.aJ,if_neg A0],fun N=>N.alloc _⟩
 refine⟨(H.set k .dead).alloc .tok,by simp[fM,Q,X,E],by simp,by rw[aB.aJ,aB.bB,if_pos rfl],fun id O h2=>?_,fun N=>(N.set T _).alloc _⟩;rw[aB.aJ,aB.bB,if_neg A0,aB.aD,if_neg];rintro rfl
 rcases h2 with h2|h2
 . omega
 exact h2 E
theorem OwL.over(h:OwL H lo sz v els)(o:Over H H'):OwL H' lo sz v els:=by
 rcases h with h|⟨k,O,Z,B,h4⟩
 . exact .inl h
 exact .inr ⟨k,O,Z,Au B o.le,(o.same k B).trans h4⟩
theorem aDi(n1:0<n)(H:aB):Sg 297 [.sl a 36 0 (n*n) (n*n),.int .i64 n] H
 (.ret (.func (.func 326) [] [.ref H.next 0,.ref (H.next+1) 0])) ((H.alloc (.cells [.sl a 36 0 (n*n) (n*n)] false)).alloc (.cells [.int .i64 n] false)):=by
 obtain⟨_,H',⟨rfl,rfl⟩,w⟩:=bZ (R:=fun o H'=>o=.ret (.func (.func 326) [] [.ref H.next 0,.ref (H.next+1) 0])/\H'=(H.alloc (.cells [.sl a 36 0 (n*n) (n*n)] false)).alloc (.cells [.int .i64 n] false)) fit bKg (args:=[.sl a 36 0 (n*n) (n*n),.int .i64 n]) (H:=H) (Ab rfl) (by
  unfold aXx;dsimp only;have b1:decide ((n:Int)<1)=false:=Ac A0;refine aP fun K hK=>?_;simp only[↓zP,zG,seval,zI];apply hK;clear hK K;refine aP fun K hK=>?_;simp only[↓zP,zG,seval,zI,b1];apply hK;clear hK K;simp only[↓zP,zG,seval,zI];refine Rx ?_
  exact⟨rfl,rfl⟩)
 exact w
theorem Zi(n1:0<n)(J:n<=3){id r2 r3:Nat}(I:Nat->aB->Prop)
 (LP:∀j H',I j H'->H'.get r2=some (.cells [.sl a 36 0 (n*n) (n*n)] false)/\H'.get r3=some (.cells [.int .i64 n] false))
 (B:∀j,j<n->∀H1,I j H1->∃H2,mS Tryz.prog gv id [JX a n j] H1 (.ret (.bool true)) H2/\I (j+1) H2) {H:aB} (G:I 0 H):
 ∃H',I n H'/\Sg 326 [.yield id,.ref r2 0,.ref r3 0] H (.ret (.iV [])) H':=by
 suffices h:∃out H',(out=.ret (.iV [])/\I n H')/\Sg 326 [.yield id,.ref r2 0,.ref r3 0] H out H' by obtain⟨_,H',⟨rfl,t⟩,w⟩:=h;exact⟨H',t,w⟩
 refine bZ fit bKq (Ab rfl) ?_;unfold aYg;dsimp only;have L:=Lz J;refine aP fun K hK=>?_;refine Tz ?_;apply hK;clear hK K;refine UI (id:=0) (c:=9) (fun i f H'=>f 0=.yield id/\f 1=.ref r2 0/\f 2=.ref r3 0/\f 4=.int .i64 ((n*i:Nat):Int)/\I i H') n ?_ ?_ ?_ ?_
 . exact⟨by simp only[zB,seval,dY,Ce],by simp only[zB,seval,dY,Ce,Ed],by simp only[zB,seval,dY,Ce,Ed],by simp only[zB,seval,Nat.mul_zero,Int.natCast_zero],G⟩
 . rintro i f H1 F ⟨A,u,P,l,b⟩ K hK z;obtain⟨e,U⟩:=LP _ _ b
   have hd:decide (((n*i:Nat):Int)<((n*n:Nat):Int))=decide (i<n):=by rw[Bj,Int.ofNat_lt];exact Nat.mul_lt_mul_left n1
   generalize n*i=o at *;generalize n*n=X at *;simp only[↓zP,zG,seval,zI,u,l,e,hd];exact⟨trivial,trivial,hK _ zq ⟨by simp only[zB,seval];exact A,by simp only[zB,seval];exact u,by simp only[zB,seval];exact P,by simp only[zB,seval];exact l,b⟩⟩
 . rintro i f H1 F ⟨A,u,P,l,b⟩;obtain⟨e,U⟩:=LP _ _ b;obtain⟨H2,Q,d⟩:=B i F H1 b;obtain⟨q,g⟩:=LP _ _ d;have m:=ND F (show 0<n from n1);have k:n*i+n<=n*n:=by have :=Dd n (show i+1<=n from F);rwa [Nat.mul_succ] at this
   rw[Cv] at m;have w1:IntKind.i64.wrap (((n*i:Nat):Int)+(n:Int))=((n*(i+1):Nat):Int):=(by rw[wrap_i64 A0 A0,Nat.mul_succ];omega);have r:IntKind.i64.wrap (((n*i:Nat):Int)+(n:Int))=((n*i+n:Nat):Int):=(by rw[w1,Nat.mul_succ]);have s1:∀h,nA 36 (.sl a 36 0 (n*n) (n*n)) (some (n*i)) h none=nA 36 (.sl a 36 0 (n*n) (n*n)) (some (n*i)) h none:=fun _=>rfl
   have s2:nA 36 (.sl a 36 0 (n*n) (n*n)) (some (n*i)) none none=some (.sl a 36 (n*i*36) (n*n -n*i) (n*n -n*i)):=by simp only[nA,By,Du,Ds];rw[if_pos ⟨trivial,by omega⟩,if_pos A0,if_neg A0]
   have s3:nA 36 (.sl a 36 0 (n*n) (n*n)) (some (n*i)) (some (n*i+n)) (some (n*i+n))=some (JX a n i):=by simp only[nA,By,Ds];rw[if_pos ⟨trivial,by omega⟩,if_pos A0,if_neg A0,Nat.add_sub_cancel_left];rfl
   have p:(if((n*n -n*i:Nat):Int)<(n:Int) then((n*n -n*i:Nat):Int) else(n:Int))=(n:Int):=if_neg A0;refine aM ?_;refine aP fun K hK=>?_;refine Dz ?_;simp only[↓zP,zG,seval,zD,zI,u,P,l,e,U,eD,aI,s2,p,Ci];apply hK;clear hK K;simp only[↓zP,zG,seval,zI,A,u,l,e,r,eD,aI,s3,Bg];refine uN A1 zq (by simp only[Bw,Er,zB,seval]) Q ?_;simp only[↓zP,zG,seval,zI,l,P,g,w1];exact⟨trivial,trivial,A,u,trivial,trivial,d⟩
 rintro f H1 ⟨A,u,P,l,b⟩;refine⟨rfl,[],rfl,?_⟩;exact⟨rfl,b⟩
theorem aLq(n1:0<n)(J:n<=3){r2 r3:Nat}{H:aB}(b:r2<H.next)(d:r3<H.next)(Z:H.get r2=some (.cells [.sl a 36 0 (n*n) (n*n)] false))(B:H.get r3=some (.cells [.int .i64 n] false))(hF:aY H):
 ∃H' tk,Over H H'/\aY H'/\H.next<=tk/\tk<H'.next/\H'.get tk=some .tok/\Sg 325 [.bG,.func (.func 326) [] [.ref r2 0,.ref r3 0]] H (.ret (.bK (tk+2) 1 (Ow a n))) H':=by
 suffices h:∃out H',(∃tk,out=.ret (.bK (tk+2) 1 (Ow a n))/\Over H H'/\aY H'/\H.next<=tk/\tk<H'.next/\H'.get tk=some .tok)/\Sg 325 [.bG,.func (.func 326) [] [.ref r2 0,.ref r3 0]] H out H' by obtain⟨_,H',⟨tk,rfl,q1,q2,q3,q4,q5⟩,w⟩:=h;exact⟨H',tk,q1,q2,q3,q4,q5,w⟩
 refine qH fit bKp (Ab rfl) ?_;unfold aYf;dsimp only;refine aP fun K hK=>?_;simp only[↓zP,zG,seval,zI];apply hK;clear hK K;refine aP fun K hK=>?_;refine aP fun K2 dJ=>?_;simp only[↓zP,zG,seval,zI];apply dJ;clear dJ K2
 refine UG (by
  repeat (first|exact(sB (Ab rfl)).1|refine nH.jF ?_ A1 _)) (fun f Q F N p=>?_)
 have P:f 2=.ref H.next 0:=by subst N;simp only[zB,seval]
 have f6:f 6=.func (.func 326) [] [.ref r2 0,.ref r3 0]:=by subst N;simp only[zB,seval]
 have g:Q.next=H.next+1:=by subst p;simp only[zI,seval]
 have S:Q.get H.next=some (.cells [.bG] false):=by subst p;simp only[zI,seval]
 have V:Over H Q:=by subst p;exact(Over.refl H).alloc _
 have xF:aY Q:=by subst p;exact hF.alloc _
 clear N p;refine aM ?_;refine uL (by rw[iG];exact f6) ?_;simp only[g];generalize A:HU.mk [7] _ _=key
 let I:Nat->aB->Prop:=fun j H'=>Over H H'/\H.next+3<=H'.next/\H'.get (H.next+1)=some .AN/\H'.get (H.next+2)=some (.loop key (LF 13 f) .ready)/\aY H'/\∃v,H'.get H.next=some (.cells [v] false)/\OwL H' (H.next+3) 1 v ((List.range j).map fun i=>[JX a n i])
 have G:I 0 ((Q.alloc .AN).alloc (.loop key (LF 13 f) .ready)):=
  ⟨⟨by simp[g];omega,fun j Y=>by rw[aB.aJ,if_neg (by simp[g];omega),aB.aJ,if_neg A0];exact V.same j Y⟩,by simp[g],by simp[aB.aJ,g],by simp[aB.aJ,g],(xF.alloc _).alloc _,.bG,by rw[aB.aJ,if_neg (by simp[g];omega),aB.aJ,if_neg A0];exact S,.inl ⟨rfl,rfl⟩⟩
 have eX:∀j,j<n->∀H1,I j H1->∃H2,mS Tryz.prog gv (H.next+1+1) [JX a n j] H1 (.ret (.bool true)) H2/\I (j+1) H2:=by
  rintro j Y H1 ⟨w1,w2,R,C,wF,v,m,U⟩
  suffices h:∃out H2,(out=.ret (.bool true)/\I (j+1) H2)/\mS Tryz.prog gv (H.next+1+1) [JX a n j] H1 out H2 by obtain⟨_,H2,⟨rfl,O⟩,w⟩:=h;exact⟨H2,w,O⟩
  refine IE fit F C ZaO ZaO ZaO ?_
  have x:FC Tryz.prog gv 13 key.MI (oE 13 f (key.ps.zip [JX a n j])) [] H1 (fun e u oT E=>e=.normal/\u=jF (jF f 7 (JX a n j)) 5 (JX a n j)/\oT=[]/\E=H1):=by subst A;dsimp only[List.zip,List.zipWith,oE,gJ];simp only[↓zP,zG,seval]
  refine jJ (fun e u oT E h=>?_) x;obtain⟨rfl,rfl,rfl,rfl⟩:=h;refine⟨rfl,key,LF 13 f,C,?_⟩;generalize s:aB.set _ (H.next+1+1) _=t;have r:t.get H.next=some (.cells [v] false):=by rw[<-s,aB.aD,if_neg A0];exact m
  have z:t.get (H.next+1+1)=some (.loop key (LF 13 f) .busy):=by rw[<-s,aB.aD,if_pos rfl]
  have c:∀q,q≠H.next+1+1->t.get q=E.get q:=fun q D=>by rw[<-s,aB.aD,if_neg D]
  have zn:t.next=E.next:=by rw[<-s,aB.bB]
  have zF:aY t:=by rw[<-s];exact wF.set A0 _
  have z6:OwL t (H.next+3) 1 v ((List.range j).map fun i=>[JX a n i]):=by
   rcases U with h|⟨k,O,Z,B,h4⟩
   . exact .inl h
   exact .inr ⟨k,O,Z,by omega,by rw[c k A0];exact h4⟩
  obtain⟨M,p1,p2,p3,X,p5⟩:=z6.push (ys:=[[JX a n j]]) (bytes:=24) rfl (by simp only[Ah,Bt,As,Bo];omega);have pb:=(X H.next A0 (.inl A0)).trans r;have pl:=(X (H.next+1+1) A0 (.inl A0)).trans z;rw[<-aIk] at p1;clear s x;have rc:(JX a n j).cells=[JX a n j]:=rfl;have W:(JX a n j).DS=false:=rfl;subst A;dsimp only;refine aM ?_;simp only[↓zP,zG,seval,zI,P,r,rc,W];rw[eL];simp only[p1,bV,zG,seval,zI,pb];have GX:H.next<=E.next:=by omega
  refine⟨rfl,_,_,by rw[aB.aD,if_neg A0];exact pl,rfl,⟨?_,?_,?_,?_,?_,.bK (t.next+2) 1 ((List.range (j+1)).map fun i=>[JX a n i]),?_,?_⟩⟩
  . refine⟨by simp only[aB.bB];omega,fun q D=>?_⟩;rw[aB.aD,if_neg A0,aB.aD,if_neg A0,X q A0 (.inl A0),c q A0];exact w1.same q D
  . exact Zaw
  . rw[aB.aD,if_neg A0,aB.aD,if_neg A0,X _ A0 (.inl A0),c _ A0];exact R
  . exact ZaK
  . exact((p5 zF).set A0 _).set Zaw _
  . rw[aB.aD,if_neg A0,aB.aD,if_pos rfl]
  exact .inr ⟨t.next,rfl,by omega,by simp only[aB.bB];omega,by rw[aB.aD,if_neg A0,aB.aD,if_neg A0];exact p3⟩
 have k2:((Q.alloc .AN).alloc (.loop key (LF 13 f) .ready)).get r2=some (.cells [.sl a 36 0 (n*n) (n*n)] false):=by rw[aB.aJ,if_neg Zal,aB.aJ,if_neg A0];exact(V.same r2 b).trans Z
 obtain⟨y,⟨w1,w2,R,C,wF,v,m,U⟩,w⟩:=Zi n1 J (a:=a) (r2:=r2) (r3:=r3) I (fun j H' hI=>⟨(hI.1.same r2 b).trans Z,(hI.1.same r3 d).trans B⟩) eX G;refine⟨_,y,_,_,_,w,C,fun L N=>?_⟩;obtain⟨T,o⟩:=N;show K f [.mark (H.next+1)] L;apply hK;clear hK K;have b0:L.get H.next=some (.cells [v] false):=by rw[o,if_neg A0];exact m
 have b1:L.get (H.next+1)=some .AN:=by rw[o,if_neg A0];exact R
 simp only[↓zP,zG,seval,zI,P,b0]
 obtain⟨tk,rfl,t1,t2,l⟩:∃tk,v=.bK (tk+2) 1 (Ow a n)/\H.next+3<=tk/\tk<y.next/\y.get tk=some .tok:=by
  rcases U with ⟨_,h⟩|h
  . have :=Al List.length h;rw[Ah,Bt,Bo] at this;omega
  exact h
 refine⟨b1,[.bK (tk+2) 1 (Ow a n)],rfl,tk,rfl,⟨by rw[aB.bB,T];exact w1.le,fun q D=>by rw[aB.aD,if_neg A0,o,if_neg A0];exact w1.same q D⟩,fun q D=>?_,by omega,by rw[aB.bB,T];exact t2,by rw[aB.aD,if_neg A0,o,if_neg A0];exact l⟩;rw[aB.bB,T] at D;rw[aB.aD,if_neg A0,o,if_neg A0];exact wF q D
theorem aMc(n1:0<n)(J:n<=3){r2 r3:Nat}{H:aB}(b:r2<H.next)(d:r3<H.next)(Z:H.get r2=some (.cells [.sl a 36 0 (n*n) (n*n)] false))(B:H.get r3=some (.cells [.int .i64 n] false))(u:aY H):
 ∃H' tk,Over H H'/\aY H'/\H.next<=tk/\tk<H'.next/\H'.get tk=some .tok/\Sg 296 [.func (.func 326) [] [.ref r2 0,.ref r3 0]] H (.ret (.bK (tk+2) 1 (Ow a n))) H':=by
 obtain⟨H',tk,q1,q2,q3,q4,q5,S⟩:=aLq n1 J b d Z B u
 obtain⟨_,H2,⟨rfl,rfl⟩,w⟩:=bZ (R:=fun o H2=>o=.ret (.bK (tk+2) 1 (Ow a n))/\H2=H') fit bKf (args:=[.func (.func 326) [] [.ref r2 0,.ref r3 0]]) (H:=H) (Ab rfl) (by
  unfold aXw;dsimp only;refine aP fun K hK=>?_;refine Tz ?_;apply hK;clear hK K;refine aP fun K hK=>?_;simp only[↓zP,zG,seval,zI];refine eI (S) ?_;refine Tz ?_;apply hK;clear hK K;refine Tx ?_;refine Rx ?_
  exact⟨rfl,rfl⟩)
 exact⟨_,tk,q1,q2,q3,q4,q5,w⟩
end Go.Proofs.YtogfcjbgeebfkaaGreatDoor
