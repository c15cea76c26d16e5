/-
  Part of the proof of statement 7
-/
import Derived.Test.YtogfcjbgeebfkaaGreatDoorA34
import Derived.Test.YtogfcjbgeebfkaaGreatDoorA35
import Derived.Test.YtogfcjbgeebfkaaGreatDoorA24
import Derived.Test.YtogfcjbgeebfkaaGreatDoorA07
import Derived.Test.YtogfcjbgeebfkaaGreatDoorA22
set_option linter.unusedVariables false
set_option linter.unusedSimpArgs false
set_option maxRecDepth 100000
set_option maxHeartbeats 16000000
namespace Go.Proofs.YtogfcjbgeebfkaaGreatDoor
open Go Go.Av Go.aD Go.lP
attribute [local congr] aY aS aV aQ bD aX aW aH bE
attribute [local irreducible] FC bT eX
theorem s9{tag:Nat}(ht:Nat.blt tag 2=true){l:List aD.V}{M:Nat}(hl:∀v∈l,bL M v)(hM:M<=2^18){E:List (Nat×Nat)}(hEl:E.length<=2^20)(hE0:E≠[])(hE:∀p∈E,p.1<l.length/\p.2<l.length)
 (hS:∀H,Sg 187 [.agg [.bC tag 3 (bK l)]] H (.ret (jH 2 ((E.map pN).map pC))) H) (H:aA):
 Sg 98 [.agg [.bC tag 3 (bK l)]] H (.ret (.bC 0 3 (bK (E.map (EJ l))))) H:=by
 refine eS fit eC bKw (Al rfl) Zao ?_ H;unfold W98;dsimp only;have cS:∀k (h:k<l.length),l.getD k V0=l[k]:=fun k h=>by simp[List.getD,h]
 rw[show jH 2 ((E.map pN).map pC)=.bC 0 2 ((E.map pN).map pC) from if_neg (by simpa using hE0)] at hS;refine Ty ?_;refine bO (hS _) ?_;refine Tz ?_;refine cP [3] (fun i vs H'=>∃v,vs=[v]/\Own H' 3 v (bK ((E.take i).map (EJ l)))/\1<=H'.next/\H'.get 0=some (.cells [.bC tag 3 (bK l)] false)) 0 E.length (Bp _) A0 A1 ?_ ?_ ?_ ?_ ?_
 . exact zq
 . exact ZaI
 . rintro i f H1 h0 hi hk e1 _;have f4:f 4=.bC 0 2 ((E.map pN).map pC):=hk 4 rfl;simp only[↓zP,zG,seval,e1,f4,Ai];exact tB A0
 . rintro i f H1 h0 hi hk e1 ⟨v,hv,ho,hn,g0⟩;simp only[zM] at hv;have f1:f 1=.ref 0 0:=hk 1 rfl;have f4:f 4=.bC 0 2 ((E.map pN).map pC):=hk 4 rfl;have hg:((E.map pN).map pC).getD i []=pC (pN E[i]):=by rw[Eo];exact fB hi
   obtain⟨ha,hb⟩:=hE _ (Ah hi)
   have uA:(E.take (i+1)).map (EJ l)=(E.take i).map (EJ l)++[EJ l E[i]]:=by rw[Ax,Cn];simp[hi]
   have htl:((E.take i).map (EJ l)).length<=2^20:=Zaf;have hEm:((E.map pN).map pC).length=E.length:=(by rw[Ai,Ai]);rw[uA];generalize (E.take i).map (EJ l)=els at *;generalize E[i]=p at *;have ga:=cH ha;have gb:=cH hb;have na:=hl _ (Ah ha);have nb:=hl _ (Ah hb);have BM:aD.sub l[p.2] l[p.1]=EJ l p:=(by simp only[EJ,cS p.2 hb,cS p.1 ha]);have q0:(pC (pN p)).getD 0 aB=.int .i64 (p.1:Int):=rfl;have q1:(pC (pN p)).getD 1 aB=.int .i64 (p.2:Int):=rfl;have r1:(List.drop 1 (pC (pN p))).getD 0 aB=.int .i64 (p.2:Int):=rfl;have r2:1<=(List.drop 1 (pC (pN p))).length:=Ag _;have ta:(cE l[p.1]).take 3=cE l[p.1]:=rfl;have tb:(cE l[p.2]).take 3=cE l[p.2]:=rfl;obtain⟨H5,z1,z2,z3,z4,z5⟩:=Has.push (.inr ho) (ys:=[cE (EJ l p)]) (bytes:=24) rfl (by rw[aR,As,Bw];omega);refine aP ?_;refine Dz ?_;simp only[↓zP,zJ,seval,zD,f1,f4,e1,hv,g0,hEm,hi,hg,Pu,q0,r1,r2,pZ,aG,aR,ha,hb,ga,gb,oL (aM l[p.1]),oL (aM l[p.2])];refine dM (xR nb na A0 _) ?_;rw[BM];simp only[↓zP,zJ,seval,zD,oL (aM (EJ l p))];rw[eL];simp only[z1,bQ,seval];rw[show bK (els++[EJ l p])=bK els++[cE (EJ l p)] from by simp[bK]];exact⟨by omega,_,rfl,.inr ⟨H1.next,rfl,by omega,z3⟩,by omega,(z4 0 A0 (by rw[g0];simp)).trans g0⟩
 rintro f H1 hk ⟨v,hv,ho,hn,g0⟩;simp only[zM] at hv;rw[Ay] at ho;simp only[↓zP,seval,hv];exact Zav
theorem aCj{on:List Nat}{a b:Nat}:FK on on.length a b=true↔aD.Next on a b\/aD.Next on b a:=by
 have hg:∀(i x:Nat),i<on.length->(on.getD i 0=x↔on[i]?=some x):=fun i x h=>by simp[List.getD,h]
 simp only[FK,Cv,Az,Dq,Ak,Dh,aD.Next];constructor
 . rintro⟨i,hi,h⟩;have hm:(i+1)%on.length<on.length:=Bz _ A0
   rcases h with ⟨h1,h2⟩|⟨h1,h2⟩
   . exact .inl ⟨i,hi,(hg i a hi).1 h1,(hg _ b hm).1 h2⟩
   exact .inr ⟨i,hi,(hg i b hi).1 h1,(hg _ a hm).1 h2⟩
 rintro(⟨i,hi,h1,h2⟩|⟨i,hi,h1,h2⟩)
 . have hm:(i+1)%on.length<on.length:=Bz _ A0;exact⟨i,hi,.inl ⟨(hg i a hi).2 h1,(hg _ b hm).2 h2⟩⟩
 have hm:(i+1)%on.length<on.length:=Bz _ A0;exact⟨i,hi,.inr ⟨(hg i b hi).2 h1,(hg _ a hm).2 h2⟩⟩
theorem ia{S:List (aD.V×Int)}{L:aD.V×Int->List Nat}{N:Nat}{x:Int×Int}:
 x∈Qm S L N N↔∃a b:Nat,a<b/\b<N/\Qq S L a b=true/\x=pN (a,b):=by
 simp only[Qm,GP,Ek,Bm,Fk,Az,Ak,Bf,pN];constructor
 . rintro⟨a,ha,b,⟨hb,wU,h⟩,rfl⟩;exact⟨a,b,wU,hb,h,rfl⟩
 rintro⟨a,b,wU,hb,h,rfl⟩;exact⟨a,by omega,b,⟨hb,wU,h⟩,rfl⟩
theorem VN{l:List aD.V}(hl:l.Pairwise gV){S:List (aD.V×Int)}{L:aD.V×Int->List Nat}(hS:qZ l S L){a b:Nat}:Qq S L a b=true↔∃q∈S,aD.Next (L q) a b:=by
 simp only[Qq,Cv,aCj];constructor
 . rintro⟨q,hq,h|h⟩
   . exact⟨q,hq,h⟩
   obtain⟨n',d',L',F',P',hN'⟩:=(hS.po q hq).back (vK hl) ((hS.fl.mem q).1 hq) h;have Ox:=(hS.fl.mem (n',d')).2 F';rw[P'.uniq (hS.po _ Ox)] at hN';exact⟨(n',d'),Ox,hN'⟩
 rintro⟨q,hq,h⟩;exact⟨q,hq,.inl h⟩
theorem QF{tag:Nat}(ht:Nat.blt tag 2=true){l:List aD.V}(h0:fJ l=0){M:Nat}(hn:∀v∈l,bL M v)(hM:M<=2^18):∃U:List aD.V,U.length<=2^20/\U≠[]/\(∀v,v∈U↔yc l v)/\(∀v∈U,bL (M+M) v)/\
 (∀H,Sg 96 [.agg [.bC tag 3 (bK l)]] H (.ret (.bC (H.next+2) 5 ((gB l).map (cL (kY l))))) (H.alloc .tok))/\
 ∀H,Sg 98 [.agg [.bC tag 3 (bK l)]] H (.ret (.bC 0 3 (bK U))) H:=by
 obtain⟨hs,_,cG,IQ,hlen,KN,_⟩:=nG h0;have hF:=kZ hs;have p3:=sj ht hn hM hlen hF IQ
 have hE:∀x∈Qm (gB l) (kY l) l.length l.length,∃a b:Nat,a<b/\(∃q∈gB l,aD.Next (kY l q) a b)/\x=pN (a,b):=fun x hx=>by obtain⟨a,b,h1,h2,h3,rfl⟩:=ia.1 hx;exact⟨a,b,h1,(VN hs hF).1 h3,rfl⟩
 have Xo:∀q∈gB l,∀a b,aD.Next (kY l q) a b->a<l.length/\b<l.length:=fun q hq a b h=>by have h1:=(hF.po q hq).jX.1 h;exact⟨(bU.1 h1.1).1,(bU.1 h1.2.1).1⟩
 have hE2:∀a b:Nat,a<b->(∃q∈gB l,aD.Next (kY l q) a b)->pN (a,b)∈Qm (gB l) (kY l) l.length l.length:=fun a b wU h=>by obtain⟨q,hq,hN⟩:=h;exact ia.2 ⟨a,b,wU,(Xo q hq a b hN).2,(VN hs hF).2 ⟨q,hq,hN⟩,rfl⟩
 have Vv:(Qm (gB l) (kY l) l.length l.length).length<=2^20:=by have :=jh (gB l) (kY l) l.length l.length;have :l.length*l.length<=64*64:=Ba hlen hlen;omega
 have hE0:Qm (gB l) (kY l) l.length l.length≠[]:=by
  have :=Og hs hF cG;obtain⟨x,r,h⟩:=Ep this;have hx:x∈HG (gB l) (kY l):=by rw[h];simp
  obtain⟨q,hq,a,b,hN,wU,rfl⟩:=(yQ hF).1 hx;intro he;have :=hE2 a b wU ⟨q,hq,hN⟩;rw[he] at this;cases this
 generalize Qm (gB l) (kY l) l.length l.length=E at *
 have Tn:E=(E.map fun x=>(x.1.toNat,x.2.toNat)).map pN:=by rw[Eo];refine(Gs E).symm.trans (El fun x hx=>?_);obtain⟨a,b,_,_,rfl⟩:=hE x hx;simp[pN]
 generalize hE':(E.map fun x=>(x.1.toNat,x.2.toNat))=E' at *
 have ZE:∀p:Nat×Nat,p∈E'↔(∃q∈gB l,aD.Next (kY l q) p.1 p.2)/\p.1<p.2:=fun p=>by
  rw[<-hE',Bm];constructor
  . rintro⟨x,hx,rfl⟩;obtain⟨a,b,h1,h2,rfl⟩:=hE x hx;exact⟨by simpa [pN] using h2,by simpa [pN] using h1⟩
  rintro⟨h1,h2⟩;exact⟨pN p,hE2 p.1 p.2 h2 h1,by simp[pN]⟩
 refine⟨E'.map (EJ l),?_,?_,?_,?_,fun H=>Ws tag hn hM hlen hF cG ht H,fun H=>s9 ht hn hM (E:=E') ?_ ?_ ?_ ?_ H⟩
 . rw[Ai,<-hE',Ai];exact Vv
 . intro e;rw[Jl,<-hE',Jl] at e;exact hE0 e
 . intro v;rw[Bm];constructor
   . rintro⟨p,hp,rfl⟩;obtain⟨⟨q,hq,h1⟩,h2⟩:=(ZE p).1 hp;have h3:=(hF.po q hq).jX.1 h1;exact⟨q,(hF.fl.mem q).1 hq,p.1,p.2,h3.2,h3.1,h2,rfl⟩
   rintro⟨q,hq,a,b,h1,h2,h3,rfl⟩;have Ox:=(hF.fl.mem q).2 hq;exact⟨(a,b),(ZE (a,b)).2 ⟨⟨q,Ox,(hF.po q Ox).jX.2 ⟨h2,h1⟩⟩,h3⟩,rfl⟩
 . intro v hv;obtain⟨p,hp,rfl⟩:=Bm.1 hv;obtain⟨⟨q,hq,h1⟩,h2⟩:=(ZE p).1 hp;obtain⟨b1,b2⟩:=Xo q hq _ _ h1
   have hg:∀k,k<l.length->bL M (l.getD k V0):=fun k hk=>by have :l.getD k V0=l[k]:=(by simp[List.getD,hk]);rw[this];exact hn _ (Ah hk)
   exact fW (hg _ b2) (hg _ b1)
 . rw[<-hE',Ai];exact Vv
 . intro e;rw[<-hE',Jl] at e;exact hE0 e
 . intro p hp;obtain⟨⟨q,hq,h1⟩,h2⟩:=(ZE p).1 hp;exact Xo q hq _ _ h1
 rw[<-Tn];exact p3
theorem Zx{v:aD.V}{B:Nat}(hv:bL B v)(hB:B<2^62)(H:aA):Sg 75 [.agg (c3 fun i=>cI (v.at i))] H (.ret (.agg (cE v))) H:=by
 refine Sp bKo (by simp only[sf,iI fun i _=>cK _]) Zah ?_ H;unfold W75;dsimp only;have hl:=fun i (hi:i<3)=>pG (c:=fun i=>cI (v.at i)) (fun i _=>cJ _) hi;have l0:(c3 fun i=>cI (v.at i)).take 18=cI (v.at 0):=hl 0 A1;have l1:((c3 fun i=>cI (v.at i)).drop 18).take 18=cI (v.at 1):=hl 1 A1;have l2:((c3 fun i=>cI (v.at i)).drop 36).take 18=cI (v.at 2):=hl 2 A1;have h54:(c3 fun i=>cI (v.at i)).length=54:=fI fun _ _=>cJ _
 have hs:∀i,∀H,Sg 159 [.agg (cI (v.at i))] H (.ret (.jZ [.int .i64 (v.at i),.bool true])) H:=fun i=>by have :=bL.c hv i;exact Sm A0 A0
 refine bX ?_;refine Ty ?_;refine bY ?_;simp only[↓zP,zJ,seval,pZ,h54,l0];refine bO (hs 0 _) ?_;simp only[↓zP,zJ,seval,h54,l1];refine bO (hs 1 _) ?_;simp only[↓zP,zJ,seval,h54,l2];refine bO (hs 2 _) ?_;refine Ty ?_;exact ZaB
theorem aTi{a b Z:List AV}(ha:a.length=18)(hb:b.length=18)(hZ:Z.length=18):
 (if True/\36<=(a++Z).length/\True then some ((a++Z).take 18++b++(a++Z).drop 36) else none)=some (a++b):=by
 have hl:(a++Z).length=36:=by rw[Ap,ha,hZ]
 rw[if_pos ⟨trivial,by omega,trivial⟩,Cx A0,Bb A0,Bo A0,Cr]
theorem XC{tag:Nat}(ht:Nat.blt tag 2=true){l:List aD.V}{M B:Nat}(hl:∀v∈l,bL M v)(hlen:l.length<2^30){n:aD.V}(hn:bL B n)(hM:M<2^62)(hB:B<2^62)(hs:3*(B*M)<2^62){x0:aD.V}{r:List aD.V}(hx:l=x0::r)(H:aA):
 Sg 186 [.agg [.bC tag 3 (bK l)],.agg (cE n)] H (.ret (.agg (cI (sG n (aD.dot n x0) l)++cI (sF n (aD.dot n x0) l)))) H:=by
 have aBg:∀v∈l,∀H,Sg 215 [.agg (cE n),.agg (cE v)] H (.ret (.agg (cI (aD.dot n v)))) H:=fun v hv H=>aLa hn (hl v hv) hB hM hs H;refine Sp bBd (by simp only[sf,cF ht,bV]) (by simp only[AV.free,iV,cd];rfl) ?_ H;unfold aPx;dsimp only;have Xt:0<l.length:=by rw[hx];simp
 have aUn:l[0]=x0:=by subst hx;rfl
 have g0:=cH Xt;have Ou:=aBg _ (Ah Xt);have a0:asNat (.int .i64 0)=some 0:=rfl;have dA:∀z,(cI z).length=18:=fun z=>by simp[cI,bW,bP]
 have d3:∀v:aD.V,(cE v).take 3=cE v:=fun _=>rfl;refine bX ?_;refine Ty ?_;refine bY ?_;generalize hX:(((aA.mk 0 .nil).alloc _).alloc _).alloc _=HA;have m0:HA.get 0=some (.cells [.bC tag 3 (bK l)] false):=by subst hX;simp only[zI,seval]
 have m1:HA.get 1=some (.cells (cE n) false):=by subst hX;simp only[zI,seval]
 obtain⟨z,m2,lz⟩:∃z,HA.get 2=some (.cells z false)/\z.length=36:=⟨_,by subst hX;simp only[zI,seval];rfl,by simp[bW];rfl⟩;have mn:HA.next=3:=by subst hX;simp only[zI,seval]
 have mf:bM HA:=by subst hX;exact(((bM.nil 0).alloc _).alloc _).alloc _
 clear hX;refine bX ?_;refine gZ 1 A1 mf.at1 fun H1 n1 e1=>?_;simp only[↓zP,zJ,seval,zD,m0,m1,mn,e1,a0,aR,Xt,g0,oL (aM l[0]),oL (aM n)];have nY:(AV.bool false::AV.bool false::wC zs).length=18:=by simp[bW];rfl
 refine dM (Ou _) ?_;rw[aUn];generalize hd:aD.dot n x0=d0 at *;rw[mn] at n1;simp only[↓zP,zJ,seval,zD,dA,nY,oL nY,n1,e1];refine bY ?_;have f3:bM H1:=fun j hj=>by rw[e1 j];exact mf j A0
 generalize hX:(H1.set 3 _).set 3 _=HB;have b0:HB.get 0=some (.cells [.bC tag 3 (bK l)] false):=by subst hX;rw[aA.aC,if_neg A1,aA.aC,if_neg A1,e1];exact m0
 have b1:HB.get 1=some (.cells (cE n) false):=by subst hX;rw[aA.aC,if_neg A1,aA.aC,if_neg A1,e1];exact m1
 have b2:HB.get 2=some (.cells z false):=by subst hX;rw[aA.aC,if_neg A1,aA.aC,if_neg A1,e1];exact m2
 have b3:HB.get 3=some (.cells (cI d0) false):=by subst hX;rw[aA.aC,if_pos rfl]
 have bn:HB.next=4:=by subst hX;simp only[aA.bA];omega
 have bf:bM HB:=by subst hX;exact(f3.set A0 _).set (by simp only[aA.bA];omega) _
 clear hX;have hT:∀a b:Int,(cI a++cI b).take 18=cI a:=fun a b=>by rw[Cx (by rw[dA];exact Ag _),<-dA a,Ay]
 have hD:∀a b:Int,(cI a++cI b).drop 18=cI b:=fun a b=>by rw[<-dA a,List.drop_left]
 have Yv:∀a b:Int,(cI a++cI b).length=36:=fun a b=>by rw[Ap,dA,dA]
 refine bX ?_;simp only[↓zP,zJ,seval,b3,oL (dA d0)];rw[aTi (dA d0) (dA d0) nY];have NY:(AV.bool false::AV.bool false::AV.int .u32 0::AV.int .u32 0::AV.int .u32 0::AV.int .u32 0::AV.int .u32 0::AV.int .u32 0::AV.int .u32 0::AV.int .u32 0::AV.int .u32 0::AV.int .u32 0::AV.int .u32 0::AV.int .u32 0::AV.int .u32 0::AV.int .u32 0::AV.int .u32 0::AV.int .u32 0::AV.bool false::AV.bool false::wC zs).length=36:=by simp[bW];rfl
 generalize (AV.bool false::AV.bool false::AV.int .u32 0::AV.int .u32 0::AV.int .u32 0::AV.int .u32 0::AV.int .u32 0::AV.int .u32 0::AV.int .u32 0::AV.int .u32 0::AV.int .u32 0::AV.int .u32 0::AV.int .u32 0::AV.int .u32 0::AV.int .u32 0::AV.int .u32 0::AV.int .u32 0::AV.int .u32 0::AV.bool false::AV.bool false::wC zs)=Z36 at *;simp only[zJ,seval,Yv,oL NY,bn];refine bY ?_;generalize hX:((HB.alloc _).set 4 _)=HC;have p0:HC.get 0=some (.cells [.bC tag 3 (bK l)] false):=by subst hX;rw[aA.aC,if_neg A1,aA.aI,bn,if_neg A1];exact b0
 have p1:HC.get 1=some (.cells (cE n) false):=by subst hX;rw[aA.aC,if_neg A1,aA.aI,bn,if_neg A1];exact b1
 have p2:HC.get 2=some (.cells z false):=by subst hX;rw[aA.aC,if_neg A1,aA.aI,bn,if_neg A1];exact b2
 have p4:HC.get 4=some (.cells (cI d0++cI d0) false):=by subst hX;rw[aA.aC,if_pos rfl]
 have pn:HC.next=5:=by subst hX;simp only[aA.bA,aA.bH];omega
 have pf:bM HC:=by subst hX;exact(bf.alloc _).set Zaz _
 clear hX;have lf1:sG n d0 (l.take 1)=d0:=by subst hx;simp[sG,hd]
 have hf1:sF n d0 (l.take 1)=d0:=by subst hx;simp[sF,hd]
 have aYz:d0.natAbs<=3*(B*M):=by
  have :=mH hn (hl x0 (by rw[hx];simp))
  rwa [hd] at this
 have w16:3*(B*M)<W^16:=by
  have :2^62<W^16:=by decide
  omega
 refine aT fun K hK=>?_;refine bX ?_;refine Tz ?_;refine bY ?_;refine cP [] (fun i _ H'=>H'.get 0=some (.cells [.bC tag 3 (bK l)] false)/\H'.get 1=some (.cells (cE n) false)/\H'.get 2=some (.cells z false)/\H'.get 4=some (.cells (cI (sG n d0 (l.take i))++cI (sF n d0 (l.take i))) false)/\5<=H'.next/\bM H'/\(sG n d0 (l.take i)).natAbs<=3*(B*M)/\(sF n d0 (l.take i)).natAbs<=3*(B*M)) 1 l.length A0 A0 A1 ?_ ?_ ?_ ?_ ?_
 . exact zq
 . rw[lf1,hf1];exact⟨p0,p1,p2,p4,by omega,pf,aYz,aYz⟩
 . rintro i f H2 h0 hi hk e2 ⟨q0,_⟩;have f2:f 2=.ref 0 0:=hk 2 rfl;simp only[↓zP,zJ,seval,e2,f2,q0,aR];exact tB A0
 . rintro i f H2 h0 hi hk e2 ⟨q0,q1,q2,q4,qn,qf,c1,c2⟩;have f2:f 2=.ref 0 0:=hk 2 rfl;have Vl:f 3=.ref 1 0:=hk 3 rfl;have f6:f 6=.ref 4 0:=hk 6 rfl;have hg:=cH hi;have vP:=Ah hi;have hdi:=aBg _ vP;have RF:=mH hn (hl _ vP)
   have Qj:sG n d0 (l.take (i+1))=if aD.dot n l[i]<sG n d0 (l.take i) then aD.dot n l[i] else sG n d0 (l.take i):=by unfold sG;rw[Ax,Iv];simp[hi]
   have o5:sF n d0 (l.take (i+1))=if aD.dot n l[i]>sF n d0 (l.take i) then aD.dot n l[i] else sF n d0 (l.take i):=by unfold sF;rw[Ax,Iv];simp[hi]
   rw[Qj,o5];generalize sG n d0 (l.take i)=lo at *;generalize sF n d0 (l.take i)=pB at *;generalize l[i]=x at *;generalize aD.dot n x=d at *;refine aP ?_;refine bX ?_;refine gZ 1 A1 qf.at1 fun H3 n3 e3=>?_;simp only[↓zP,zJ,seval,zD,f2,Vl,e2,q0,q1,e3,aG,aR,hi,hg,oL (aM x),oL (aM n)];refine dM (hdi _) ?_;simp only[↓zP,zJ,seval,zD,dA,nY,oL nY,n3,e3];refine bY ?_;have f3:bM H3:=fun j hj=>by rw[e3 j];exact qf j A0
   generalize hX:(H3.set H2.next _).set H2.next _=H4;have y0:H4.get 0=some (.cells [.bC tag 3 (bK l)] false):=(by subst hX;rw[aA.aC,if_neg A0,aA.aC,if_neg A0,e3];exact q0);have y1:H4.get 1=some (.cells (cE n) false):=(by subst hX;rw[aA.aC,if_neg A0,aA.aC,if_neg A0,e3];exact q1);have y2:H4.get 2=some (.cells z false):=(by subst hX;rw[aA.aC,if_neg A0,aA.aC,if_neg A0,e3];exact q2);have y4:H4.get 4=some (.cells (cI lo++cI pB) false):=(by subst hX;rw[aA.aC,if_neg A0,aA.aC,if_neg A0,e3];exact q4);have y8:H4.get H2.next=some (.cells (cI d) false):=Zag;have yn:5<=H4.next:=(by subst hX;simp only[aA.bA];omega);have yf:bM H4:=(by subst hX;exact(f3.set A0 _).set (by simp only[aA.bA];omega) _);clear hX e3 f3;have q8:H2.next<H4.next:=Cj fun h=>by have :=yf H2.next A0;rw[y8] at this;cases this
   clear n3;generalize H2.next=r8 at *
   have yA:∀y:Int,(decide (kW (some d) (some y)<0)=decide (d<y))/\(decide (kW (some d) (some y)>0)=decide (d>y)):=fun y=>by constructor<;>(rw[Bk];simp only[kW];split<;>(try split)<;>omega)
   refine aT fun K3 BH=>?_
   have key:∀(f':cW) (H':aA) (lo2:Int),f' 8=.ref r8 0->f' 6=.ref 4 0->H'.get r8=some (.cells (cI d) false)->H'.get 0=some (.cells [.bC tag 3 (bK l)] false)->H'.get 1=some (.cells (cE n) false)->H'.get 2=some (.cells z false)->H'.get 4=some (.cells (cI lo2++cI pB) false)->5<=H'.next->bM H'->lo2=(if d<lo then d else lo)->K3 f' [] H':=by
    intro f' H' lo2 v8 v6 u8 u0 u1 u2 u4 un uf plo;apply BH;clear BH K3;have wV:(if d<lo then d else lo).natAbs<=3*(B*M):=ZaC;have hcm:=DN (x:=d) (y:=pB) A0 A0;have hl2:4<H'.next:=A0;refine aT fun K4 hK4=>?_;simp only[↓zP,zJ,seval,v8,v6,u8,u4,Yv,hD,oL (dA d),oL (dA pB)];refine bO (hcm _) ?_;by_cases c:d>pB
    . have d2:decide (kW (some d) (some pB)>0)=true:=(by rw[(yA pB).2];exact Aj c);simp only[↓zP,zG,seval,d2];apply hK4;clear hK4 K4;simp only[↓zP,zJ,seval,v8,v6,u8,u4,Yv,hT,oL (dA d),oL (Yv lo2 pB)];rw[if_pos c,<-plo];exact⟨u0,u1,u2,rfl,un,uf.set hl2 _,by rw[plo];exact wV,RF⟩
    have d2:decide (kW (some d) (some pB)>0)=false:=(by rw[(yA pB).2];exact Ad c);simp only[↓zP,zG,seval,d2];apply hK4;clear hK4 K4;refine Tz ?_;rw[if_neg c,<-plo];exact⟨u0,u1,u2,u4,un,uf,by rw[plo];exact wV,c2⟩
   have hcm:=DN (x:=d) (y:=lo) A0 A0;have hl2:4<H4.next:=A0;clear BH;refine aT fun K4 hK4=>?_;simp only[↓zP,zJ,seval,f6,y8,y4,Yv,hT,oL (dA d)];refine bO (hcm _) ?_;by_cases c:d<lo
   . have d2:decide (kW (some d) (some lo)<0)=true:=(by rw[(yA lo).1];exact Aj c);simp only[↓zP,zG,seval,d2];apply hK4;clear hK4 K4;simp only[↓zP,zJ,seval,f6,y8,y4,Yv,hD,oL (dA d)];refine key _ _ d zq (by simp only[zB,seval];exact f6) ?_ ?_ ?_ ?_ ?_ ?_ (yf.set hl2 _) (if_pos c).symm
     . rw[aA.aC,if_neg A0];exact y8
     . rw[aA.aC,if_neg A0];exact y0
     . rw[aA.aC,if_neg A0];exact y1
     . rw[aA.aC,if_neg A0];exact y2
     . rw[aA.aC,if_pos rfl]
     simp only[aA.bA];exact yn
   have d2:decide (kW (some d) (some lo)<0)=false:=(by rw[(yA lo).1];exact Ad c);simp only[↓zP,zG,seval,d2];apply hK4;clear hK4 K4;refine Tz ?_;exact key _ H4 lo zq (by simp only[zB,seval];exact f6) y8 y0 y1 y2 y4 yn yf (if_neg c).symm
 rintro f H2 hk ⟨q0,q1,q2,q4,qn,qf,c1,c2⟩;have f4:f 4=.ref 2 0:=hk 4 rfl;have f6:f 6=.ref 4 0:=hk 6 rfl;rw[Ay] at q4;refine Tx ?_;apply hK;clear hK K;simp only[↓zP,zJ,seval,f4,f6,q4,Yv,q2,lz,oL lz,oL (Yv (sG n d0 l) (sF n d0 l))];refine⟨rfl,_,by simp only[↓zP,zR,seval,f4,Yv,oL (Yv (sG n d0 l) (sF n d0 l))];rfl,?_⟩;rfl
theorem aLe{ta tb:Nat}(ZK:Nat.blt ta 2=true)(Xp:Nat.blt tb 2=true){a b:List aD.V}{M B:Nat}(ha:∀v∈a,bL M v)(hb:∀v∈b,bL M v)(hal:a.length<2^30)(Vy:b.length<2^30)(ha0:a≠[])(Qg:b≠[]){n:aD.V}(hn:bL B n)(hM:M<2^62)(hB:B<2^62)(hs:3*(B*M)<2^62)(H:aA):
 Sg 97 [.agg [.bC ta 3 (bK a)],.agg [.bC tb 3 (bK b)],.agg (cE n)] H (.ret (.bool (decide (n≠V0)&&lZ a b n))) H:=by
 obtain⟨xa,ra,Xu⟩:=Ep ha0;obtain⟨xb,rb,hxb⟩:=Ep Qg;have hsa:=fun H=>XC ZK ha hal hn hM hB hs Xu H;have hsb:=fun H=>XC Xp hb Vy hn hM hB hs hxb H
 have ZI:lZ a b n=(decide (sF n (aD.dot n xa) a<=sG n (aD.dot n xb) b)||decide (sF n (aD.dot n xb) b<=sG n (aD.dot n xa) a)):=by unfold lZ;rw[Xu,hxb];rfl
 refine So bKv (by simp only[sf,cF ZK,cF Xp,bV]) ?_ H;unfold W97;dsimp only;have hz:[AV.int .i64 0,AV.int .i64 0,AV.int .i64 0]=cE V0:=rfl;have dA:∀z,(cI z).length=18:=fun z=>by simp[cI,bW,bP]
 have hT:∀a b:Int,(cI a++cI b).take 18=cI a:=fun a b=>by rw[Cx (by rw[dA];exact Ag _),<-dA a,Ay]
 have hD:∀a b:Int,(cI a++cI b).drop 18=cI b:=fun a b=>by rw[<-dA a,List.drop_left]
 have Yv:∀a b:Int,(cI a++cI b).length=36:=fun a b=>by rw[Ap,dA,dA]
 have NY:(AV.bool false::AV.bool false::AV.int .u32 0::AV.int .u32 0::AV.int .u32 0::AV.int .u32 0::AV.int .u32 0::AV.int .u32 0::AV.int .u32 0::AV.int .u32 0::AV.int .u32 0::AV.int .u32 0::AV.int .u32 0::AV.int .u32 0::AV.int .u32 0::AV.int .u32 0::AV.int .u32 0::AV.int .u32 0::AV.bool false::AV.bool false::wC zs).length=36:=by simp[bW];rfl
 refine bX ?_;refine Ty ?_;refine bY ?_;generalize hX:(((aA.mk 0 .nil).alloc _).alloc _).alloc _=HA;have m0:HA.get 0=some (.cells [.bC ta 3 (bK a)] false):=by subst hX;simp only[zI,seval]
 have m1:HA.get 1=some (.cells [.bC tb 3 (bK b)] false):=by subst hX;simp only[zI,seval]
 have m2:HA.get 2=some (.cells (cE n) false):=by subst hX;simp only[zI,seval]
 have mn:HA.next=3:=by subst hX;simp only[zI,seval]
 clear hX;refine bX ?_;by_cases Qk:n=V0
 . simp only[↓zP,zJ,seval,m2,oL (aM n),hz,nM,Aj Qk];refine Rx ?_;rw[Ad (fun h=>h Qk)];rfl
 simp only[↓zP,zJ,seval,m2,oL (aM n),hz,nM,Ad Qk];refine bY ?_;rw[Aj Qk,Ct,ZI];refine bX ?_;simp only[↓zP,zJ,seval,m0,m2,oL (aM n)];refine bO (hsa _) ?_;simp only[↓zP,zJ,seval,mn,Yv];refine bY ?_
 have hBM:∀v,v∈a\/v∈b->(aD.dot n v).natAbs<=3*(B*M):=fun v hv=>by
  rcases hv with h|h
  . exact mH hn (ha v h)
  exact mH hn (hb v h)
 have da:=hBM xa (.inl (by rw[Xu];simp));have db:=hBM xb (.inr (by rw[hxb];simp));have lan:=JK (n:=n) (l:=a) da fun v hv=>hBM v (.inl hv);have han:=IW (n:=n) (l:=a) da fun v hv=>hBM v (.inl hv);have lbn:=JK (n:=n) (l:=b) db fun v hv=>hBM v (.inr hv);have hbn:=IW (n:=n) (l:=b) db fun v hv=>hBM v (.inr hv);generalize sG n (aD.dot n xa) a=la at *;generalize sF n (aD.dot n xa) a=ua at *;generalize sG n (aD.dot n xb) b=lb at *;generalize sF n (aD.dot n xb) b=ub at *;generalize hX:(HA.alloc _).set 3 _=HB;have b1:HB.get 1=some (.cells [.bC tb 3 (bK b)] false):=by subst hX;rw[aA.aC,if_neg A1,aA.aI,mn,if_neg A1];exact m1
 have b2:HB.get 2=some (.cells (cE n) false):=by subst hX;rw[aA.aC,if_neg A1,aA.aI,mn,if_neg A1];exact m2
 have b3:HB.get 3=some (.cells (cI la++cI ua) false):=by subst hX;rw[aA.aC,if_pos rfl]
 have bn:HB.next=4:=by subst hX;simp only[aA.bA,aA.bH];omega
 clear hX;refine bX ?_;simp only[↓zP,zJ,seval,b1,b2,oL (aM n)];refine bO (hsb _) ?_;simp only[↓zP,zJ,seval,bn,Yv];refine bY ?_;generalize hX:(HB.alloc _).set 4 _=HC;have p3:HC.get 3=some (.cells (cI la++cI ua) false):=by subst hX;rw[aA.aC,if_neg A1,aA.aI,bn,if_neg A1];exact b3
 have p4:HC.get 4=some (.cells (cI lb++cI ub) false):=by subst hX;rw[aA.aC,if_pos rfl]
 clear hX
 have w16:3*(B*M)<W^16:=by
  have :2^62<W^16:=by decide
  omega
 have Xi:=DN (x:=ua) (y:=lb) A0 A0;have yA:=DN (x:=ub) (y:=la) A0 A0
 have hle:∀x y:Int,decide (kW (some x) (some y)<=0)=decide (x<=y):=fun x y=>by rw[Bk];simp only[kW];split<;>(try split)<;>omega
 refine aT fun K hK=>?_;simp only[↓zP,zJ,seval,p3,p4,Yv,hT,hD,oL (dA _)];refine bO (Xi _) ?_;by_cases c:ua<=lb
 . have d1:decide (kW (some ua) (some lb)<=0)=true:=by rw[hle];exact Aj c
   simp only[↓zP,zG,seval,d1];apply hK;clear hK K;refine Tx ?_;refine Rx ?_;rw[Aj c];rfl
 have d1:decide (kW (some ua) (some lb)<=0)=false:=by rw[hle];exact Ad c
 simp only[↓zP,zJ,seval,d1,p3,p4,Yv,hT,hD,oL (dA _)];refine bO (yA _) ?_;simp only[↓zP,zG,seval,hle];apply hK;clear hK K;refine Tx ?_;refine Rx ?_;rw[Ad c];rfl
theorem UU{ta tb:Nat}(ZK:Nat.blt ta 2=true)(Xp:Nat.blt tb 2=true){a b:List aD.V}(ha:fJ a=0)(hb:fJ b=0)(H:aA):
 Sg 32 [.agg [.bC ta 3 (bK a)],.agg [.bC tb 3 (bK b)]] H (.ret (.bool (kJ a b))) H:=by
 obtain⟨sa,_,ha1,ha2,ha3,ha4,na⟩:=nG ha;obtain⟨sb,_,rP,wV,hb3,hb4,nb⟩:=nG hb;obtain⟨U,lU,zU,mU,nU,fa,ea⟩:=QF ZK ha na A1;obtain⟨W',lW,zW,mW,nW,fb,eb⟩:=QF Xp hb nb A1;have hFa:=kZ sa;have hFb:=kZ sb
 have ZI:∀n,bL (2^39) n->∀H,Sg 97 [.agg [.bC ta 3 (bK a)],.agg [.bC tb 3 (bK b)],.agg (cE n)] H (.ret (.bool (decide (n≠V0)&&lZ a b n))) H:=fun n hn H=>aLe ZK Xp na nb A0 A0 ha4 hb4 hn A1 A1 A1 H
 have rY:∀(T:List (List AV)),T=(gB a).map (cL (kY a))++(gB b).map (cL (kY b))->T.length<=128/\(∀i,i<T.length->∃n,(T.getD i []).take 3=cE n/\(T.getD i []).length=5/\n≠V0/\ya a b n/\bL (2^39) n)/\∀n d,(nA (fun i=>a.getD i V0) a.length n d\/nA (fun i=>b.getD i V0) b.length n d)->∃i,i<T.length/\(T.getD i []).take 3=cE n:=by
  intro T hT
  have hm:∀x,x∈T->∃n,x.take 3=cE n/\x.length=5/\n≠V0/\ya a b n/\bL (2^39) n:=fun x hx=>by
   rw[hT,Aq] at hx
   rcases hx with hx|hx
   . obtain⟨q,hq,rfl⟩:=Bm.1 hx;have hF:=(hFa.fl.mem q).1 hq;exact⟨q.1,rfl,rfl,hF.DE.hn,.inl ⟨q.2,hF⟩,oF na hF⟩
   obtain⟨q,hq,rfl⟩:=Bm.1 hx;have hF:=(hFb.fl.mem q).1 hq;exact⟨q.1,rfl,rfl,hF.DE.hn,.inr (.inl ⟨q.2,hF⟩),oF nb hF⟩
  have hgm:∀x,x∈T->∃i,i<T.length/\T.getD i []=x:=fun x hx=>by obtain⟨i,hi,h⟩:=Dt hx;exact⟨i,hi,by simp[List.getD,hi,h]⟩
  refine⟨by rw[hT];simp;omega,fun i hi=>?_,fun n d h=>?_⟩
  . have :T.getD i []=T[i]:=by simp[List.getD,hi]
    rw[this];exact hm _ (Ah hi)
  rcases h with h|h
  . obtain⟨i,hi,e⟩:=hgm (cL (kY a) (n,d)) (by rw[hT,Aq];exact .inl (Bm.2 ⟨_,(hFa.fl.mem (n,d)).2 h,rfl⟩));exact⟨i,hi,by rw[e];rfl⟩
  obtain⟨i,hi,e⟩:=hgm (cL (kY b) (n,d)) (by rw[hT,Aq];exact .inr (Bm.2 ⟨_,(hFb.fl.mem (n,d)).2 h,rfl⟩));exact⟨i,hi,by rw[e];rfl⟩
 refine So bJu (by simp only[sf,cF ZK,cF Xp]) ?_ H;unfold W32;dsimp only;have hbe:((gB b).map (cL (kY b))).isEmpty=false:=by simpa using rP
 obtain⟨hTl,hTi,hTn⟩:=rY _ rfl;refine bX ?_;refine Ty ?_;refine bY ?_;generalize hX:((aA.mk 0 .nil).alloc _).alloc _=HA;have m0:HA.get 0=some (.cells [.bC ta 3 (bK a)] false):=by subst hX;simp only[zI,seval]
 have m1:HA.get 1=some (.cells [.bC tb 3 (bK b)] false):=by subst hX;simp only[zI,seval]
 have mn:HA.next=2:=by subst hX;simp only[zI,seval]
 have mf:bM HA:=by subst hX;exact((bM.nil 0).alloc _).alloc _
 clear hX;refine bX ?_;simp only[↓zP,zJ,seval,m0];refine bO (fa _) ?_;refine Tz ?_;refine bY ?_;have oA:Own ((HA.alloc .tok).alloc .tok) 5 (.bC (HA.next+2) 5 ((gB a).map (cL (kY a)))) ((gB a).map (cL (kY a))):=.inr ⟨HA.next,rfl,by simp only[aA.bH];omega,by rw[aA.aI,if_neg Zaz,aA.aI,if_pos rfl]⟩;obtain⟨HB,z1,z2,z3,z4,z5⟩:=Has.push (.inr oA) (ys:=(gB b).map (cL (kY b))) (bytes:=56) hbe (by rw[Ap] at hTl;omega);have m0':((HA.alloc .tok).alloc .tok).get 0=some (.cells [.bC ta 3 (bK a)] false):=by rw[aA.aI,if_neg Zaz,aA.aI,if_neg A0];exact m0
 have m1':(HA.alloc .tok).get 1=some (.cells [.bC tb 3 (bK b)] false):=by rw[aA.aI,if_neg A0];exact m1
 have bFd:((HA.alloc .tok).alloc .tok).get 1=some (.cells [.bC tb 3 (bK b)] false):=by rw[aA.aI,if_neg Zaz];exact m1'
 have b0:=(z4 0 Zaz (by rw[m0'];simp)).trans m0';have b1:=(z4 1 Zaz (by rw[bFd];simp)).trans bFd;have bf:=z5 ((mf.alloc _).alloc _);have bn:2<=HB.next:=by rw[z2];simp only[aA.bH];omega
 generalize hHA:HA.alloc .tok=HA1 at *;refine bX ?_;simp only[↓zP,zJ,seval,m1'];refine bO (fb _) ?_;refine Tz ?_;rw[show ∀(h:aA) (x:List (List AV)) (t:Nat),dI h 5 (.bC t 5 x)=some x from fun _ _ _=>rfl];simp only[z1,bQ,seval,zI];refine bY ?_;generalize (gB a).map (cL (kY a))++(gB b).map (cL (kY b))=T at *;generalize HA1.next+1+2=tg at *;clear z1 z2 z3 z4 z5 fa fb hbe oA;refine aT fun K hK=>?_;refine bX ?_;refine Tz ?_;refine bY ?_;refine cP [] (fun i _ H'=>H'=HB/\∀j,j<i->∀n,(T.getD j []).take 3=cE n->lZ a b n=false) 0 T.length (Bp _) A0 A1 ?_ ?_ ?_ ?_ ?_
 . exact zq
 . exact⟨rfl,fun j hj=>absurd hj (Ar _)⟩
 . rintro i f H1 h0 hi hk e1 _;have f5:f 5=.bC tg 5 T:=hk 5 rfl;simp only[↓zP,zG,seval,e1,f5];exact tB A0
 . rintro i f H1 h0 hi hk e1 ⟨rfl,BJ⟩;have f2:f 2=.ref 0 0:=hk 2 rfl;have f3:f 3=.ref 1 0:=hk 3 rfl;have f5:f 5=.bC tg 5 T:=hk 5 rfl;obtain⟨n,t3,t5,Qk,hD,hnn⟩:=hTi i hi;have hse:=ZI n hnn;rw[Aj Qk,Ct] at hse;have t3':3<=(T.getD i []).length:=by omega
   refine aP ?_;refine bX ?_;refine Dz ?_;simp only[↓zP,zJ,seval,zD,f2,f3,f5,e1,b0,b1,aG,hi,t3,t5];refine dM (hse _) ?_;simp only[↓zP,zJ,seval,zD];refine bY ?_;by_cases hs:lZ a b n=true
   . simp only[↓zP,zG,seval,hs];refine Rx ?_;rw[show kJ a b=true from lC.2 ⟨n,hD,hs⟩];rfl
   have BL:lZ a b n=false:=(by simpa using hs);simp only[↓zP,zG,seval,BL];refine⟨trivial,fun j hj n' IZ=>?_⟩;by_cases hji:j=i
   . subst hji
     have :n'=n:=by rw[t3] at IZ;obtain⟨x,y,z⟩:=n;obtain⟨x',y',z'⟩:=n';simp only[cE,List.cons.injEq,AV.int.injEq,Kh,Ki] at IZ;obtain⟨h1,h2,h3⟩:=IZ;subst h1;subst h2;subst h3;rfl
     rw[this];exact BL
   exact BJ j A0 n' IZ
 rintro f H1 hk ⟨rfl,BJ⟩;have f2:f 2=.ref 0 0:=hk 2 rfl;have f3:f 3=.ref 1 0:=hk 3 rfl;refine Tx ?_;apply hK;clear hK K;refine bX ?_;simp only[↓zP,zJ,seval,f2,b0];refine bO (ea _) ?_;refine Tz ?_;refine gG ?_;simp only[↓zP,zJ,seval,f3,b1];refine bO (eb _) ?_;refine Tz ?_;refine bY ?_;refine aT fun K hK=>?_;refine bX ?_;refine Tz ?_;refine bY ?_;have hvl:∀i (h:i<U.length),(bK U).getD i []=cE U[i]:=fun i h=>cH h;have hwl:∀i (h:i<W'.length),(bK W').getD i []=cE W'[i]:=fun i h=>cH h;have hUl:(bK U).length=U.length:=aR _;have hWl:(bK W').length=W'.length:=aR _;refine cP [] (fun i _ H'=>H'.get 0=some (.cells [.bC ta 3 (bK a)] false)/\H'.get 1=some (.cells [.bC tb 3 (bK b)] false)/\2<=H'.next/\bM H'/\∀u∈U.take i,∀w∈W',(decide (aD.aU u w≠V0)&&lZ a b (aD.aU u w))=false) 0 U.length (Bp _) A0 A1 ?_ ?_ ?_ ?_ ?_
 . exact zq
 . exact⟨b0,b1,bn,bf,fun u hu=>by simp at hu⟩
 . rintro i g H2 h0 hi eW e2 _;have g8:g 8=.bC 0 3 (bK U):=eW 8 rfl;simp only[↓zP,zG,seval,e2,g8,hUl];exact tB A0
 . rintro i g H2 h0 hi eW e2 ⟨c0,c1,cn,cf,hnu⟩;have g2:g 2=.ref 0 0:=by rw[eW 2 rfl];simp only[zB,seval];exact f2
   have g3:g 3=.ref 1 0:=(by rw[eW 3 rfl];simp only[zB,seval];exact f3);have g8:g 8=.bC 0 3 (bK U):=eW 8 rfl;have g9:g 9=.bC 0 3 (bK W'):=eW 9 rfl;have hgu:=hvl i hi;have hum:=(mU _).1 (Ah hi);have nu:=nU _ (Ah hi)
   have uA:∀y,y∈U.take (i+1)->y∈U.take i\/y=U[i]:=fun y hy=>by
    rw[Ax,Aq] at hy
    rcases hy with h|h
    . exact .inl h
    simp[hi] at h;exact .inr h
   generalize U[i]=u at *;refine aP ?_;refine bX ?_;refine Tz ?_;refine bY ?_;refine cP [] (fun j _ H'=>H'.get 0=some (.cells [.bC ta 3 (bK a)] false)/\H'.get 1=some (.cells [.bC tb 3 (bK b)] false)/\2<=H'.next/\bM H'/\∀w∈W'.take j,(decide (aD.aU u w≠V0)&&lZ a b (aD.aU u w))=false) 0 W'.length (Bp _) A0 A1 ?_ ?_ ?_ ?_ ?_
   . exact zq
   . exact⟨c0,c1,cn,cf,fun w hw=>by simp at hw⟩
   . rintro j g' H3 h0 hj kR e3 _;have g9':g' 9=.bC 0 3 (bK W'):=(by rw[kR 9 rfl];simp only[zB,seval];exact g9);simp only[↓zP,zG,seval,e3,g9',hWl];exact tB A0
   . rintro j g' H3 h0 hj kR e3 ⟨d0,d1,dn,df,hnw⟩;have SD:g' 2=.ref 0 0:=(by rw[kR 2 rfl];simp only[zB,seval];exact g2);have g3':g' 3=.ref 1 0:=(by rw[kR 3 rfl];simp only[zB,seval];exact g3);have g8':g' 8=.bC 0 3 (bK U):=(by rw[kR 8 rfl];simp only[zB,seval];exact g8);have g9':g' 9=.bC 0 3 (bK W'):=(by rw[kR 9 rfl];simp only[zB,seval];exact g9);have g10:g' 10=.int .i64 i:=(by rw[kR 10 rfl];simp only[zB,seval];exact e2);have hgw:=hwl j hj;have hwm:=(mW _).1 (Ah hj);have nw:=nW _ (Ah hj)
     have bJe:∀y,y∈W'.take (j+1)->y∈W'.take j\/y=W'[j]:=fun y hy=>by
      rw[Ax,Aq] at hy
      rcases hy with h|h
      . exact .inl h
      simp[hj] at h;exact .inr h
     generalize W'[j]=w at *;have ncr:=iD nu nw;have hcr:=rz nu nw A1 A1;have hnr:=Zx ncr A1;have hse:=ZI (aD.aU u w) ncr
     have tQ:(decide (aD.aU u w≠V0)&&lZ a b (aD.aU u w))=true->kJ a b=true:=fun h=>by rw[Ak,Bf] at h;exact lC.2 ⟨_,.inr (.inr ⟨u,w,hum,hwm,rfl,h.1⟩),h.2⟩
     generalize hsv:(decide (aD.aU u w≠V0)&&lZ a b (aD.aU u w))=sv at *;have d3:∀v:aD.V,(cE v).take 3=cE v:=fun _=>rfl;refine aP ?_;refine bX ?_;refine gZ 1 A1 df.at1 fun H4 n4 e4=>?_;simp only[↓zP,zJ,seval,zD,g8',g9',g10,e3,aG,hUl,hWl,hi,hj,hgu,hgw,oL (aM u),oL (aM w)];refine dM (hcr _) ?_;simp only[seval];refine dM (hnr _) ?_;generalize hcv:aD.aU u w=cv at *;simp only[↓zP,zJ,seval,zD,n4,e4,oL (aM cv)];refine bY ?_;have q0:¬(0=H3.next):=A0;have q1:¬(1=H3.next):=A0;generalize hX:(H4.set H3.next _).set H3.next _=H5;have y0:H5.get 0=some (.cells [.bC ta 3 (bK a)] false):=(by subst hX;rw[aA.aC,if_neg q0,aA.aC,if_neg q0,e4];exact d0);have y1:H5.get 1=some (.cells [.bC tb 3 (bK b)] false):=(by subst hX;rw[aA.aC,if_neg q1,aA.aC,if_neg q1,e4];exact d1);have y2:H5.get H3.next=some (.cells (cE cv) false):=Zag;have yn:2<=H5.next:=by subst hX;simp only[aA.bA];omega
     have yf:bM H5:=fun j hj=>by subst hX;simp only[aA.bA] at hj;rw[aA.aC,if_neg A0,aA.aC,if_neg A0,e4];exact df j A0
     clear hX;generalize H3.next=r5 at *;refine bX ?_;simp only[↓zP,zJ,seval,SD,g3',y0,y1,y2,oL (aM cv)];refine bO (hse _) ?_;refine Tz ?_;refine bY ?_
     cases sv with
     |true=>refine Tz ?_;refine Rx ?_;rw[tQ rfl];rfl
     |false=>
      refine Tz ?_;refine⟨y0,y1,yn,yf,fun y hy=>?_⟩
      rcases bJe y hy with h|rfl
      . exact hnw y h
      rw[hcv];exact hsv
   rintro g' H3 kR ⟨d0,d1,dn,df,hnw⟩;rw[Ay] at hnw;refine Tz ?_;refine⟨d0,d1,dn,df,fun y hy=>?_⟩
   rcases uA y hy with h|rfl
   . exact hnu y h
   exact hnw
 rintro g H2 eW ⟨c0,c1,cn,cf,hnu⟩;rw[Ay] at hnu;refine Tx ?_;apply hK;clear hK K;refine Tz ?_;refine Rx ?_
 have :kJ a b=false:=by
  rw[<-Fs,lC];rintro⟨n,hn,hs⟩
  rcases hn with ⟨d,h⟩|⟨d,h⟩|⟨u,w,hu,hw,rfl,Qk⟩
  . obtain⟨i,hi,e⟩:=hTn n d (.inl h);rw[BJ i hi n e] at hs;cases hs
  . obtain⟨i,hi,e⟩:=hTn n d (.inr h);rw[BJ i hi n e] at hs;cases hs
  have :=hnu u ((mU u).2 hu) w ((mW w).2 hw);rw[Aj Qk,hs] at this;cases this
 rw[this];rfl

theorem gp(n:aD.V):∀(l:List aD.V) (m:Int),sG (aD.neg n) (-m) l= -(sF n m l)
 |[],m=>rfl
 |v::l,m=>by
  have ih:=gp n l;unfold sG sF at ih ⊢;simp only[Kr]
  have :(if aD.dot (aD.neg n) v< -m then aD.dot (aD.neg n) v else -m)= -(if aD.dot n v>m then aD.dot n v else m):=by
   rw[mS];by_cases h:aD.dot n v>m
   . rw[if_pos h,if_pos A0]
   rw[if_neg h,if_neg A0]
  rw[this,ih]
theorem fg(n:aD.V):∀(l:List aD.V) (m:Int),sF (aD.neg n) (-m) l= -(sG n m l)
 |[],m=>rfl
 |v::l,m=>by
  have ih:=fg n l;unfold sG sF at ih ⊢;simp only[Kr]
  have :(if aD.dot (aD.neg n) v> -m then aD.dot (aD.neg n) v else -m)= -(if aD.dot n v<m then aD.dot n v else m):=by
   rw[mS];by_cases h:aD.dot n v<m
   . rw[if_pos h,if_pos A0]
   rw[if_neg h,if_neg A0]
  rw[this,ih]
theorem ME(a b:List aD.V)(n:aD.V):lZ a b n=lZ b a n:=by unfold lZ;exact Bool.or_comm _ _
theorem aEm(a b:List aD.V)(n:aD.V):lZ a b (aD.neg n)=lZ a b n:=by
 unfold lZ;simp only[mS,gp,fg];rw[Bool.or_comm];congr 1
 . rw[Bk];omega
 rw[Bk];omega
theorem Vd{a b:List aD.V}(h:kJ a b=true):kJ b a=true:=by
 obtain⟨n,hD,hs⟩:=lC.1 h
 rcases hD with hF|hF|⟨u,w,hu,hw,rfl,hn⟩
 . exact lC.2 ⟨n,.inr (.inl hF),by rw[ME];exact hs⟩
 . exact lC.2 ⟨n,.inl hF,by rw[ME];exact hs⟩
 refine lC.2 ⟨aD.neg (aD.aU u w),.inr (.inr ⟨w,u,hw,hu,(YZ u w).symm,fun e=>Pe hn e⟩),?_⟩;rw[aEm,ME];exact hs
theorem Rm(a b:List aD.V):kJ a b=kJ b a:=by rw[Di];exact⟨Vd,Vd⟩
end Go.Proofs.YtogfcjbgeebfkaaGreatDoor
namespace Go.Proofs.YtogfcjbgeebfkaaGreatDoor
open Go Go.Av Go.lP Go.aD
theorem aCx{a:List aD.V}(ha:fJ a=0):kJ a a=false:=by
 rw[<-Fs];intro h;obtain⟨c,hc,Uu⟩:=Od h;obtain⟨hs,_,cG,_⟩:=nG ha;obtain⟨q,hq⟩:=List.exists_mem_of_ne_nil _ cG;have F:=((oS a).mem q).1 hq;obtain⟨x,hx,y,hy,z,hz,bHl⟩:=F.DE.Uh;obtain⟨k,hk,dT⟩:=F.lt;have H:=F.DE.pl (vK hs);have mem:∀j,j<a.length->a.getD j V0∈a:=fun j hj=>Nv hj
 have eqc:∀j,j<a.length->dot c (vec (fun i=>a.getD i V0) x j)=0:=fun j hj=>by have h1:=Uu _ (mem x (bU.1 hx).1) _ (mem j hj);have h2:=Uu _ (mem j hj) _ (mem x (bU.1 hx).1);rw[iJ];omega
 have Lo:=Oc hc (eqc y (bU.1 hy).1) (eqc z (bU.1 hz).1) (eqc k hk);have e1:=Nx (H.pl x hx y hy) (H.pl x hx z hz) (vec (fun i=>a.getD i V0) x k)
 have e2:dot (aU (sub (a.getD y V0) (a.getD x V0)) (sub (a.getD z V0) (a.getD x V0))) (vec (fun i=>a.getD i V0) x k)=0:=by rw[<-Lo];simp only[vec,cX,dot,aU];grind
 rw[e2,Gv] at e1
 have e3:dot q.1 (vec (fun i=>a.getD i V0) x k)≠0:=by rw[iJ,(bU.1 hx).2];simp only at *;omega
 exact(Int.mul_ne_zero bHl e3) e1.symm
def sA(d:aD.V)(l:List aD.V):List aD.V:=l.map (aD.add d)
theorem uX(d:aD.V)(l:List aD.V):(sA d l).length=l.length:=by simp[sA]
theorem uW(d:aD.V){l:List aD.V}{k:Nat}(h:k<l.length):(sA d l).getD k V0=aD.add d (l.getD k V0):=by simp[sA,List.getD,h]
theorem Wc(d:aD.V)(l:List aD.V):sA (aD.neg d) (sA d l)=l:=by
 unfold sA;rw[Eo]
 conv=>rhs;rw[<-Gs l]
 refine El fun v _=>?_;show aD.add (aD.neg d) (aD.add d v)=v;refine V.ext' ?_ ?_ ?_<;>simp only[aD.add,aD.neg]<;>omega
theorem GN(d:aD.V){l:List aD.V}{a b:Nat}(ha:a<l.length)(hb:b<l.length):vec (fun i=>(sA d l).getD i V0) a b=vec (fun i=>l.getD i V0) a b:=by simp only[vec,uW d ha,uW d hb,sub,aD.add,V.mk.injEq];refine⟨?_,?_,?_⟩<;>omega
theorem aCs(d:aD.V)(l:List aD.V)(n:aD.V)(e:Int):gC (fun i=>(sA d l).getD i V0) (sA d l).length n (e+dot n d)=gC (fun i=>l.getD i V0) l.length n e:=by unfold gC;rw[uX];refine List.filter_congr fun k hk=>?_;simp only[uW d (Az.1 hk),mR];rw[Bk];omega
theorem ZY(d:aD.V){l:List aD.V}{n:aD.V}{e:Int}(h:nA (fun i=>l.getD i V0) l.length n e):nA (fun i=>(sA d l).getD i V0) (sA d l).length n (e+dot n d) where
 le k hk:=by rw[uX] at hk;have :=h.le k hk;simp only[uW d hk,mR] at *;omega
 lt:=by obtain⟨k,hk,dT⟩:=h.lt;refine⟨k,by rw[uX];exact hk,?_⟩;simp only[uW d hk,mR] at *;omega
 Uh:=by
  obtain⟨a,b,c,ha,hb,hc,h1,h2,h3⟩:=h.Uh;refine⟨a,b,c,by rw[uX];exact ha,by rw[uX];exact hb,by rw[uX];exact hc,?_,?_,?_⟩
  . rw[GN d ha hb,GN d ha hc];exact h1
  . rw[GN d ha hb,GN d ha hc];exact h2
  simp only[uW d ha,mR] at *;omega
theorem aCq(d:aD.V){l:List aD.V}{v:aD.V}(h:yc l v):yc (sA d l) v:=by
 obtain⟨q,hF,a,b,hS,ha,wU,rfl⟩:=h;have hx:∀k∈gC (fun i=>l.getD i V0) l.length q.1 q.2,k<l.length:=fun k hk=>(bU.1 hk).1;refine⟨(q.1,q.2+dot q.1 d),ZY d hF,a,b,?_,by rw[aCs];exact ha,wU,?_⟩
 . rw[aCs];refine⟨hS.1,hS.2.1,fun k hk=>?_⟩;rw[GN d (hx a ha) (hx b hS.1),GN d (hx a ha) (hx k hk)];exact hS.2.2 k hk
 exact(GN d (hx a ha) (hx b hS.1)).symm
theorem aWj(d:aD.V){a b:List aD.V}{n:aD.V}(h:ya a b n):ya (sA d a) (sA d b) n:=by
 rcases h with ⟨e,h⟩|⟨e,h⟩|⟨u,w,h1,h2,h3⟩
 . exact .inl ⟨_,ZY d h⟩
 . exact .inr (.inl ⟨_,ZY d h⟩)
 exact .inr (.inr ⟨u,w,aCq d h1,aCq d h2,h3⟩)
theorem aCr(n d:aD.V):∀(l:List aD.V) (m:Int),sG n (m+dot n d) (sA d l)=sG n m l+dot n d
 |[],m=>rfl
 |v::l,m=>by have ih:=aCr n d l (if aD.dot n v<m then aD.dot n v else m);show sG n (if aD.dot n (aD.add d v)<m+dot n d then aD.dot n (aD.add d v) else m+dot n d) (sA d l)=sG n (if aD.dot n v<m then aD.dot n v else m) l+dot n d;rw[<-ih];congr 1;rw[mR];split<;>split<;>omega
theorem aCp(n d:aD.V):∀(l:List aD.V) (m:Int),sF n (m+dot n d) (sA d l)=sF n m l+dot n d
 |[],m=>rfl
 |v::l,m=>by have ih:=aCp n d l (if aD.dot n v>m then aD.dot n v else m);show sF n (if aD.dot n (aD.add d v)>m+dot n d then aD.dot n (aD.add d v) else m+dot n d) (sA d l)=sF n (if aD.dot n v>m then aD.dot n v else m) l+dot n d;rw[<-ih];congr 1;rw[mR];split<;>split<;>omega
theorem aWk(d:aD.V){a b:List aD.V}(ha:a≠[])(hb:b≠[])(n:aD.V):lZ (sA d a) (sA d b) n=lZ a b n:=by have l1:0<a.length:=Lf.2 ha;have l2:0<b.length:=Lf.2 hb;unfold lZ;rw[uW d l1,uW d l2,mR,mR,Int.add_comm (dot n d),Int.add_comm (dot n d),aCr,aCr,aCp,aCp];congr 1<;>rw[Bk]<;>omega
theorem aCt(d:aD.V){a b:List aD.V}(ha:a≠[])(hb:b≠[])(h:kJ a b=true):kJ (sA d a) (sA d b)=true:=by obtain⟨n,h1,h2⟩:=lC.1 h;exact lC.2 ⟨n,aWj d h1,by rw[aWk d ha hb];exact h2⟩
theorem aWi(d:aD.V){a b:List aD.V}(ha:a≠[])(hb:b≠[]):kJ (sA d a) (sA d b)=kJ a b:=by
 rw[Di];refine⟨fun h=>?_,aCt d ha hb⟩;have :=aCt (aD.neg d) (by simpa [sA] using ha) (by simpa [sA] using hb) h
 rwa [Wc,Wc] at this
end Go.Proofs.YtogfcjbgeebfkaaGreatDoor
namespace Go.Proofs.YtogfcjbgeebfkaaGreatDoor
open Go Go.Av
def W34:CW Tryz.f34:=⟨_,dB⟩
theorem bJw:Fi 34 W34:=dC Tryz.func34 W34
end Go.Proofs.YtogfcjbgeebfkaaGreatDoor
namespace Go.Proofs.YtogfcjbgeebfkaaGreatDoor
open Go Go.Av Go.lP Go.aD
attribute [local congr] aY aS aV aQ bD aX aW aH bE
attribute [local irreducible] FC bT eX
theorem aIc(l:List aD.V):wR (bK l)=bK l:=by
 induction l with
 |nil=>rfl
 |cons v l ih=>simp only[bK,Cq,wR] at *;rw[ih];rfl
theorem RM{v:AV}{t:Nat}{l:List aD.V}(hv:v=.bC t 3 (bK l))(hlen:l.length<2^30)(H:aA):Sg 101 [.agg [v]] H (.ret (.int .i64 (fJ l))) H:=by
 subst hv;apply Sound.vh;have e:rX [AV.agg [.bC t 3 (bK l)]]=[.agg [.bC 0 3 (bK l)]]:=by simp only[rX,vh,aIc]
 rw[e];exact EM (p:=(.bC 0 3 (bK l),l)) (.inr rfl) hlen H
theorem aCn{tag:Nat}(ht:Nat.blt tag 2=true){l:List aD.V}{M:Nat}(hl:∀v∈l,bL M v)(hM:M<=2^18)(hlen:l.length<=64)(cG:l≠[]){d:aD.V}(hd:bL (2^18) d)(H:aA):
 Sg 34 [.agg [.bC tag 3 (bK l)],.agg (cE d)] H (.ret (.jZ [.agg [.bC 0 3 (bK (sA d l))],.int .i64 (fJ (sA d l))])) H:=by
 refine eS fit eC bJw (Al rfl) (by simp only[sf,cF ht,bV]) ?_ H;unfold W34;dsimp only;have ld:=oL (aM d);refine bX ?_;refine Ty ?_;refine gG ?_;refine Ty ?_;refine bY ?_;generalize hX:aA.alloc _ _=HA;have a0:HA.get 0=some (.cells [.bC tag 3 (bK l)] false):=by subst hX;simp only[zI,seval]
 have a1:HA.get 1=some (.cells (cE d) false):=by subst hX;simp only[zI,seval]
 have a2:HA.get 2=some (.cells [.bB] false):=by subst hX;simp only[zI,seval]
 have a3:HA.get 3=some (.cells [.bB] false):=by subst hX;simp only[zI,seval]
 have an:4<=HA.next:=by subst hX;simp only[zI,seval]
 clear hX;refine cY fun f hf=>?_;have f2:f 2=.ref 0 0:=by subst hf;simp only[zB,seval]
 have f3:f 3=.ref 1 0:=by subst hf;simp only[zB,seval]
 have f4:f 4=.ref 2 0:=by subst hf;simp only[zB,seval]
 have f6:f 6=.ref 3 0:=by subst hf;simp only[zB,seval]
 clear hf;refine aT fun K hK=>?_;refine bX ?_;simp only[↓zP,zJ,seval,f2,a0,aR];refine bY ?_;have tk:∀i,(sA d l).take i=sA d (l.take i):=fun i=>by unfold sA;rw[List.map_take]
 refine cC [] (fun i _ H'=>∃v,Own H' 3 v (bK (sA d (l.take i)))/\H'.get 3=some (.cells [v] false)/\H'.get 0=some (.cells [.bC tag 3 (bK l)] false)/\H'.get 1=some (.cells (cE d) false)/\H'.get 2=some (.cells [.bB] false)/\4<=H'.next) l.length A0 A1 ?_ ?_ ?_ ?_ ?_
 . exact zq
 . exact zq
 . exact⟨.bB,.nil _ _,a3,a0,a1,a2,an⟩
 . rintro i f' H1 hi hk e1 ⟨v,ho,g3,g0,g1,g2,gn⟩;have k3:f' 3=.ref 1 0:=by rw[hk 3 rfl];simp only[zB,seval];exact f3
   have k6:f' 6=.ref 3 0:=(by rw[hk 6 rfl];simp only[zB,seval];exact f6);have k10:f' 10=.bC tag 3 (bK l):=hk 10 rfl;have hg:=cH hi;have hn:=hl _ (Ah hi)
   have uA:sA d (l.take (i+1))=sA d (l.take i)++[aD.add d l[i]]:=by unfold sA;rw[Ax,Cn];simp[hi]
   have htl:(sA d (l.take i)).length<=64:=(by rw[uX];simp;omega);rw[uA];generalize sA d (l.take i)=els at *;generalize l[i]=p at *;have l3:=oL (aM p);refine aP ?_;refine bX ?_;simp only[↓zP,zJ,seval,e1,k10,aG,aR,hi,hg,l3];refine bY ?_;generalize hX:(H1.alloc _).set H1.next _=H4;have u0:H4.get 0=some (.cells [.bC tag 3 (bK l)] false):=(by subst hX;rw[aA.aC,if_neg A0,aA.aI,if_neg A0];exact g0);have u1:H4.get 1=some (.cells (cE d) false):=(by subst hX;rw[aA.aC,if_neg A0,aA.aI,if_neg A0];exact g1);have u2:H4.get 2=some (.cells [.bB] false):=(by subst hX;rw[aA.aC,if_neg A0,aA.aI,if_neg A0];exact g2);have u3:H4.get 3=some (.cells [v] false):=(by subst hX;rw[aA.aC,if_neg A0,aA.aI,if_neg A0];exact g3);have u8:H4.get H1.next=some (.cells (cE p) false):=Zag;have un:H4.next=H1.next+1:=by subst hX;simp only[aA.bA,aA.bH]
   have uo:Own H4 3 v (bK els):=by refine BZ ho A0 fun k h1 h2=>?_;subst hX;rw[aA.aC,if_neg A0,aA.aI,if_neg A0];exact h2
   clear hX;obtain⟨H5,z1,z2,z3,z4,z5⟩:=Has.push (.inr uo) (ys:=[cE (aD.add d p)]) (bytes:=24) rfl (by rw[aR,As,Bw];omega);generalize H1.next=r1 at *;have w1:IntKind.i64.wrap (p.x+d.x)=d.x+p.x:=(by have :=hn.1;have :=hd.1;rw[wrap_i64 A0 A0];omega);have w2:IntKind.i64.wrap (p.y+d.y)=d.y+p.y:=(by have :=hn.2.1;have :=hd.2.1;rw[wrap_i64 A0 A0];omega);have w3:IntKind.i64.wrap (p.z+d.z)=d.z+p.z:=(by have :=hn.2.2;have :=hd.2.2;rw[wrap_i64 A0 A0];omega);have p0:(cE p).getD 0 aB=.int .i64 p.x:=rfl;have p1:(cE p).getD 1 aB=.int .i64 p.y:=rfl;have p2:(cE p).getD 2 aB=.int .i64 p.z:=rfl;have d0:(cE d).getD 0 aB=.int .i64 d.x:=rfl;have d1:(cE d).getD 1 aB=.int .i64 d.y:=rfl;have d2:(cE d).getD 2 aB=.int .i64 d.z:=rfl;have bGu:[AV.int .i64 (d.x+p.x),.int .i64 (d.y+p.y),.int .i64 (d.z+p.z)]=cE (aD.add d p):=rfl;have l3':=oL (aM (aD.add d p));simp only[↓zP,zJ,seval,k3,k6,u1,u3,u8,pZ,aM,p0,p1,p2,d0,d1,d2,w1,w2,w3,bGu,l3'];rw[show dI H4 3 (.bC 1 3 [cE (aD.add d p)])=some [cE (aD.add d p)] from rfl];have y3:H5.get 3=some (.cells [v] false):=(z4 3 A0 (by rw[u3];simp)).trans u3;have y0:=(z4 0 A0 (by rw[u0];simp)).trans u0;have y1:=(z4 1 A0 (by rw[u1];simp)).trans u1;have y2:=(z4 2 A0 (by rw[u2];simp)).trans u2;simp only[z1,bQ,zJ,seval,y3];rw[show bK (els++[aD.add d p])=bK els++[cE (aD.add d p)] from by simp[bK]];refine⟨_,.inr ⟨H4.next,rfl,by simp only[aA.bA];omega,by rw[aA.aC,if_neg A0];exact z3⟩,?_⟩;simp only[seval,y0,y1,y2];exact⟨trivial,trivial,trivial,trivial,by omega⟩
 rintro f' H1 hk ⟨v,ho,g3,g0,g1,g2,gn⟩;rw[Ay] at ho;have k4:f' 4=.ref 2 0:=by rw[hk 4 rfl];simp only[zB,seval];exact f4
 have k6:f' 6=.ref 3 0:=by rw[hk 6 rfl];simp only[zB,seval];exact f6
 have aIp:bK (sA d l)≠[]:=by simpa [bK,sA] using cG
 obtain⟨k,rfl,vw,hkt⟩:∃k,v=.bC (k+2) 3 (bK (sA d l))/\k<H1.next/\H1.get k=some .tok:=by
  rcases ho with ⟨_,h⟩|h
  . exact absurd h aIp
  exact h
 have hck:=RM (t:=k+2) (l:=sA d l) rfl (by rw[uX];omega);refine Tx ?_;apply hK;clear hK K;refine bX ?_;refine Dz ?_;simp only[↓zP,zJ,seval,zD,k6,g3];refine dM (hck _) ?_;simp only[↓zP,zJ,seval,zD,k4,g2];refine bY ?_;refine Tx ?_;have yB:eI (bK (sA d l))=true:=dN bV _;refine⟨rfl,_,by simp only[↓zP,zR,seval,k4];rfl,?_⟩;refine⟨_,2,rfl,fun nw=>?_⟩;simp[pA,gT,kT,PV,yB,ED,AV.free]
end Go.Proofs.YtogfcjbgeebfkaaGreatDoor
namespace Go.Proofs.YtogfcjbgeebfkaaGreatDoor
open Go Go.Av
def qM:List AV:=[1,10,100,1000,10000,100000,1000000,10000000,100000000,1000000000,10000000000,100000000000,1000000000000,10000000000000,100000000000000,1000000000000000,10000000000000000,100000000000000000,1000000000000000000,10000000000000000000].map (AV.int .u64)
def Oo(n:Nat):Option (List AV):=match Nat.beq n 3 with
 |true=>some qM
 |false=>match Nat.beq n 999999999 with
  |true=>some []
  |false=>none
def kK:bF:=Go.Av.Ql Tryz.prog Oo
abbrev St(f:FuncId)(args:List AV)(H:aA)(out:Out)(H':aA):Prop:=Sound Tryz.prog kK f args H out H'
theorem Qz:Fit Tryz.prog kK:=ie (by kernel_rfl)
theorem vO:HT kK:=fun n cs h=>by
 have h:Oo n=some cs:=h;unfold Oo at h;split at h
 . cases h;rfl
 split at h
 . cases h;rfl
 cases h
theorem moT:kK.mo=false:=rfl
theorem toT{f:FuncId}{args:List AV}{v:AV}(ha:cM args=true)(hv:v.free=true)(h:∀H,Sg f args H (.ret v) H)(H:aA):Sound Tryz.prog kK f args H (.ret v) H:=
 (Sound.up (g:=gv) (g':=kK) (fun n cs h=>by cases h) rfl moT (h ⟨0,.nil⟩)).frame vO ha (tk:=none) (fun k hk=>by cases hk) (n:=0) H (xT hv)
theorem aXr{K:List Fact}(h:tH Tryz.prog gv K)(hf:(K.all fun e=>cM e.2.1&&e.2.2.free)=true):tH Tryz.prog kK K:=fun e he H=>by have :=Bg.1 hf e he;rw[Ak] at this;exact toT this.1 this.2 (h e he) H
end Go.Proofs.YtogfcjbgeebfkaaGreatDoor
