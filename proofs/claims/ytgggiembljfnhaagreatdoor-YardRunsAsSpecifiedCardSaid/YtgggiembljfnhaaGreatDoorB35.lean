/-
  Part of the proof of statement 12
-/
import Derived.Test.YtgggiembljfnhaaGreatDoorB33
import Derived.Test.YtgggiembljfnhaaGreatDoorB34
import Derived.Test.YtgggiembljfnhaaGreatDoorB25
import Derived.Test.YtgggiembljfnhaaGreatDoorB27
import Derived.Test.YtgggiembljfnhaaGreatDoorB07
import Derived.Test.YtgggiembljfnhaaGreatDoorB26
set_option linter.unusedVariables false
set_option linter.unusedSimpArgs false
set_option maxRecDepth 100000
set_option maxHeartbeats 16000000
namespace Go.Proofs.YtgggiembljfnhaaGreatDoor
open Go Go.Av Go.aP Go.uE
attribute [local congr] aT aI aL aH aX aQ aM aF aY
attribute [local irreducible] FC bS eF
theorem l9 {tag:Nat} (ht:Nat.blt tag 2=true) {l:List aP.V} {M:Nat} (hl:∀v∈l,cG M v) (hM:M<=2^18) {E:List (Nat×Nat)} (hEl:E.length<=2^20) (hE0:E≠[]) (hE:∀p∈E,p.1<l.length/\p.2<l.length)
 (hS:∀H,Sg 195 [.agg [.bD tag 3 (cH l)]] H (.ret (lG 2 ((E.map pN).map pC))) H) (H:aA):
 Sg 148 [.agg [.bD tag 3 (cH l)]] H (.ret (.bD 0 3 (cH (E.map (WK l))))) H:=by
 refine eC fit eZ aXp (Ai rfl) ZaK ?_ H;unfold aMl;dsimp only;have cY:∀k (h:k<l.length),l.getD k V0=l[k]:=fun k h=>by simp[List.getD,h]
 rw[show lG 2 ((E.map pN).map pC)=.bD 0 2 ((E.map pN).map pC) from if_neg (by simpa using hE0)] at hS;refine Ty ?_;refine bY (hS _) ?_;refine Tz ?_;refine bP [3] (fun i vs H'=>∃v,vs=[v]/\Own H' 3 v (cH ((E.take i).map (WK l)))/\1<=H'.next/\H'.get 0=some (.cells [.bD tag 3 (cH l)] false)) 0 E.length (Az _) (by omega) (by decide) ?_ ?_ ?_ ?_ ?_
 . exact zq
 . exact⟨.aO,by simp only[sm,zB,seval],.nil _ _,by simp only[zI,seval],by simp only[zI,seval]⟩
 . rintro i f H1 h0 hi hk e1 _;have f4:f 4=.bD 0 2 ((E.map pN).map pC):=hk 4 rfl;simp only[↓zP,zG,seval,e1,f4,Af];exact Zae
 . rintro i f H1 h0 hi hk e1 ⟨v,hv,ho,hn,g0⟩;simp only[zM] at hv;have f1:f 1=.ref 0 0:=hk 1 rfl;have f4:f 4=.bD 0 2 ((E.map pN).map pC):=hk 4 rfl;have hg:((E.map pN).map pC).getD i []=pC (pN E[i]):=by rw[Gr];exact gK hi
   obtain⟨ha,hb⟩:=hE _ (Ac hi)
   have pT:(E.take (i+1)).map (WK l)=(E.take i).map (WK l)++[WK l E[i]]:=by rw[An,Ct];simp[hi]
   have xQ:((E.take i).map (WK l)).length<=2^20:=Zah;have hEm:((E.map pN).map pC).length=E.length:=(by rw[Af,Af]);rw[pT];generalize (E.take i).map (WK l)=bB at *;generalize E[i]=p at *;have ga:=dD ha;have gb:=dD hb;have na:=hl _ (Ac ha);have nb:=hl _ (Ac hb);have FG:aP.sub l[p.2] l[p.1]=WK l p:=(by simp only[WK,cY p.2 hb,cY p.1 ha]);have q0:(pC (pN p)).getD 0 aD=.int .i64 (p.1:Int):=rfl;have q1:(pC (pN p)).getD 1 aD=.int .i64 (p.2:Int):=rfl;have r1:(List.drop 1 (pC (pN p))).getD 0 aD=.int .i64 (p.2:Int):=rfl;have r2:1<=(List.drop 1 (pC (pN p))).length:=Ab _;have ta:(cU l[p.1]).take 3=cU l[p.1]:=rfl;have tb:(cU l[p.2]).take 3=cU l[p.2]:=rfl;obtain⟨H5,z1,z2,z3,z4,z5⟩:=Has.push (.inr ho) (ys:=[cU (WK l p)]) (bytes:=24) rfl (by rw[aU,As,Bm];omega);refine aJ ?_;refine Dz ?_;simp only[↓zP,zJ,seval,zD,f1,f4,e1,hv,g0,hEm,hi,hg,aAg,q0,r1,r2,sT,aB,aU,ha,hb,ga,gb,oL (aV l[p.1]),oL (aV l[p.2])];refine fP (wY nb na (by omega) _) ?_;rw[FG];simp only[↓zP,zJ,seval,zD,oL (aV (WK l p))];rw[eL];simp only[z1,cE,seval];rw[show cH (bB++[WK l p])=cH bB++[cU (WK l p)] from by simp[cH]];exact⟨by omega,_,rfl,.inr ⟨H1.next,rfl,by omega,z3⟩,by omega,(z4 0 (by omega) (by rw[g0];simp)).trans g0⟩
 rintro f H1 hk ⟨v,hv,ho,hn,g0⟩;simp only[zM] at hv;rw[Ax] at ho;simp only[↓zP,seval,hv];refine Rx ?_;refine⟨v,0,rfl,fun nw=>?_⟩;have cQ:cH (E.map (WK l))≠[]:=by simpa [cH] using hE0
 rcases ho with ⟨_,h⟩|⟨k,rfl,h1,h2⟩
 . exact absurd h cQ
 have ML:dT (cH (E.map (WK l)))=true:=eK cT _;simp[fG,fA,ML,IZ]
theorem zf {on:List Nat} {a b:Nat}:EH on on.length a b=true↔aP.Next on a b\/aP.Next on b a:=by
 have hg:∀(i x:Nat),i<on.length->(on.getD i 0=x↔on[i]?=some x):=fun i x h=>by simp[List.getD,h]
 simp only[EH,Bz,Ay,Dm,Al,Cf,aP.Next];constructor
 . rintro⟨i,hi,h⟩;have hm:(i+1)%on.length<on.length:=Di _ (by omega)
   rcases h with ⟨h1,h2⟩|⟨h1,h2⟩
   . exact .inl ⟨i,hi,(hg i a hi).1 h1,(hg _ b hm).1 h2⟩
   exact .inr ⟨i,hi,(hg i b hi).1 h1,(hg _ a hm).1 h2⟩
 rintro(⟨i,hi,h1,h2⟩|⟨i,hi,h1,h2⟩)
 . have hm:(i+1)%on.length<on.length:=Di _ (by omega);exact⟨i,hi,.inl ⟨(hg i a hi).2 h1,(hg _ b hm).2 h2⟩⟩
 have hm:(i+1)%on.length<on.length:=Di _ (by omega);exact⟨i,hi,.inr ⟨(hg i b hi).2 h1,(hg _ a hm).2 h2⟩⟩
theorem aw {S:List (aP.V×Int)} {L:aP.V×Int->List Nat} {N:Nat} {x:Int×Int}:
 x∈PR S L N N↔∃a b:Nat,a<b/\b<N/\PV S L a b=true/\x=pN (a,b):=by
 simp only[PR,FL,Fp,Bf,Fh,Ay,Al,Bd,pN];constructor
 . rintro⟨a,ha,b,⟨hb,FX,h⟩,rfl⟩;exact⟨a,b,FX,hb,h,rfl⟩
 rintro⟨a,b,FX,hb,h,rfl⟩;exact⟨a,by omega,b,⟨hb,FX,h⟩,rfl⟩
theorem UE {l:List aP.V} (hl:l.Pairwise iY) {S:List (aP.V×Int)} {L:aP.V×Int->List Nat} (hS:xF l S L) {a b:Nat}:PV S L a b=true↔∃q∈S,aP.Next (L q) a b:=by
 simp only[PV,Bz,zf];constructor
 . rintro⟨q,hq,h|h⟩
   . exact⟨q,hq,h⟩
   obtain⟨n',d',L',F',P',hN'⟩:=(hS.po q hq).back (NC hl) ((hS.fl.mem q).1 hq) h;have j5:=(hS.fl.mem (n',d')).2 F';rw[P'.uniq (hS.po _ j5)] at hN';exact⟨(n',d'),j5,hN'⟩
 rintro⟨q,hq,h⟩;exact⟨q,hq,.inl h⟩
theorem Oo {tag:Nat} (ht:Nat.blt tag 2=true) {l:List aP.V} (h0:uY l=0) {M:Nat} (hn:∀v∈l,cG M v) (hM:M<=2^18):∃U:List aP.V,U.length<=2^20/\U≠[]/\(∀v,v∈U↔IsE l v)/\(∀v∈U,cG (M+M) v)/\
 (∀H,Sg 146 [.agg [.bD tag 3 (cH l)]] H (.ret (.bD (H.next+2) 5 ((nI l).map (dW (qD l))))) (H.alloc .tok))/\
 ∀H,Sg 148 [.agg [.bD tag 3 (cH l)]] H (.ret (.bD 0 3 (cH U))) H:=by
 obtain⟨hs,_,cQ,Ph,hlen,Qw,_⟩:=NJ h0;have hF:=uL hs;have p3:=lh ht hn hM hlen hF Ph
 have hE:∀x∈PR (nI l) (qD l) l.length l.length,∃a b:Nat,a<b/\(∃q∈nI l,aP.Next (qD l q) a b)/\x=pN (a,b):=fun x hx=>by obtain⟨a,b,h1,h2,h3,rfl⟩:=aw.1 hx;exact⟨a,b,h1,(UE hs hF).1 h3,rfl⟩
 have j4:∀q∈nI l,∀a b,aP.Next (qD l q) a b->a<l.length/\b<l.length:=fun q hq a b h=>by have h1:=(hF.po q hq).wN.1 h;exact⟨(dX.1 h1.1).1,(dX.1 h1.2.1).1⟩
 have hE2:∀a b:Nat,a<b->(∃q∈nI l,aP.Next (qD l q) a b)->pN (a,b)∈PR (nI l) (qD l) l.length l.length:=fun a b FX h=>by obtain⟨q,hq,hN⟩:=h;exact aw.2 ⟨a,b,FX,(j4 q hq a b hN).2,(UE hs hF).2 ⟨q,hq,hN⟩,rfl⟩
 have aJc:(PR (nI l) (qD l) l.length l.length).length<=2^20:=by have :=cc (nI l) (qD l) l.length l.length;have :l.length*l.length<=64*64:=Bt hlen hlen;omega
 have hE0:PR (nI l) (qD l) l.length l.length≠[]:=by
  have :=XI hs hF cQ;obtain⟨x,r,h⟩:=Fy this;have hx:x∈edL (nI l) (qD l):=by rw[h];simp
  obtain⟨q,hq,a,b,hN,FX,rfl⟩:=(TB hF).1 hx;intro he;have :=hE2 a b FX ⟨q,hq,hN⟩;rw[he] at this;cases this
 generalize PR (nI l) (qD l) l.length l.length=E at *
 have Xe:E=(E.map fun x=>(x.1.toNat,x.2.toNat)).map pN:=by rw[Gr];refine(Ke E).symm.trans (Fl fun x hx=>?_);obtain⟨a,b,_,_,rfl⟩:=hE x hx;simp[pN]
 generalize hE':(E.map fun x=>(x.1.toNat,x.2.toNat))=E' at *
 have hm':∀p:Nat×Nat,p∈E'↔(∃q∈nI l,aP.Next (qD l q) p.1 p.2)/\p.1<p.2:=fun p=>by
  rw[<-hE',Bf];constructor
  . rintro⟨x,hx,rfl⟩;obtain⟨a,b,h1,h2,rfl⟩:=hE x hx;exact⟨by simpa [pN] using h2,by simpa [pN] using h1⟩
  rintro⟨h1,h2⟩;exact⟨pN p,hE2 p.1 p.2 h2 h1,by simp[pN]⟩
 refine⟨E'.map (WK l),?_,?_,?_,?_,fun H=>Ve tag hn hM hlen hF cQ ht H,fun H=>l9 ht hn hM (E:=E') ?_ ?_ ?_ ?_ H⟩
 . rw[Af,<-hE',Af];exact aJc
 . intro e;rw[Ir,<-hE',Ir] at e;exact hE0 e
 . intro v;rw[Bf];constructor
   . rintro⟨p,hp,rfl⟩;obtain⟨⟨q,hq,h1⟩,h2⟩:=(hm' p).1 hp;have h3:=(hF.po q hq).wN.1 h1;exact⟨q,(hF.fl.mem q).1 hq,p.1,p.2,h3.2,h3.1,h2,rfl⟩
   rintro⟨q,hq,a,b,h1,h2,h3,rfl⟩;have j5:=(hF.fl.mem q).2 hq;exact⟨(a,b),(hm' (a,b)).2 ⟨⟨q,j5,(hF.po q j5).wN.2 ⟨h2,h1⟩⟩,h3⟩,rfl⟩
 . intro v hv;obtain⟨p,hp,rfl⟩:=Bf.1 hv;obtain⟨⟨q,hq,h1⟩,h2⟩:=(hm' p).1 hp;obtain⟨b1,b2⟩:=j4 q hq _ _ h1
   have hg:∀k,k<l.length->cG M (l.getD k V0):=fun k hk=>by have :l.getD k V0=l[k]:=(by simp[List.getD,hk]);rw[this];exact hn _ (Ac hk)
   exact gM (hg _ b2) (hg _ b1)
 . rw[<-hE',Af];exact aJc
 . intro e;rw[<-hE',Ir] at e;exact hE0 e
 . intro p hp;obtain⟨⟨q,hq,h1⟩,h2⟩:=(hm' p).1 hp;exact j4 q hq _ _ h1
 rw[<-Xe];exact p3
theorem Ya {v:aP.V} {B:Nat} (hv:cG B v) (hB:B<2^62) (H:aA):Sg 149 [.agg (c3 fun i=>cI (v.at i))] H (.ret (.agg (cU v))) H:=by
 refine Sp aXq (by simp only[sf,xI fun i _=>dG _]) Zal ?_ H;unfold aMm;dsimp only;have hl:=fun i (hi:i<3)=>NG (c:=fun i=>cI (v.at i)) (fun i _=>dZ _) hi;have l0:(c3 fun i=>cI (v.at i)).take 18=cI (v.at 0):=hl 0 (by decide);have l1:((c3 fun i=>cI (v.at i)).drop 18).take 18=cI (v.at 1):=hl 1 (by decide);have l2:((c3 fun i=>cI (v.at i)).drop 36).take 18=cI (v.at 2):=hl 2 (by decide);have h54:(c3 fun i=>cI (v.at i)).length=54:=tH fun _ _=>dZ _
 have hs:∀i,∀H,Sg 197 [.agg (cI (v.at i))] H (.ret (.iA [.int .i64 (v.at i),.bool true])) H:=fun i=>by have :=cG.c hv i;exact RW (by omega) (by omega)
 refine bQ ?_;refine Ty ?_;refine bR ?_;simp only[↓zP,zJ,seval,sT,h54,l0];refine bY (hs 0 _) ?_;simp only[↓zP,zJ,seval,h54,l1];refine bY (hs 1 _) ?_;simp only[↓zP,zJ,seval,h54,l2];refine bY (hs 2 _) ?_;refine Ty ?_;exact ZaQ
theorem aRu {a b Z:List AV} (ha:a.length=18) (hb:b.length=18) (hZ:Z.length=18):
 (if True/\36<=(a++Z).length/\True then some ((a++Z).take 18++b++(a++Z).drop 36) else none)=some (a++b):=by
 have hl:(a++Z).length=36:=by rw[Ba,ha,hZ]
 rw[if_pos ⟨trivial,by omega,trivial⟩,Ce (by omega),Aq (by omega),Ca (by omega),Ch]
theorem Vs {tag:Nat} (ht:Nat.blt tag 2=true) {l:List aP.V} {M B:Nat} (hl:∀v∈l,cG M v) (hlen:l.length<2^30) {n:aP.V} (hn:cG B n) (hM:M<2^31) (hB:B<2^31) (hs:3*(B*M)<2^62) {x0:aP.V} {r:List aP.V} (hx:l=x0::r) (H:aA):
 Sg 193 [.agg [.bD tag 3 (cH l)],.agg (cU n)] H (.ret (.agg (cI (OI n (aP.dot n x0) l)++cI (Nr n (aP.dot n x0) l)))) H:=by
 have aVq:∀v∈l,∀H,Sg 264 [.agg (cU n),.agg (cU v)] H (.ret (.agg (cI (aP.dot n v)))) H:=fun v hv H=>aHq hn (hl v hv) hB hM hs H;refine Sp aYo (by simp only[sf,dL ht,cT]) (by simp only[AV.free,gD,aEb];rfl) ?_ H;unfold aNk;dsimp only;have x7:0<l.length:=by rw[hx];simp
 have bGv:l[0]=x0:=by subst hx;rfl
 have g0:=dD x7;have hd0:=aVq _ (Ac x7);have a0:asNat (.int .i64 0)=some 0:=rfl;have mE:∀z,(cI z).length=18:=fun z=>by simp[cI,dM,cW]
 have d3:∀v:aP.V,(cU v).take 3=cU v:=fun _=>rfl;refine bQ ?_;refine Ty ?_;refine bR ?_;generalize hX:(((aA.mk 0 .nil).alloc _).alloc _).alloc _=HA;have m0:HA.get 0=some (.cells [.bD tag 3 (cH l)] false):=by subst hX;simp only[zI,seval]
 have m1:HA.get 1=some (.cells (cU n) false):=by subst hX;simp only[zI,seval]
 obtain⟨z,m2,lz⟩:∃z,HA.get 2=some (.cells z false)/\z.length=36:=⟨_,by subst hX;simp only[zI,seval];rfl,by simp[dM];rfl⟩;have mn:HA.next=3:=by subst hX;simp only[zI,seval]
 have mf:cJ HA:=by subst hX;exact(((cJ.nil 0).alloc _).alloc _).alloc _
 clear hX;refine bQ ?_;refine jV 1 (by decide) mf.at1 fun H1 n1 e1=>?_;simp only[↓zP,zJ,seval,zD,m0,m1,mn,e1,a0,aU,x7,g0,oL (aV l[0]),oL (aV n)];have JE:(AV.bool false::AV.bool false::wC zs).length=18:=by simp[dM];rfl
 refine fP (hd0 _) ?_;rw[bGv];generalize hd:aP.dot n x0=d0 at *;rw[mn] at n1;simp only[↓zP,zJ,seval,zD,mE,JE,oL JE,n1,e1];refine bR ?_;have f3:cJ H1:=fun j hj=>by rw[e1 j];exact mf j (by omega)
 generalize hX:(H1.set 3 _).set 3 _=HB;have b0:HB.get 0=some (.cells [.bD tag 3 (cH l)] false):=by subst hX;rw[aA.aC,if_neg (by decide),aA.aC,if_neg (by decide),e1];exact m0
 have b1:HB.get 1=some (.cells (cU n) false):=by subst hX;rw[aA.aC,if_neg (by decide),aA.aC,if_neg (by decide),e1];exact m1
 have b2:HB.get 2=some (.cells z false):=by subst hX;rw[aA.aC,if_neg (by decide),aA.aC,if_neg (by decide),e1];exact m2
 have b3:HB.get 3=some (.cells (cI d0) false):=by subst hX;rw[aA.aC,if_pos rfl]
 have bn:HB.next=4:=by subst hX;simp only[aA.aW];omega
 have bf:cJ HB:=by subst hX;exact(f3.set (by omega) _).set Za7 _
 clear hX;have hT:∀a b:Int,(cI a++cI b).take 18=cI a:=fun a b=>by rw[Ce (by rw[mE];exact Ab _),<-mE a,Ax]
 have hD:∀a b:Int,(cI a++cI b).drop 18=cI b:=fun a b=>by rw[<-mE a,List.drop_left]
 have XX:∀a b:Int,(cI a++cI b).length=36:=fun a b=>by rw[Ba,mE,mE]
 refine bQ ?_;simp only[↓zP,zJ,seval,b3,oL (mE d0)];rw[aRu (mE d0) (mE d0) JE];have z36:(AV.bool false::AV.bool false::AV.int .u32 0::AV.int .u32 0::AV.int .u32 0::AV.int .u32 0::AV.int .u32 0::AV.int .u32 0::AV.int .u32 0::AV.int .u32 0::AV.int .u32 0::AV.int .u32 0::AV.int .u32 0::AV.int .u32 0::AV.int .u32 0::AV.int .u32 0::AV.int .u32 0::AV.int .u32 0::AV.bool false::AV.bool false::wC zs).length=36:=by simp[dM];rfl
 generalize (AV.bool false::AV.bool false::AV.int .u32 0::AV.int .u32 0::AV.int .u32 0::AV.int .u32 0::AV.int .u32 0::AV.int .u32 0::AV.int .u32 0::AV.int .u32 0::AV.int .u32 0::AV.int .u32 0::AV.int .u32 0::AV.int .u32 0::AV.int .u32 0::AV.int .u32 0::AV.int .u32 0::AV.int .u32 0::AV.bool false::AV.bool false::wC zs)=Z36 at *;simp only[zJ,seval,XX,oL z36,bn];refine bR ?_;generalize hX:((HB.alloc _).set 4 _)=HC;have p0:HC.get 0=some (.cells [.bD tag 3 (cH l)] false):=by subst hX;rw[aA.aC,if_neg (by decide),aA.aG,bn,if_neg (by decide)];exact b0
 have p1:HC.get 1=some (.cells (cU n) false):=by subst hX;rw[aA.aC,if_neg (by decide),aA.aG,bn,if_neg (by decide)];exact b1
 have p2:HC.get 2=some (.cells z false):=by subst hX;rw[aA.aC,if_neg (by decide),aA.aG,bn,if_neg (by decide)];exact b2
 have p4:HC.get 4=some (.cells (cI d0++cI d0) false):=by subst hX;rw[aA.aC,if_pos rfl]
 have pn:HC.next=5:=by subst hX;simp only[aA.aW,aA.aR];omega
 have pf:cJ HC:=by subst hX;exact(bf.alloc _).set Zaf _
 clear hX;have lf1:OI n d0 (l.take 1)=d0:=by subst hx;simp[OI,hd]
 have mT:Nr n d0 (l.take 1)=d0:=by subst hx;simp[Nr,hd]
 have aVp:d0.natAbs<=3*(B*M):=by
  have :=AB hn (hl x0 (by rw[hx];simp))
  rwa [hd] at this
 have w16:3*(B*M)<W^16:=by
  have :2^62<W^16:=by decide
  omega
 refine aN fun K hK=>?_;refine bQ ?_;refine Tz ?_;refine bR ?_;refine bP [] (fun i _ H'=>H'.get 0=some (.cells [.bD tag 3 (cH l)] false)/\H'.get 1=some (.cells (cU n) false)/\H'.get 2=some (.cells z false)/\H'.get 4=some (.cells (cI (OI n d0 (l.take i))++cI (Nr n d0 (l.take i))) false)/\5<=H'.next/\cJ H'/\(OI n d0 (l.take i)).natAbs<=3*(B*M)/\(Nr n d0 (l.take i)).natAbs<=3*(B*M)) 1 l.length (by omega) (by omega) (by decide) ?_ ?_ ?_ ?_ ?_
 . exact zq
 . rw[lf1,mT];exact⟨p0,p1,p2,p4,by omega,pf,aVp,aVp⟩
 . rintro i f H2 h0 hi hk e2 ⟨q0,_⟩;have f2:f 2=.ref 0 0:=hk 2 rfl;simp only[↓zP,zJ,seval,e2,f2,q0,aU];exact Zae
 . rintro i f H2 h0 hi hk e2 ⟨q0,q1,q2,q4,qn,qf,c1,c2⟩;have f2:f 2=.ref 0 0:=hk 2 rfl;have f3':f 3=.ref 1 0:=hk 3 rfl;have f6:f 6=.ref 4 0:=hk 6 rfl;have hg:=dD hi;have FE:=Ac hi;have hdi:=aVq _ FE;have hdn:=AB hn (hl _ FE)
   have Ti:OI n d0 (l.take (i+1))=if aP.dot n l[i]<OI n d0 (l.take i) then aP.dot n l[i] else OI n d0 (l.take i):=by unfold OI;rw[An,Jj];simp[hi]
   have Lt:Nr n d0 (l.take (i+1))=if aP.dot n l[i]>Nr n d0 (l.take i) then aP.dot n l[i] else Nr n d0 (l.take i):=by unfold Nr;rw[An,Jj];simp[hi]
   rw[Ti,Lt];generalize OI n d0 (l.take i)=lo at *;generalize Nr n d0 (l.take i)=gQ at *;generalize l[i]=x at *;generalize aP.dot n x=d at *;refine aJ ?_;refine bQ ?_;refine jV 1 (by decide) qf.at1 fun H3 n3 e3=>?_;simp only[↓zP,zJ,seval,zD,f2,f3',e2,q0,q1,e3,aB,aU,hi,hg,oL (aV x),oL (aV n)];refine fP (hdi _) ?_;simp only[↓zP,zJ,seval,zD,mE,JE,oL JE,n3,e3];refine bR ?_;have f3:cJ H3:=fun j hj=>by rw[e3 j];exact qf j (by omega)
   generalize hX:(H3.set H2.next _).set H2.next _=H4;have y0:H4.get 0=some (.cells [.bD tag 3 (cH l)] false):=(by subst hX;rw[aA.aC,if_neg (by omega),aA.aC,if_neg (by omega),e3];exact q0);have y1:H4.get 1=some (.cells (cU n) false):=(by subst hX;rw[aA.aC,if_neg (by omega),aA.aC,if_neg (by omega),e3];exact q1);have y2:H4.get 2=some (.cells z false):=(by subst hX;rw[aA.aC,if_neg (by omega),aA.aC,if_neg (by omega),e3];exact q2);have y4:H4.get 4=some (.cells (cI lo++cI gQ) false):=(by subst hX;rw[aA.aC,if_neg (by omega),aA.aC,if_neg (by omega),e3];exact q4);have y8:H4.get H2.next=some (.cells (cI d) false):=Zai;have yn:5<=H4.next:=(by subst hX;simp only[aA.aW];omega);have yf:cJ H4:=(by subst hX;exact(f3.set (by omega) _).set Za7 _);clear hX e3 f3;have q8:H2.next<H4.next:=Cr fun h=>by have :=yf H2.next (by omega);rw[y8] at this;cases this
   clear n3;generalize H2.next=r8 at *
   have CT:∀y:Int,(decide (rP (some d) (some y)<0)=decide (d<y))/\(decide (rP (some d) (some y)>0)=decide (d>y)):=fun y=>by constructor<;>(rw[Bs];simp only[rP];split<;>(try split)<;>omega)
   refine aN fun K3 Ls=>?_
   have key:∀(f':dE) (H':aA) (lo2:Int),f' 8=.ref r8 0->f' 6=.ref 4 0->H'.get r8=some (.cells (cI d) false)->H'.get 0=some (.cells [.bD tag 3 (cH l)] false)->H'.get 1=some (.cells (cU n) false)->H'.get 2=some (.cells z false)->H'.get 4=some (.cells (cI lo2++cI gQ) false)->5<=H'.next->cJ H'->lo2=(if d<lo then d else lo)->K3 f' [] H':=by
    intro f' H' lo2 v8 v6 u8 u0 u1 u2 u4 un uf plo;apply Ls;clear Ls K3;have gJ:(if d<lo then d else lo).natAbs<=3*(B*M):=Za4;have hcm:=CH (x:=d) (y:=gQ) (by omega) (by omega);have Xc:4<H'.next:=(by omega);refine aN fun K4 hK4=>?_;simp only[↓zP,zJ,seval,v8,v6,u8,u4,XX,hD,oL (mE d),oL (mE gQ)];refine bY (hcm _) ?_;by_cases c:d>gQ
    . have d2:decide (rP (some d) (some gQ)>0)=true:=(by rw[(CT gQ).2];exact Aj c);simp only[↓zP,zG,seval,d2];apply hK4;clear hK4 K4;simp only[↓zP,zJ,seval,v8,v6,u8,u4,XX,hT,oL (mE d),oL (XX lo2 gQ)];rw[if_pos c,<-plo];exact⟨u0,u1,u2,rfl,un,uf.set Xc _,by rw[plo];exact gJ,hdn⟩
    have d2:decide (rP (some d) (some gQ)>0)=false:=(by rw[(CT gQ).2];exact Ag c);simp only[↓zP,zG,seval,d2];apply hK4;clear hK4 K4;refine Tz ?_;rw[if_neg c,<-plo];exact⟨u0,u1,u2,u4,un,uf,by rw[plo];exact gJ,c2⟩
   have hcm:=CH (x:=d) (y:=lo) (by omega) (by omega);have Xc:4<H4.next:=(by omega);clear Ls;refine aN fun K4 hK4=>?_;simp only[↓zP,zJ,seval,f6,y8,y4,XX,hT,oL (mE d)];refine bY (hcm _) ?_;by_cases c:d<lo
   . have d2:decide (rP (some d) (some lo)<0)=true:=(by rw[(CT lo).1];exact Aj c);simp only[↓zP,zG,seval,d2];apply hK4;clear hK4 K4;simp only[↓zP,zJ,seval,f6,y8,y4,XX,hD,oL (mE d)];refine key _ _ d zq (by simp only[zB,seval];exact f6) ?_ ?_ ?_ ?_ ?_ ?_ (yf.set Xc _) (if_pos c).symm
     . rw[aA.aC,if_neg (by omega)];exact y8
     . rw[aA.aC,if_neg (by omega)];exact y0
     . rw[aA.aC,if_neg (by omega)];exact y1
     . rw[aA.aC,if_neg (by omega)];exact y2
     . exact Zbt
     simp only[aA.aW];exact yn
   have d2:decide (rP (some d) (some lo)<0)=false:=(by rw[(CT lo).1];exact Ag c);simp only[↓zP,zG,seval,d2];apply hK4;clear hK4 K4;refine Tz ?_;exact key _ H4 lo zq (by simp only[zB,seval];exact f6) y8 y0 y1 y2 y4 yn yf (if_neg c).symm
 rintro f H2 hk ⟨q0,q1,q2,q4,qn,qf,c1,c2⟩;have f4:f 4=.ref 2 0:=hk 4 rfl;have f6:f 6=.ref 4 0:=hk 6 rfl;rw[Ax] at q4;refine Tx ?_;apply hK;clear hK K;simp only[↓zP,zJ,seval,f4,f6,q4,XX,q2,lz,oL lz,oL (XX (OI n d0 l) (Nr n d0 l))];refine⟨rfl,_,by simp only[↓zP,zR,seval,f4,XX,oL (XX (OI n d0 l) (Nr n d0 l))];rfl,?_⟩;rfl
theorem aHv {ta tb:Nat} (hta:Nat.blt ta 2=true) (htb:Nat.blt tb 2=true) {a b:List aP.V} {M B:Nat} (ha:∀v∈a,cG M v) (hb:∀v∈b,cG M v) (hal:a.length<2^30) (Uq:b.length<2^30) (ha0:a≠[]) (XY:b≠[]) {n:aP.V} (hn:cG B n) (hM:M<2^31) (hB:B<2^31) (hs:3*(B*M)<2^62) (H:aA):
 Sg 147 [.agg [.bD ta 3 (cH a)],.agg [.bD tb 3 (cH b)],.agg (cU n)] H (.ret (.bool (decide (n≠V0)&&yB a b n))) H:=by
 obtain⟨xa,ra,WU⟩:=Fy ha0;obtain⟨xb,rb,hxb⟩:=Fy XY;have hsa:=fun H=>Vs hta ha hal hn hM hB hs WU H;have hsb:=fun H=>Vs htb hb Uq hn hM hB hs hxb H
 have aFo:yB a b n=(decide (Nr n (aP.dot n xa) a<=OI n (aP.dot n xb) b)||decide (Nr n (aP.dot n xb) b<=OI n (aP.dot n xa) a)):=by unfold yB;rw[WU,hxb];rfl
 refine So aXo (by simp only[sf,dL hta,dL htb,cT]) ?_ H;unfold aMk;dsimp only;have hz:[AV.int .i64 0,AV.int .i64 0,AV.int .i64 0]=cU V0:=rfl;have mE:∀z,(cI z).length=18:=fun z=>by simp[cI,dM,cW]
 have hT:∀a b:Int,(cI a++cI b).take 18=cI a:=fun a b=>by rw[Ce (by rw[mE];exact Ab _),<-mE a,Ax]
 have hD:∀a b:Int,(cI a++cI b).drop 18=cI b:=fun a b=>by rw[<-mE a,List.drop_left]
 have XX:∀a b:Int,(cI a++cI b).length=36:=fun a b=>by rw[Ba,mE,mE]
 have z36:(AV.bool false::AV.bool false::AV.int .u32 0::AV.int .u32 0::AV.int .u32 0::AV.int .u32 0::AV.int .u32 0::AV.int .u32 0::AV.int .u32 0::AV.int .u32 0::AV.int .u32 0::AV.int .u32 0::AV.int .u32 0::AV.int .u32 0::AV.int .u32 0::AV.int .u32 0::AV.int .u32 0::AV.int .u32 0::AV.bool false::AV.bool false::wC zs).length=36:=by simp[dM];rfl
 refine bQ ?_;refine Ty ?_;refine bR ?_;generalize hX:(((aA.mk 0 .nil).alloc _).alloc _).alloc _=HA;have m0:HA.get 0=some (.cells [.bD ta 3 (cH a)] false):=by subst hX;simp only[zI,seval]
 have m1:HA.get 1=some (.cells [.bD tb 3 (cH b)] false):=by subst hX;simp only[zI,seval]
 have m2:HA.get 2=some (.cells (cU n) false):=by subst hX;simp only[zI,seval]
 have mn:HA.next=3:=by subst hX;simp only[zI,seval]
 clear hX;refine bQ ?_;by_cases Xf:n=V0
 . simp only[↓zP,zJ,seval,m2,oL (aV n),hz,nG,Aj Xf];refine Rx ?_;rw[Ag (fun h=>h Xf)];rfl
 simp only[↓zP,zJ,seval,m2,oL (aV n),hz,nG,Ag Xf];refine bR ?_;rw[Aj Xf,Co,aFo];refine bQ ?_;simp only[↓zP,zJ,seval,m0,m2,oL (aV n)];refine bY (hsa _) ?_;simp only[↓zP,zJ,seval,mn,XX];refine bR ?_
 have hBM:∀v,v∈a\/v∈b->(aP.dot n v).natAbs<=3*(B*M):=fun v hv=>by
  rcases hv with h|h
  . exact AB hn (ha v h)
  exact AB hn (hb v h)
 have da:=hBM xa (.inl (by rw[WU];simp));have db:=hBM xb (.inr (by rw[hxb];simp));have lan:=TA (n:=n) (l:=a) da fun v hv=>hBM v (.inl hv);have han:=SX (n:=n) (l:=a) da fun v hv=>hBM v (.inl hv);have lbn:=TA (n:=n) (l:=b) db fun v hv=>hBM v (.inr hv);have hbn:=SX (n:=n) (l:=b) db fun v hv=>hBM v (.inr hv);generalize OI n (aP.dot n xa) a=la at *;generalize Nr n (aP.dot n xa) a=ua at *;generalize OI n (aP.dot n xb) b=lb at *;generalize Nr n (aP.dot n xb) b=ub at *;generalize hX:(HA.alloc _).set 3 _=HB;have b1:HB.get 1=some (.cells [.bD tb 3 (cH b)] false):=by subst hX;rw[aA.aC,if_neg (by decide),aA.aG,mn,if_neg (by decide)];exact m1
 have b2:HB.get 2=some (.cells (cU n) false):=by subst hX;rw[aA.aC,if_neg (by decide),aA.aG,mn,if_neg (by decide)];exact m2
 have b3:HB.get 3=some (.cells (cI la++cI ua) false):=by subst hX;rw[aA.aC,if_pos rfl]
 have bn:HB.next=4:=by subst hX;simp only[aA.aW,aA.aR];omega
 clear hX;refine bQ ?_;simp only[↓zP,zJ,seval,b1,b2,oL (aV n)];refine bY (hsb _) ?_;simp only[↓zP,zJ,seval,bn,XX];refine bR ?_;generalize hX:(HB.alloc _).set 4 _=HC;have p3:HC.get 3=some (.cells (cI la++cI ua) false):=by subst hX;rw[aA.aC,if_neg (by decide),aA.aG,bn,if_neg (by decide)];exact b3
 have p4:HC.get 4=some (.cells (cI lb++cI ub) false):=by subst hX;rw[aA.aC,if_pos rfl]
 clear hX
 have w16:3*(B*M)<W^16:=by
  have :2^62<W^16:=by decide
  omega
 have SU:=CH (x:=ua) (y:=lb) (by omega) (by omega);have CT:=CH (x:=ub) (y:=la) (by omega) (by omega)
 have hle:∀x y:Int,decide (rP (some x) (some y)<=0)=decide (x<=y):=fun x y=>by rw[Bs];simp only[rP];split<;>(try split)<;>omega
 refine aN fun K hK=>?_;simp only[↓zP,zJ,seval,p3,p4,XX,hT,hD,oL (mE _)];refine bY (SU _) ?_;by_cases c:ua<=lb
 . have d1:decide (rP (some ua) (some lb)<=0)=true:=by rw[hle];exact Aj c
   simp only[↓zP,zG,seval,d1];apply hK;clear hK K;refine Tx ?_;refine Rx ?_;rw[Aj c];rfl
 have d1:decide (rP (some ua) (some lb)<=0)=false:=by rw[hle];exact Ag c
 simp only[↓zP,zJ,seval,d1,p3,p4,XX,hT,hD,oL (mE _)];refine bY (CT _) ?_;simp only[↓zP,zG,seval,hle];apply hK;clear hK K;refine Tx ?_;refine Rx ?_;rw[Ag c];rfl
theorem TN {ta tb:Nat} (hta:Nat.blt ta 2=true) (htb:Nat.blt tb 2=true) {a b:List aP.V} (ha:uY a=0) (hb:uY b=0) (na:∀v∈a,cG (2^12) v) (nb:∀v∈b,cG (2^12) v) (H:aA):
 Sg 117 [.agg [.bD ta 3 (cH a)],.agg [.bD tb 3 (cH b)]] H (.ret (.bool (vA a b))) H:=by
 obtain⟨U,lU,zU,mU,nU,fa,ea⟩:=Oo hta ha na (by decide);obtain⟨W',lW,zW,mW,nW,fb,eb⟩:=Oo htb hb nb (by decide);obtain⟨sa,_,ha1,ha2,ha3,ha4,_⟩:=NJ ha;obtain⟨sb,_,eQ,gJ,KH,MJ,_⟩:=NJ hb;have hFa:=uL sa;have hFb:=uL sb
 have aFo:∀n,cG (2^27) n->∀H,Sg 147 [.agg [.bD ta 3 (cH a)],.agg [.bD tb 3 (cH b)],.agg (cU n)] H (.ret (.bool (decide (n≠V0)&&yB a b n))) H:=fun n hn H=>aHv hta htb na nb (by omega) (by omega) ha4 MJ hn (by decide) (by decide) (by decide) H
 have rB:∀(T:List (List AV)),T=(nI a).map (dW (qD a))++(nI b).map (dW (qD b))->T.length<=128/\(∀i,i<T.length->∃n,(T.getD i []).take 3=cU n/\(T.getD i []).length=5/\n≠V0/\IsD a b n/\cG (2^27) n)/\∀n d,(pS (fun i=>a.getD i V0) a.length n d\/pS (fun i=>b.getD i V0) b.length n d)->∃i,i<T.length/\(T.getD i []).take 3=cU n:=by
  intro T hT
  have hm:∀x,x∈T->∃n,x.take 3=cU n/\x.length=5/\n≠V0/\IsD a b n/\cG (2^27) n:=fun x hx=>by
   rw[hT,Ao] at hx
   rcases hx with hx|hx
   . obtain⟨q,hq,rfl⟩:=Bf.1 hx;have hF:=(hFa.fl.mem q).1 hq;exact⟨q.1,rfl,rfl,hF.ZU.hn,.inl ⟨q.2,hF⟩,xL na hF⟩
   obtain⟨q,hq,rfl⟩:=Bf.1 hx;have hF:=(hFb.fl.mem q).1 hq;exact⟨q.1,rfl,rfl,hF.ZU.hn,.inr (.inl ⟨q.2,hF⟩),xL nb hF⟩
  have hgm:∀x,x∈T->∃i,i<T.length/\T.getD i []=x:=fun x hx=>by obtain⟨i,hi,h⟩:=Ej hx;exact⟨i,hi,by simp[List.getD,hi,h]⟩
  refine⟨by rw[hT];simp;omega,fun i hi=>?_,fun n d h=>?_⟩
  . have :T.getD i []=T[i]:=by simp[List.getD,hi]
    rw[this];exact hm _ (Ac hi)
  rcases h with h|h
  . obtain⟨i,hi,e⟩:=hgm (dW (qD a) (n,d)) (by rw[hT,Ao];exact .inl (Bf.2 ⟨_,(hFa.fl.mem (n,d)).2 h,rfl⟩));exact⟨i,hi,by rw[e];rfl⟩
  obtain⟨i,hi,e⟩:=hgm (dW (qD b) (n,d)) (by rw[hT,Ao];exact .inr (Bf.2 ⟨_,(hFb.fl.mem (n,d)).2 h,rfl⟩));exact⟨i,hi,by rw[e];rfl⟩
 refine So aWv (by simp only[sf,dL hta,dL htb]) ?_ H;unfold aLs;dsimp only;have KI:((nI b).map (dW (qD b))).isEmpty=false:=by simpa using eQ
 obtain⟨hTl,hTi,hTn⟩:=rB _ rfl;refine bQ ?_;refine Ty ?_;refine bR ?_;generalize hX:((aA.mk 0 .nil).alloc _).alloc _=HA;have m0:HA.get 0=some (.cells [.bD ta 3 (cH a)] false):=by subst hX;simp only[zI,seval]
 have m1:HA.get 1=some (.cells [.bD tb 3 (cH b)] false):=by subst hX;simp only[zI,seval]
 have mn:HA.next=2:=by subst hX;simp only[zI,seval]
 have mf:cJ HA:=by subst hX;exact((cJ.nil 0).alloc _).alloc _
 clear hX;refine bQ ?_;simp only[↓zP,zJ,seval,m0];refine bY (fa _) ?_;refine Tz ?_;refine bR ?_;have oA:Own ((HA.alloc .tok).alloc .tok) 5 (.bD (HA.next+2) 5 ((nI a).map (dW (qD a)))) ((nI a).map (dW (qD a))):=.inr ⟨HA.next,rfl,by simp only[aA.aR];omega,by rw[aA.aG,if_neg Zaf,aA.aG,if_pos rfl]⟩;obtain⟨HB,z1,z2,z3,z4,z5⟩:=Has.push (.inr oA) (ys:=(nI b).map (dW (qD b))) (bytes:=56) KI (by rw[Ba] at hTl;omega);have m0':((HA.alloc .tok).alloc .tok).get 0=some (.cells [.bD ta 3 (cH a)] false):=by rw[aA.aG,if_neg Zaf,aA.aG,if_neg (by omega)];exact m0
 have m1':(HA.alloc .tok).get 1=some (.cells [.bD tb 3 (cH b)] false):=by rw[aA.aG,if_neg (by omega)];exact m1
 have bDn:((HA.alloc .tok).alloc .tok).get 1=some (.cells [.bD tb 3 (cH b)] false):=by rw[aA.aG,if_neg Zaf];exact m1'
 have b0:=(z4 0 Zaf (by rw[m0'];simp)).trans m0';have b1:=(z4 1 Zaf (by rw[bDn];simp)).trans bDn;have bf:=z5 ((mf.alloc _).alloc _);have bn:2<=HB.next:=by rw[z2];simp only[aA.aR];omega
 generalize WM:HA.alloc .tok=HA1 at *;refine bQ ?_;simp only[↓zP,zJ,seval,m1'];refine bY (fb _) ?_;refine Tz ?_;rw[show ∀(h:aA) (x:List (List AV)) (t:Nat),cK h 5 (.bD t 5 x)=some x from fun _ _ _=>rfl];simp only[z1,cE,seval,zI];refine bR ?_;generalize (nI a).map (dW (qD a))++(nI b).map (dW (qD b))=T at *;generalize HA1.next+1+2=tg at *;clear z1 z2 z3 z4 z5 fa fb KI oA;refine aN fun K hK=>?_;refine bQ ?_;refine Tz ?_;refine bR ?_;refine bP [] (fun i _ H'=>H'=HB/\∀j,j<i->∀n,(T.getD j []).take 3=cU n->yB a b n=false) 0 T.length (Az _) (by omega) (by decide) ?_ ?_ ?_ ?_ ?_
 . exact zq
 . exact⟨rfl,fun j hj=>absurd hj (Ap _)⟩
 . rintro i f H1 h0 hi hk e1 _;have f5:f 5=.bD tg 5 T:=hk 5 rfl;simp only[↓zP,zG,seval,e1,f5];exact Zae
 . rintro i f H1 h0 hi hk e1 ⟨rfl,fS⟩;have f2:f 2=.ref 0 0:=hk 2 rfl;have f3:f 3=.ref 1 0:=hk 3 rfl;have f5:f 5=.bD tg 5 T:=hk 5 rfl;obtain⟨n,t3,t5,Xf,hD,hnn⟩:=hTi i hi;have hse:=aFo n hnn;rw[Aj Xf,Co] at hse;have t3':3<=(T.getD i []).length:=by omega
   refine aJ ?_;refine bQ ?_;refine Dz ?_;simp only[↓zP,zJ,seval,zD,f2,f3,f5,e1,b0,b1,aB,hi,t3,t5];refine fP (hse _) ?_;simp only[↓zP,zJ,seval,zD];refine bR ?_;by_cases hs:yB a b n=true
   . simp only[↓zP,zG,seval,hs];refine Rx ?_;rw[show vA a b=true from tJ.2 ⟨n,hD,hs⟩];rfl
   have BX:yB a b n=false:=(by simpa using hs);simp only[↓zP,zG,seval,BX];refine⟨trivial,fun j hj n' JJ=>?_⟩;by_cases hji:j=i
   . subst hji
     have :n'=n:=by rw[t3] at JJ;obtain⟨x,y,z⟩:=n;obtain⟨x',y',z'⟩:=n';simp only[cU,Ip,AV.int.injEq,Ka,Kb] at JJ;obtain⟨h1,h2,h3⟩:=JJ;subst h1;subst h2;subst h3;rfl
     rw[this];exact BX
   exact fS j (by omega) n' JJ
 rintro f H1 hk ⟨rfl,fS⟩;have f2:f 2=.ref 0 0:=hk 2 rfl;have f3:f 3=.ref 1 0:=hk 3 rfl;refine Tx ?_;apply hK;clear hK K;refine bQ ?_;simp only[↓zP,zJ,seval,f2,b0];refine bY (ea _) ?_;refine Tz ?_;refine fF ?_;simp only[↓zP,zJ,seval,f3,b1];refine bY (eb _) ?_;refine Tz ?_;refine bR ?_;refine aN fun K hK=>?_;refine bQ ?_;refine Tz ?_;refine bR ?_;have Ps:∀i (h:i<U.length),(cH U).getD i []=cU U[i]:=fun i h=>dD h;have hwl:∀i (h:i<W'.length),(cH W').getD i []=cU W'[i]:=fun i h=>dD h;have hUl:(cH U).length=U.length:=aU _;have hWl:(cH W').length=W'.length:=aU _;refine bP [] (fun i _ H'=>H'.get 0=some (.cells [.bD ta 3 (cH a)] false)/\H'.get 1=some (.cells [.bD tb 3 (cH b)] false)/\2<=H'.next/\cJ H'/\∀u∈U.take i,∀w∈W',(decide (aP.bC u w≠V0)&&yB a b (aP.bC u w))=false) 0 U.length (Az _) (by omega) (by decide) ?_ ?_ ?_ ?_ ?_
 . exact zq
 . exact⟨b0,b1,bn,bf,fun u hu=>by simp at hu⟩
 . rintro i g H2 h0 hi eP e2 _;have g8:g 8=.bD 0 3 (cH U):=eP 8 rfl;simp only[↓zP,zG,seval,e2,g8,hUl];exact Zae
 . rintro i g H2 h0 hi eP e2 ⟨c0,c1,cn,cf,hnu⟩;have g2:g 2=.ref 0 0:=by rw[eP 2 rfl];simp only[zB,seval];exact f2
   have g3:g 3=.ref 1 0:=(by rw[eP 3 rfl];simp only[zB,seval];exact f3);have g8:g 8=.bD 0 3 (cH U):=eP 8 rfl;have g9:g 9=.bD 0 3 (cH W'):=eP 9 rfl;have hgu:=Ps i hi;have hum:=(mU _).1 (Ac hi);have nu:=nU _ (Ac hi)
   have pT:∀y,y∈U.take (i+1)->y∈U.take i\/y=U[i]:=fun y hy=>by
    rw[An,Ao] at hy
    rcases hy with h|h
    . exact .inl h
    simp[hi] at h;exact .inr h
   generalize U[i]=u at *;refine aJ ?_;refine bQ ?_;refine Tz ?_;refine bR ?_;refine bP [] (fun j _ H'=>H'.get 0=some (.cells [.bD ta 3 (cH a)] false)/\H'.get 1=some (.cells [.bD tb 3 (cH b)] false)/\2<=H'.next/\cJ H'/\∀w∈W'.take j,(decide (aP.bC u w≠V0)&&yB a b (aP.bC u w))=false) 0 W'.length (Az _) (by omega) (by decide) ?_ ?_ ?_ ?_ ?_
   . exact zq
   . exact⟨c0,c1,cn,cf,fun w hw=>by simp at hw⟩
   . rintro j g' H3 h0 hj oT e3 _;have g9':g' 9=.bD 0 3 (cH W'):=(by rw[oT 9 rfl];simp only[zB,seval];exact g9);simp only[↓zP,zG,seval,e3,g9',hWl];exact Zae
   . rintro j g' H3 h0 hj oT e3 ⟨d0,d1,dn,df,hnw⟩;have jh:g' 2=.ref 0 0:=(by rw[oT 2 rfl];simp only[zB,seval];exact g2);have g3':g' 3=.ref 1 0:=(by rw[oT 3 rfl];simp only[zB,seval];exact g3);have g8':g' 8=.bD 0 3 (cH U):=(by rw[oT 8 rfl];simp only[zB,seval];exact g8);have g9':g' 9=.bD 0 3 (cH W'):=(by rw[oT 9 rfl];simp only[zB,seval];exact g9);have g10:g' 10=.int .i64 i:=(by rw[oT 10 rfl];simp only[zB,seval];exact e2);have hgw:=hwl j hj;have hwm:=(mW _).1 (Ac hj);have nw:=nW _ (Ac hj)
     have bGr:∀y,y∈W'.take (j+1)->y∈W'.take j\/y=W'[j]:=fun y hy=>by
      rw[An,Ao] at hy
      rcases hy with h|h
      . exact .inl h
      simp[hj] at h;exact .inr h
     generalize W'[j]=w at *;have ncr:=oB nu nw;have hcr:=k9 nu nw (by decide) (by decide);have xk:=Ya ncr (by decide);have hse:=aFo (aP.bC u w) ncr
     have tP:(decide (aP.bC u w≠V0)&&yB a b (aP.bC u w))=true->vA a b=true:=fun h=>by rw[Al,Bd] at h;exact tJ.2 ⟨_,.inr (.inr ⟨u,w,hum,hwm,rfl,h.1⟩),h.2⟩
     generalize hsv:(decide (aP.bC u w≠V0)&&yB a b (aP.bC u w))=sv at *;have d3:∀v:aP.V,(cU v).take 3=cU v:=fun _=>rfl;refine aJ ?_;refine bQ ?_;refine jV 1 (by decide) df.at1 fun H4 n4 e4=>?_;simp only[↓zP,zJ,seval,zD,g8',g9',g10,e3,aB,hUl,hWl,hi,hj,hgu,hgw,oL (aV u),oL (aV w)];refine fP (hcr _) ?_;simp only[seval];refine fP (xk _) ?_;generalize hcv:aP.bC u w=cv at *;simp only[↓zP,zJ,seval,zD,n4,e4,oL (aV cv)];refine bR ?_;have q0:¬(0=H3.next):=(by omega);have q1:¬(1=H3.next):=(by omega);generalize hX:(H4.set H3.next _).set H3.next _=H5;have y0:H5.get 0=some (.cells [.bD ta 3 (cH a)] false):=(by subst hX;rw[aA.aC,if_neg q0,aA.aC,if_neg q0,e4];exact d0);have y1:H5.get 1=some (.cells [.bD tb 3 (cH b)] false):=(by subst hX;rw[aA.aC,if_neg q1,aA.aC,if_neg q1,e4];exact d1);have y2:H5.get H3.next=some (.cells (cU cv) false):=Zai;have yn:2<=H5.next:=by subst hX;simp only[aA.aW];omega
     have yf:cJ H5:=fun j hj=>by subst hX;simp only[aA.aW] at hj;rw[aA.aC,if_neg (by omega),aA.aC,if_neg (by omega),e4];exact df j (by omega)
     clear hX;generalize H3.next=r5 at *;refine bQ ?_;simp only[↓zP,zJ,seval,jh,g3',y0,y1,y2,oL (aV cv)];refine bY (hse _) ?_;refine Tz ?_;refine bR ?_
     cases sv with
     |true=>refine Tz ?_;refine Rx ?_;rw[tP rfl];rfl
     |false=>
      refine Tz ?_;refine⟨y0,y1,yn,yf,fun y hy=>?_⟩
      rcases bGr y hy with h|rfl
      . exact hnw y h
      rw[hcv];exact hsv
   rintro g' H3 oT ⟨d0,d1,dn,df,hnw⟩;rw[Ax] at hnw;refine Tz ?_;refine⟨d0,d1,dn,df,fun y hy=>?_⟩
   rcases pT y hy with h|rfl
   . exact hnu y h
   exact hnw
 rintro g H2 eP ⟨c0,c1,cn,cf,hnu⟩;rw[Ax] at hnu;refine Tx ?_;apply hK;clear hK K;refine Tz ?_;refine Rx ?_
 have :vA a b=false:=by
  rw[<-Ei,tJ];rintro⟨n,hn,hs⟩
  rcases hn with ⟨d,h⟩|⟨d,h⟩|⟨u,w,hu,hw,rfl,Xf⟩
  . obtain⟨i,hi,e⟩:=hTn n d (.inl h);rw[fS i hi n e] at hs;cases hs
  . obtain⟨i,hi,e⟩:=hTn n d (.inr h);rw[fS i hi n e] at hs;cases hs
  have :=hnu u ((mU u).2 hu) w ((mW w).2 hw);rw[Aj Xf,hs] at this;cases this
 rw[this];rfl
theorem yt:∀c:Fin 256,aGb c.1=((decide (97<=c.1)&&decide (c.1<=122))||(decide (65<=c.1)&&decide (c.1<=90))):=by decide
theorem YZ {c:Nat} (hc:c<256) (H:aA):Sg 143 [.int .u8 c] H (.ret (.bool (aGb c))) H:=by
 refine So aXm Zag ?_ H;unfold aMi;dsimp only;have hl:=yt ⟨c,hc⟩;simp only at hl;rw[hl];have d1:decide ((c:Int)≥97)=decide (97<=c):=by rw[Bs];omega
 have d2:decide ((c:Int)<=122)=decide (c<=122):=by rw[Bs];omega
 have d3:decide ((c:Int)≥65)=decide (65<=c):=by rw[Bs];omega
 have d4:decide ((c:Int)<=90)=decide (c<=90):=by rw[Bs];omega
 generalize decide (97<=c)=A at *;generalize decide (c<=122)=B at *;generalize decide (65<=c)=C at *;generalize decide (c<=90)=D at *
 cases A with
 |true=>
  cases B with
  |true=>simp only[↓zP,zJ,seval,d1,d2,mJ];refine Rx ?_;rfl
  |false=>
   cases C with
   |true=>simp only[↓zP,zJ,seval,d1,d2,d3,d4];refine Rx ?_;rfl
   |false=>simp only[↓zP,zJ,seval,d1,d2,d3];refine Rx ?_;rfl
 |false=>
  cases C with
  |true=>simp only[↓zP,zJ,seval,d1,d3,d4];refine Rx ?_;simp[nB]
  |false=>simp only[↓zP,zJ,seval,d1,d3];refine Rx ?_;simp[nB]
theorem Vo (s:List UInt8) (hlen:s.length<2^63) (H:aA):Sg 114 [.str s] H (.ret (.bool (yI s))) H:=by
 refine So aWt Zag ?_ H;unfold aLq;dsimp only;have d1:decide ((s.length:Int)<1)= !decide (1<=s.length):=by rw[<-Jm,Bs];omega
 have d2:decide ((s.length:Int)>32)= !decide (s.length<=32):=by rw[<-Jm,Bs];omega
 refine bQ ?_;refine Tz ?_;refine fF ?_
 cases h1:decide (1<=s.length) with
 |false=>rw[h1] at d1;simp only[↓zP,zJ,seval,d1];refine Rx ?_;unfold yI;rw[h1];simp[nB]
 |true=>
 rw[h1] at d1
 cases h2:decide (s.length<=32) with
 |false=>rw[h2] at d2;simp only[↓zP,zJ,seval,d1,d2];refine Rx ?_;unfold yI;rw[h2];simp[nB]
 |true=>
 rw[h2] at d2;have h2':=Cu h2;simp only[↓zP,zJ,seval,d1,d2];refine bR ?_;refine aN fun K hK=>?_;refine Tz ?_;refine bP [] (fun i vs H'=>∀k,k<i->UI k (s.getD k 0).toNat=true) 0 s.length (Az _) (by omega) (by decide) ?_ ?_ ?_ ?_ ?_
 . exact zq
 . exact fun k hk=>absurd hk (Ap _)
 . rintro i f H1 h0 hi hk e1 _;have f0:f 0=.str s:=hk 0 rfl;simp only[↓zP,zG,seval,e1,f0];exact Zae
 . rintro i f H1 h0 hi hk e1 hJ;have f0:f 0=.str s:=hk 0 rfl
   have hg:s[i]?=some (s.getD i 0):=(by simp[List.getD,hi]);have aVj:(s.getD i 0).toNat<256:=(s.getD i 0).toNat_lt
   have bU:UI i (s.getD i 0).toNat=true->∀k,k<i+1->UI k (s.getD k 0).toNat=true:=fun h k hk=>by
    by_cases e:k=i
    . subst e;exact h
    exact hJ k (by omega)
   have fS:UI i (s.getD i 0).toNat=false->yI s=false:=fun h=>by
    have :(List.range s.length).all (fun k=>UI k (s.getD k 0).toNat)=false:=by rw[El];exact⟨i,Ay.2 hi,by rw[h];decide⟩
    unfold yI;rw[this];rfl
   have bFo:=YZ aVj;refine aJ ?_;refine aN fun K2 bW=>?_;simp only[↓zP,zG,seval,e1,f0,aB,hg];refine bY (bFo _) ?_;generalize hb:s.getD i 0=b at *;generalize hc:b.toNat=c at *;have d4:((i:Int)==0)=decide (i=0):=by rw[Bool.beq_eq_decide_eq,Bs];omega
   have d5:((c:Int) != 95)= !decide (c=95):=by have :((c:Int)==95)=decide (c=95):=(by rw[Bool.beq_eq_decide_eq,Bs];omega);rw[bne,this]
   have d6:decide ((c:Int)<48)= !decide (48<=c):=(by rw[<-Jm,Bs];omega);have d7:decide ((c:Int)>57)= !decide (c<=57):=(by rw[<-Jm,Bs];omega);unfold UI at bU fS;generalize aGb c=LC at *;generalize decide (i=0)=D4 at *;generalize decide (c=95)=D5 at *;generalize decide (48<=c)=D6 at *;generalize decide (c<=57)=D7 at *
   cases LC with
   |true=>simp only[↓zP,zJ,seval,mJ];apply bW;clear bW K2;refine Tz ?_;exact bU (by simp)
   |false=>
    cases D4 with
    |true=>simp only[↓zP,zJ,seval,e1,d4,mJ];apply bW;clear bW K2;refine Tz ?_;refine Rx ?_;rw[fS (by simp)];rfl
    |false=>
     cases D5 with
     |true=>simp only[↓zP,zJ,seval,f0,e1,aB,hg,hc,d4,d5,mJ];apply bW;clear bW K2;refine Tz ?_;exact bU (by simp)
     |false=>
      cases D6 with
      |false=>simp only[↓zP,zJ,seval,f0,e1,aB,hg,hc,d4,d5,d6];apply bW;clear bW K2;refine Tz ?_;refine Rx ?_;rw[fS (by simp)];rfl
      |true=>
       cases D7 with
       |false=>simp only[↓zP,zJ,seval,f0,e1,aB,hg,hc,d4,d5,d6,d7];apply bW;clear bW K2;refine Tz ?_;refine Rx ?_;rw[fS (by simp)];rfl
       |true=>simp only[↓zP,zJ,seval,f0,e1,aB,hg,hc,d4,d5,d6,d7];apply bW;clear bW K2;refine Tz ?_;exact bU (by simp)
 rintro f H1 hk hJ
 have bU:(List.range s.length).all (fun k=>UI k (s.getD k 0).toNat)=true:=by rw[Aw];exact fun k hk=>hJ k (Ay.1 hk)
 refine Tx ?_;apply hK;clear hK K;refine Tz ?_;refine Rx ?_;unfold yI;rw[bU,h1,h2];rfl
theorem Ua {v:aP.V}:NZ v=true↔∃c,c<3/\(v.at c>4096\/v.at c< -4096):=by
 unfold NZ;simp only[Dm,Bd];constructor
 . rintro(h|h|h)
   . exact⟨0,by decide,h⟩
   . exact⟨1,by decide,h⟩
   exact⟨2,by decide,h⟩
 rintro⟨c,hc,h⟩
 match c,hc with
 |0,_=>exact .inl h
 |1,_=>exact .inr (.inl h)
 |2,_=>exact .inr (.inr h)
theorem mz {tag:Nat} (ht:Nat.blt tag 2=true) {l:List aP.V} (hlen:l.length<2^30) (H:aA):
 Sg 116 [.agg [.bD tag 3 (cH l)]] H (.ret (.bool (!l.any NZ))) H:=by
 refine So aWu ZaK ?_ H;unfold aLr;dsimp only;have FB:(cH l).length=l.length:=aU _;refine Ty ?_;refine bP [] (fun i _ H'=>H'.get 0=some (.cells [.bD tag 3 (cH l)] false)/\∀v∈l.take i,NZ v=false) 0 l.length (Az _) (by omega) (by decide) ?_ ?_ ?_ ?_ ?_
 . exact zq
 . exact⟨by simp only[zI,seval],fun v hv=>by simp at hv⟩
 . rintro i f H1 h0 hi hk e1 ⟨g0,_⟩;have f1:f 1=.ref 0 0:=hk 1 rfl;simp only[↓zP,zJ,seval,e1,f1,g0,FB];exact Zae
 . rintro i f H1 h0 hi hk e1 ⟨g0,fS⟩;have f1:f 1=.ref 0 0:=hk 1 rfl;have hg:=dD hi;have FE:=Ac hi
   have hx:∀v,v∈l.take (i+1)->v∈l.take i\/v=l[i]:=fun v hv=>by
    exact Zas
   generalize l[i]=x at *;refine aJ ?_;refine bQ ?_;refine Tz ?_;refine bR ?_;refine bP [] (fun j _ H'=>H'.get 0=some (.cells [.bD tag 3 (cH l)] false)/\∀c,c<j->¬(x.at c>4096)/\¬(x.at c< -4096)) 0 3 (Az _) (by decide) (by decide) ?_ ?_ ?_ ?_ ?_
   . exact zq
   . exact⟨g0,fun c hc=>absurd hc (Ap _)⟩
   . rintro j g H2 Nl hj eP e2 hJ;simp only[↓zP,zG,seval,e2];exact Zae
   . rintro j g H2 Nl hj eP e2 ⟨ET,hc⟩;have u1:g 1=.ref 0 0:=(by rw[eP 1 rfl];simp only[zB,seval];exact f1);have u3:g 3=.int .i64 i:=Zbk;have Pk:(x.at j>4096\/x.at j< -4096)->l.any NZ=true:=fun h=>Bz.2 ⟨x,FE,Ua.2 ⟨j,hj,h⟩⟩;have hdl:1<=(List.drop j (cU x)).length:=(by rw[Fq,aV];omega);have hdg:(List.drop j (cU x)).getD 0 aD=.int .i64 (x.at j):=(by rw[<-kQ x hj];simp[List.getD]);refine aJ ?_;refine aN fun K2 bW=>?_;by_cases c1:x.at j>4096
     . have d1:=Aj c1;simp only[↓zP,zJ,seval,e2,u1,u3,ET,aB,aU,hi,hg,hj,hdl,hdg,d1];apply bW;clear bW K2;refine Tz ?_;refine Rx ?_;rw[Pk (.inl c1)];rfl
     have d1:=Ag c1;by_cases c2:x.at j< -4096
     . have d2:=Aj c2;simp only[↓zP,zJ,seval,e2,u1,u3,ET,aB,aU,hi,hg,hj,hdl,hdg,d1,d2];apply bW;clear bW K2;refine Tz ?_;refine Rx ?_;rw[Pk (.inr c2)];rfl
     have d2:=Ag c2;simp only[↓zP,zJ,seval,e2,u1,u3,ET,aB,aU,hi,hg,hj,hdl,hdg,d1,d2];apply bW;clear bW K2;refine Tz ?_;refine⟨ET,fun c h=>?_⟩;by_cases hcj:c=j
     . subst hcj;exact⟨c1,c2⟩
     exact hc c (by omega)
   rintro g H2 eP ⟨ET,hc⟩;refine Tx ?_;refine⟨ET,fun v hv=>?_⟩
   rcases hx v hv with h|rfl
   . exact fS v h
   rw[<-Ei,Ua];rintro⟨c,h1,h2⟩;have :=hc c h1;omega
 rintro f H1 hk ⟨g0,fS⟩;rw[Ax] at fS;refine Tx ?_;refine Rx ?_
 have :l.any NZ=false:=by rw[Da];exact fun v hv=>by rw[fS v hv];decide
 rw[this];rfl
theorem al (n:aP.V):∀(l:List aP.V) (m:Int),OI (aP.neg n) (-m) l= -(Nr n m l)
 |[],m=>rfl
 |v::l,m=>by
  have ih:=al n l;unfold OI Nr at ih ⊢;simp only[Ho]
  have :(if aP.dot (aP.neg n) v< -m then aP.dot (aP.neg n) v else -m)= -(if aP.dot n v>m then aP.dot n v else m):=by
   rw[pG];by_cases h:aP.dot n v>m
   . rw[if_pos h,if_pos (by omega)]
   rw[if_neg h,if_neg (by omega)]
  rw[this,ih]
theorem Zm (n:aP.V):∀(l:List aP.V) (m:Int),Nr (aP.neg n) (-m) l= -(OI n m l)
 |[],m=>rfl
 |v::l,m=>by
  have ih:=Zm n l;unfold OI Nr at ih ⊢;simp only[Ho]
  have :(if aP.dot (aP.neg n) v> -m then aP.dot (aP.neg n) v else -m)= -(if aP.dot n v<m then aP.dot n v else m):=by
   rw[pG];by_cases h:aP.dot n v<m
   . rw[if_pos h,if_pos (by omega)]
   rw[if_neg h,if_neg (by omega)]
  rw[this,ih]
theorem Kq (a b:List aP.V) (n:aP.V):yB a b n=yB b a n:=by unfold yB;exact Bool.or_comm _ _
theorem aBp (a b:List aP.V) (n:aP.V):yB a b (aP.neg n)=yB a b n:=by
 unfold yB;simp only[pG,al,Zm];rw[Bool.or_comm];congr 1
 . rw[Bs];omega
 rw[Bs];omega
theorem US {a b:List aP.V} (h:vA a b=true):vA b a=true:=by
 obtain⟨n,hD,hs⟩:=tJ.1 h
 rcases hD with hF|hF|⟨u,w,hu,hw,rfl,hn⟩
 . exact tJ.2 ⟨n,.inr (.inl hF),by rw[Kq];exact hs⟩
 . exact tJ.2 ⟨n,.inl hF,by rw[Kq];exact hs⟩
 refine tJ.2 ⟨aP.neg (aP.bC u w),.inr (.inr ⟨w,u,hw,hu,(XC u w).symm,fun e=>TF hn e⟩),?_⟩;rw[aBp,Kq];exact hs
theorem iy (a b:List aP.V):vA a b=vA b a:=by rw[Ci];exact⟨US,US⟩
theorem YL {name:List UInt8} (Qx:name.length<2^63) {ps:List (AV×List aP.V)} (Uv:∀p∈ps,vS p) (hlen:∀p∈ps,p.2.length<2^30) (nS:ps.length<2^30) (m0 m1 r0 r1:Int) (H:aA):
 Sg 87 [.agg (tG name (.bD 0 1 (Mb ps)) m0 m1 r0 r1)] H (.ret (.int .i64 (zQ name (ps.map (·.2)) m0 m1 r0 r1))) H:=by
 have ML:bO [AV.agg (tG name (.bD 0 1 (Mb ps)) m0 m1 r0 r1)]=true:=by simp only[sf,tG,Vc Uv]
 refine So bDc ML ?_ H;have FB:(ps.map (·.2)).length=ps.length:=Af _;unfold W87;dsimp only;have Tj:(Mb ps).length=ps.length:=Af _;have d1:decide ((ps.length:Int)<1)=decide (ps.length<1):=by rw[Bs];omega
 have d2:decide ((ps.length:Int)>8)=decide (8<ps.length):=by rw[Bs];omega
 refine bQ ?_;simp only[↓zP,zJ,seval,tG];refine bR ?_;generalize hX:(aA.mk 0 .nil).alloc _=HA;have g0:HA.get 0=some (.cells [.str name,.bD 0 1 (Mb ps),.int .i64 m0,.int .i64 m1,.int .i64 r0,.int .i64 r1] false):=by subst hX;simp only[zI,seval]
 clear hX;have hvo:=Vo name Qx;refine bQ ?_;simp only[↓zP,zJ,seval,g0];refine bY (hvo _) ?_
 cases hv:yI name with
 |false=>refine Ty ?_;refine Rx ?_;unfold zQ;rw[if_pos hv];rfl
 |true=>
 refine Ty ?_;refine fF ?_
 cases h1:decide (ps.length<1) with
 |true=>rw[h1] at d1;simp only[↓zP,zJ,seval,g0,Tj,d1];refine Rx ?_;unfold zQ;rw[if_neg (by rw[hv];decide),if_pos (.inl (by rw[FB];exact Cu h1))];rfl
 |false=>
 rw[h1] at d1
 cases h2:decide (8<ps.length) with
 |true=>rw[h2] at d2;simp only[↓zP,zJ,seval,g0,Tj,d1,d2];refine Rx ?_;unfold zQ;rw[if_neg (by rw[hv];decide),if_pos (.inr (by rw[FB];exact Cu h2))];rfl
 |false=>
 rw[h2] at d2
 have Za:aDw m0 m1 r0 r1=true->zQ name (ps.map (·.2)) m0 m1 r0 r1=1:=fun hb=>by unfold zQ;rw[if_neg (by rw[hv];decide),if_neg (by rw[FB];intro h;rcases h with h|h;exact Dn h1 h;exact Dn h2 h),if_pos hb]
 have hB0:aDw m0 m1 r0 r1=false->zQ name (ps.map (·.2)) m0 m1 r0 r1=Lf (ps.map (·.2)):=fun hb=>by unfold zQ;rw[if_neg (by rw[hv];decide),if_neg (by rw[FB];intro h;rcases h with h|h;exact Dn h1 h;exact Dn h2 h),if_neg (by rw[hb];decide)]
 unfold aDw at Za hB0;simp only[↓zP,zJ,seval,g0,Tj,d1,d2];refine bR ?_;refine bV fun f hf=>?_;have f1:f 1=.ref 0 0:=by subst hf;simp only[zB,seval]
 clear hf;refine aN fun K hK=>?_
 cases XU:decide (m0<1) with
 |true=>rw[XU] at Za;simp only[↓zP,zJ,seval,f1,g0,sT,XU];refine Rx ?_;rw[Za (by simp)];rfl
 |false=>
 cases jh:decide (m1<m0) with
 |true=>rw[jh] at Za;simp only[↓zP,zJ,seval,f1,g0,sT,XU,jh];refine Rx ?_;rw[Za (by simp)];rfl
 |false=>
 cases g3':decide (m1>1099511627776) with
 |true=>rw[g3'] at Za;simp only[↓zP,zJ,seval,f1,g0,sT,XU,jh,g3'];refine Rx ?_;rw[Za (by simp)];rfl
 |false=>
 cases g4':decide (r0<0) with
 |true=>rw[g4'] at Za;simp only[↓zP,zJ,seval,f1,g0,sT,XU,jh,g3',g4'];refine Rx ?_;rw[Za (by simp)];rfl
 |false=>
 cases g5':decide (r1<r0) with
 |true=>rw[g5'] at Za;simp only[↓zP,zJ,seval,f1,g0,sT,XU,jh,g3',g4',g5'];refine Rx ?_;rw[Za (by simp)];rfl
 |false=>
 cases g6':decide (r1>4000) with
 |true=>rw[g6'] at Za;simp only[↓zP,zJ,seval,f1,g0,sT,XU,jh,g3',g4',g5',g6'];refine Rx ?_;rw[Za (by simp)];rfl
 |false=>
 rw[XU,jh,g3',g4',g5',g6'] at hB0;rw[hB0 rfl] at hK ⊢;clear Za hB0;simp only[↓zP,zJ,seval,f1,g0,sT,XU,jh,g3',g4',g5',g6'];apply hK;clear hK K;refine bV fun g hf=>?_;have g1:=Ks hf f1;clear hf f1 f
 have hF:∀i (hi:i<ps.length),(∀j (hj:j<i),lX (ps[j]'(De hj hi)).2=0)->lX ps[i].2≠0->Lf (ps.map (·.2))=lX ps[i].2:=fun i hi h1 h2=>by have :=YX (ls:=ps.map (·.2)) (i:=i) (by rw[FB];exact hi) (fun j hj=>by rw[Dq];exact h1 j hj) (by rw[Dq];exact h2);rw[this,Dq]
 generalize Zc:[AV.str name,.bD 0 1 (Mb ps),.int .i64 m0,.int .i64 m1,.int .i64 r0,.int .i64 r1]=bc at *;have bg1:bc.getD 1 aD=.bD 0 1 (Mb ps):=by subst Zc;rfl
 have bl:bc.length=6:=by subst Zc;rfl
 refine aN fun K hK=>?_;refine bQ ?_;refine Tz ?_;refine bR ?_;refine bP [] (fun i _ H'=>H'=HA/\∀j (hj:j<i) (hl:j<ps.length),lX ps[j].2=0) 0 ps.length (Az _) (by omega) (by decide) ?_ ?_ ?_ ?_ ?_
 . exact zq
 . exact⟨rfl,fun j hj=>absurd hj (Ap _)⟩
 . rintro i f H1 h0 hi hk e1 ⟨rfl,_⟩;have f1:f 1=.ref 0 0:=by rw[hk 1 rfl];simp only[zB,seval];exact g1
   simp only[↓zP,zJ,seval,e1,f1,g0,bl,bg1,Tj];exact Zae
 . rintro i f H1 h0 hi hk e1 ⟨rfl,hJ⟩;have f1:f 1=.ref 0 0:=by rw[hk 1 rfl];simp only[zB,seval];exact g1
   have hg:(Mb ps).getD i []=[ps[i].1]:=gK hi;have hp:=Uv _ (Ac hi);have hl:=hlen _ (Ac hi);have hFi:=hF i hi (fun j hj=>hJ j hj (De hj hi))
   have hJn:lX ps[i].2=0->∀j (hj:j<i+1) (hl:j<ps.length),lX ps[j].2=0:=fun h j hj hl=>by
    by_cases e:j=i
    . subst e;exact h
    exact hJ j (by omega) hl
   generalize ps[i]=p at *;obtain⟨pv,l⟩:=p;simp only at hg hp hl hFi hJn;have hc:=Om hp hl;simp only at hc;refine aJ ?_;refine bQ ?_;simp only[↓zP,zJ,seval,e1,f1,g0,bl,bg1,aB,Tj,hi,hg];refine bY (hc _) ?_;refine Tz ?_;refine bR ?_;refine aN fun K2 bW=>?_;by_cases he:uY l=0
   . have hb:(uY l != 0)=false:=(by simp[he]);obtain⟨_,_,_,_,aVv,Qw,bJf⟩:=NJ he
     obtain⟨rfl⟩:pv=.bD 0 3 (cH l):=by
      rcases hp with ⟨_,h⟩|h
      . exact absurd h Qw
      exact h
     have hsh:=mz (tag:=0) rfl hl;simp only[↓zP,zG,seval,hb];apply bW;clear bW K2;simp only[↓zP,zJ,seval,e1,f1,g0,bl,bg1,aB,Tj,hi,hg];refine bY (hsh _) ?_
     cases hfa:l.any NZ with
     |true=>have aWb:lX l=1:=(by unfold lX;rw[if_neg (by simp[he]),hfa];rfl);refine Ty ?_;refine Rx ?_;rw[hFi (by rw[aWb];decide),aWb];rfl
     |false=>have bGd:lX l=0:=(by unfold lX;rw[if_neg (by simp[he]),hfa];rfl);refine Ty ?_;exact⟨trivial,hJn bGd⟩
   have hb:(uY l != 0)=true:=(by simp[he]);have hpc:lX l=uY l:=(by unfold lX;rw[if_pos he]);simp only[↓zP,zG,seval,hb];refine Rx ?_;rw[hFi (by rw[hpc];exact he),hpc];rfl
 rintro f H1 hk ⟨rfl,hJ⟩;have bU:∀j (hl:j<ps.length),lX ps[j].2=0:=fun j hl=>hJ j hl hl
 have hR:=YW (ls:=ps.map (·.2)) (fun l hl=>by
  obtain⟨p,hp,rfl⟩:=Bf.1 hl;obtain⟨j,hj,rfl⟩:=Ej hp
  exact bU j hj)
 have Zt:∀j (hl:j<ps.length),uY ps[j].2=0/\ps[j].1=.bD 0 3 (cH ps[j].2)/\∀v∈ps[j].2,cG (2^12) v:=fun j hl=>by
  obtain⟨h0,hfv⟩:=aHg (bU j hl);refine⟨h0,?_,fun v hv=>?_⟩
  . rcases Uv _ (Ac hl) with ⟨_,h⟩|h
    . rw[h,NK] at h0;cases h0
    exact h
  have :=hfv v hv;simp only[NZ,Cy,Bh] at this;unfold cG;omega
 have f1:f 1=.ref 0 0:=by rw[hk 1 rfl];simp only[zB,seval];exact g1
 refine Tx ?_;apply hK;clear hK K;refine aN fun K hK=>?_;refine bQ ?_;refine Tz ?_;refine bR ?_;refine bP [] (fun i _ H'=>H'=H1/\∀a k (ha:a<i) (hl:a<ps.length) (hk:k<a),vA ps[a].2 (ps[k]'(De hk hl)).2=true) 0 ps.length (Az _) (by omega) (by decide) ?_ ?_ ?_ ?_ ?_
 . exact zq
 . exact⟨rfl,fun a k ha=>absurd ha (Ap _)⟩
 . rintro i f2 H2 h0 hi eP e2 ⟨rfl,_⟩;have u1:f2 1=.ref 0 0:=by rw[eP 1 rfl];simp only[zB,seval];exact f1
   simp only[↓zP,zJ,seval,e2,u1,g0,bl,bg1,Tj];exact Zae
 . rintro i f2 H2 h0 hi eP e2 ⟨rfl,hJ2⟩;have u1:f2 1=.ref 0 0:=by rw[eP 1 rfl];simp only[zB,seval];exact f1
   have hg:(Mb ps).getD i []=[ps[i].1]:=gK hi;obtain⟨tR,sY,Pr⟩:=Zt i hi
   have hJn:(∀k (hk:k<i),vA ps[i].2 (ps[k]'(De hk hi)).2=true)->∀a k (ha:a<i+1) (hl:a<ps.length) (hk:k<a),vA ps[a].2 (ps[k]'(De hk hl)).2=true:=fun h a k ha hl hk=>by
    by_cases e:a=i
    . subst e;exact h k hk
    exact hJ2 a k (by omega) hl hk
   have hov:∀k (hk:k<i),vA ps[i].2 (ps[k]'(De hk hi)).2=false->Lf (ps.map (·.2))=150:=fun k hk h=>by have :=YG (ls:=ps.map (·.2)) (i:=i) (k:=k) (by rw[FB];exact hi) hk (by rw[Dq,Dq];exact h);rw[hR,this];rfl
   rw[sY] at hg;refine aJ ?_;refine bQ ?_;refine Tz ?_;refine bR ?_;refine bP [] (fun k vs H'=>H'=H2/\∀a (ha:a<k) (hl:a<i),vA ps[i].2 (ps[a]'(De hl hi)).2=true) 0 i (Az _) (by omega) (by decide) ?_ ?_ ?_ ?_ ?_
   . exact zq
   . exact⟨rfl,fun a ha=>absurd ha (Ap _)⟩
   . rintro k f3 H3 h0 wx oT e3 _;have w5:f3 5=.int .i64 i:=(by rw[oT 5 rfl];simp only[zB,seval];exact e2);simp only[↓zP,zG,seval,e3,w5];exact Zae
   . rintro k f3 H3 h0 wx oT e3 ⟨rfl,hJ3⟩;have w1:f3 1=.ref 0 0:=(by rw[oT 1 rfl];simp only[zB,seval];exact u1);have w5:f3 5=.int .i64 i:=(by rw[oT 5 rfl];simp only[zB,seval];exact e2);have tQ:=De wx hi;obtain⟨RB,BY,MS⟩:=Zt k tQ;have Zk:(Mb ps).getD k []=[ps[k].1]:=gK tQ;rw[BY] at Zk;have hd:=TN (ta:=0) (tb:=0) rfl rfl RB tR MS Pr
     have bEo:vA ps[i].2 ps[k].2=true->∀a (ha:a<k+1) (hl:a<i),vA ps[i].2 (ps[a]'(De hl hi)).2=true:=fun h a ha hl=>by
      by_cases e:a=k
      . subst e;exact h
      exact hJ3 a (by omega) hl
     have bGc:=hov k wx;rw[iy] at hd;generalize ps[k]=q at *;generalize bJq:ps[i]=p at *;refine aJ ?_;refine bQ ?_;refine Dz ?_;simp only[↓zP,zJ,seval,zD,w1,w5,e3,g0,bl,bg1,aB,Tj,hi,tQ,hg,Zk];refine fP (hd _) ?_;simp only[↓zP,zJ,seval,zD];refine bR ?_
     cases hdb:vA p.2 q.2 with
     |true=>refine Ty ?_;exact⟨trivial,bEo hdb⟩
     |false=>refine Ty ?_;refine Rx ?_;rw[bGc hdb];rfl
   rintro f3 H3 oT ⟨rfl,hJ3⟩;refine Tx ?_;exact⟨trivial,hJn fun k hk=>hJ3 k hk hk⟩
 rintro f2 H2 eP ⟨rfl,hJ2⟩
 have :=VV (ls:=ps.map (·.2)) (fun a k ha hk=>by
  rw[Dq,Dq]
  exact hJ2 a k (by rwa [FB] at ha) (by rwa [FB] at ha) hk)
 refine Tx ?_;apply hK;clear hK K;refine Tz ?_;refine Rx ?_;rw[hR,this];rfl
theorem YM {name:List UInt8} (Qx:name.length<2^63) (m0 m1 r0 r1:Int) (H:aA):
 Sg 87 [.agg (tG name .aO m0 m1 r0 r1)] H (.ret (.int .i64 (zQ name [] m0 m1 r0 r1))) H:=by
 refine So bDc (by simp only[sf,tG]) ?_ H;unfold W87;dsimp only;refine bQ ?_;simp only[↓zP,zJ,seval,tG];refine bR ?_;have hvo:=Vo name Qx;have d1:decide ((0:Int)<1)=true:=rfl;refine bQ ?_;refine Ty ?_;refine bY (hvo _) ?_
 cases hv:yI name with
 |false=>refine Ty ?_;refine Rx ?_;unfold zQ;rw[if_pos hv];rfl
 |true=>
 refine Ty ?_;refine bR ?_;refine aN fun K hK=>?_;simp only[↓zP,zJ,seval,Gm];refine Rx ?_;unfold zQ;rw[if_neg (by rw[hv];decide),if_pos (.inl (by decide))];rfl
theorem k8 {name:List UInt8} (Qx:name.length<2^63) {pv:AV} {ps:List (AV×List aP.V)} (wE:Ms pv ps) (Uv:∀p∈ps,vS p) (hlen:∀p∈ps,p.2.length<2^30) (nS:ps.length<2^30) (m0 m1 r0 r1:Int) (H:aA):
 Sg 87 [.agg (tG name pv m0 m1 r0 r1)] H (.ret (.int .i64 (zQ name (ps.map (·.2)) m0 m1 r0 r1))) H:=by
 rcases wE with ⟨h1,h2⟩|h1
 . rw[h1,h2];exact YM Qx m0 m1 r0 r1 H
 rw[h1];exact YL Qx Uv hlen nS m0 m1 r0 r1 H
end Go.Proofs.YtgggiembljfnhaaGreatDoor
namespace Go.Proofs.YtgggiembljfnhaaGreatDoor
open Go Go.Av
attribute [local congr] aT aI aL aH aX aQ aM aF aY
attribute [local irreducible] FC bS eF
theorem Th.free {t:Th} (h:t.OK):bO t.cs=true:=by simp only[Th.cs,tG,gD,sf,jI,h.parts.free h.part]
theorem np {t:Th} (qP:t.OK) (hfw:t.Few) (H:aA):Sg 41 [.agg t.cs] H (.ret (.int .i64 (WX t))) H:=by
 refine So bHp (by simp only[bO,AV.free,Th.free qP];rfl) ?_ H;unfold W41;dsimp only;have MQ:=Th.len qP;have k0:t.cs.getD 0 aD=.int .i64 t.kind:=rfl;have k2:t.cs.getD 2 aD=t.pv:=rfl;have k6:(t.cs.drop 1).take 6=tG t.name t.pv t.m0 t.m1 t.r0 t.r1:=rfl
 have k7:(t.cs.drop 7).take 7=iC t.store:=by have :t.cs.drop 7=iC t.store:=rfl;rw[this,Aq (by rw[cD,qP.store];decide)]
 have hp:=Ra qP.store;have xq:((decide (t.kind=1)||decide (t.kind=2))=false\/hU t.store≠0)->WX t=1:=fun h=>by unfold WX;rw[if_pos h]
 refine bQ ?_;refine Ty ?_;refine bR ?_;generalize hX:(aA.mk 0 .nil).alloc _=HA;have g0:HA.get 0=some (.cells t.cs false):=by subst hX;simp only[zI,seval]
 clear hX;refine bV fun f dQ=>?_;have f1:f 1=.ref 0 0:=by subst dQ;simp only[zB,seval]
 clear dQ;refine aN fun K2 bW=>?_;by_cases hkd:t.kind=1\/t.kind=2;rotate_left
 . have d1:(t.kind != 1)=true:=by rw[Dd];omega
   have d2:(t.kind != 2)=true:=(by rw[Dd];omega);simp only[↓zP,zJ,seval,f1,g0,MQ,k0,d1,d2];refine Rx ?_;rw[xq (.inl Zah)];rfl
 have key:∀f:dE,f 1=.ref 0 0->hU t.store=0->K2 f [] HA:=by
  intro f f1 xn;apply bW;clear bW K2;have hck:=k8 qP.name qP.parts qP.part hfw.2 hfw.1 t.m0 t.m1 t.r0 t.r1;have vg:(tG t.name t.pv t.m0 t.m1 t.r0 t.r1).length=6:=rfl
  have bFz:¬((decide (t.kind=1)||decide (t.kind=2))=false\/hU t.store≠0):=by
   rintro(h|h)
   . simp at h;omega
   exact h xn
  have vl:WX t=if zQ t.name (t.ps.map (·.2)) t.m0 t.m1 t.r0 t.r1≠0 then zQ t.name (t.ps.map (·.2)) t.m0 t.m1 t.r0 t.r1 else if t.ps.all (fun p=>inP p.2) then 0 else 1:=by unfold WX;rw[if_neg bFz]
  generalize zQ t.name (t.ps.map (·.2)) t.m0 t.m1 t.r0 t.r1=cb at *;refine bQ ?_;simp only[↓zP,zJ,seval,f1,g0,MQ,k6];refine bY (hck _) ?_;refine Tz ?_;refine fF ?_;by_cases hcb:cb=0;rotate_left
  . have d3:(cb != 0)=true:=by rw[Dd];exact hcb
    simp only[↓zP,zG,seval,d3];refine Rx ?_;rw[vl,if_pos hcb];rfl
  have d3:(cb != 0)=false:=by rw[hcb];rfl
  rw[if_neg (fun h=>h hcb)] at vl;simp only[↓zP,zG,seval,d3];refine bR ?_
  have hpr:fO t.pv 1 (Mb t.ps):=by
   rcases qP.parts with ⟨h1,h2⟩|h
   . exact .inl ⟨h1,by rw[h2];rfl⟩
   exact .inr h
  have lpv:=hpr.len;simp only[dA] at lpv;have Tj:(Mb t.ps).length=t.ps.length:=Af _;rw[Tj] at lpv;have bJg:=hfw.1;refine aN fun K2 bW=>?_;refine Tz ?_;refine bP [] (fun i vs H'=>H'=HA/\∀p∈t.ps.take i,inP p.2=true) 0 t.ps.length (Az _) (by omega) (by decide) ?_ ?_ ?_ ?_ ?_
  . exact zq
  . exact⟨rfl,fun p hp=>by simp at hp⟩
  . rintro i f3 H1 h0 hi hk e1 ⟨rfl,_⟩;have u1:f3 1=.ref 0 0:=by rw[hk 1 rfl];simp only[zB,seval];exact f1
    simp only[↓zP,zJ,seval,e1,u1,g0,MQ,k2,lpv];exact Zae
  . rintro i f3 H1 h0 hi hk e1 ⟨rfl,bU⟩;have u1:f3 1=.ref 0 0:=by rw[hk 1 rfl];simp only[zB,seval];exact f1
    have k2':t.pv=.bD 0 1 (Mb t.ps):=hpr.bD (i:=i) (by rw[Tj];exact hi);have hgj:(Mb t.ps).getD i []=[t.ps[i].1]:=(by simp[Mb,hi]);have Sa:=qP.part _ (Ac hi);have hlj:=hfw.2 _ (Ac hi)
    have gV:inP t.ps[i].2=true->∀p∈t.ps.take (i+1),inP p.2=true:=fun h p hp=>by
     exact Zbd
    have fS:inP t.ps[i].2=false->WX t=1:=fun h=>by rw[vl,if_neg];rw[Aw];intro hh;rw[hh _ (Ac hi)] at h;cases h
    generalize t.ps[i]=q at *;refine aJ ?_;refine Tz ?_
    have lq:∀H:aA,dA (fun _=>q.1) H (.OF (.tmp 0))=some (.int .i64 q.2.length,H):=fun H=>by
     rcases Sa with ⟨h1,h2⟩|h1
     . rw[h1,h2];rfl
     rw[h1];simp[dA,aU]
    simp only[dA] at lq;refine bP [] (fun j vs H'=>H'=H1/\∀w∈(q.2.map vL).take j,CA 4096 w=true) 0 q.2.length (Az _) (by omega) (by decide) ?_ ?_ ?_ ?_ ?_
    . exact zq
    . exact⟨rfl,fun p hp=>by simp at hp⟩
    . rintro j f4 H2 Nl hj eP e2 ⟨rfl,_⟩;have v1:f4 1=.ref 0 0:=ZaV;have v4:f4 4=.int .i64 i:=Zbj;simp only[↓zP,zJ,seval,e2,v1,v4,g0,MQ,k2,k2',aB,Tj,hi,hgj,lq];exact Zae
    . rintro j f4 H2 Nl hj eP e2 ⟨rfl,rA⟩;have v1:f4 1=.ref 0 0:=ZaV;have v4:f4 4=.int .i64 i:=by rw[eP 4 rfl];simp only[zB,seval];exact e1
      have hq:q.1=.bD 0 3 (cH q.2):=by
       rcases Sa with ⟨h1,h2⟩|h1
       . rw[h2] at hj;exact absurd hj (Ap _)
       exact h1
      have hgv:=dD hj;have hwv:=qL (m:=4096) (by decide) (w:=vL q.2[j]) rfl;have yW:j<(q.2.map vL).length:=(by rw[Af];exact hj);have hme:(q.2.map vL)[j]=vL q.2[j]:=Dq _
      have j7:CA 4096 (vL q.2[j])=true->∀w∈(q.2.map vL).take (j+1),CA 4096 w=true:=fun h p hp=>by
       rw[An,Ao] at hp
       rcases hp with hp|hp
       . exact rA p hp
       rw[Ad yW,hme] at hp;simp only[Fu,Cc] at hp;subst hp;exact h
      have Xg:CA 4096 (vL q.2[j])=false->WX t=1:=fun h=>fS (by
       unfold inP;rw[El]
       exact⟨_,Ac yW,by rw[hme,h];decide⟩)
      have hiv:cU q.2[j]=iC (vL q.2[j]):=rfl;rw[hiv] at hgv;have h3:(iC (vL q.2[j])).length=3:=rfl;generalize vL q.2[j]=w at *;refine aJ ?_;simp only[↓zP,zJ,seval,e2,v1,v4,g0,MQ,k2,k2',aB,Tj,hi,hgj,hq,aU,hj,hgv,oL h3];refine bY (hwv _) ?_
      cases hb:CA 4096 w with
      |true=>refine Ty ?_;exact⟨trivial,j7 hb⟩
      |false=>refine Ty ?_;refine Rx ?_;rw[Xg hb];rfl
    rintro f4 H2 eP ⟨rfl,rA⟩;refine Tx ?_;refine⟨trivial,gV ?_⟩;unfold inP;rw[Aw];exact fun w hw=>rA w (by rw[Aq (by rw[Af];omega)];exact hw)
  rintro f3 H1 hk ⟨rfl,bU⟩;rw[Ax] at bU;rw[if_pos (Aw.2 bU)] at vl;refine Tx ?_;apply bW;clear bW K2;refine Tz ?_;refine Rx ?_;rw[vl];rfl
 have wz:(t.kind=1/\(t.kind != 1)=false/\True)\/((t.kind != 1)=true/\(t.kind != 2)=false/\True):=by
  rcases hkd with h|h
  . exact .inl ⟨h,by rw[h];rfl,trivial⟩
  exact .inr ⟨by rw[h];rfl,by rw[h];rfl,trivial⟩
 rcases wz with ⟨_,d1,d2⟩|⟨d1,d2,_⟩<;>
 . simp only[↓zP,zJ,seval,f1,g0,MQ,k0,d1,d2];simp only[seval,k7];refine bY (hp _) ?_;by_cases xn:hU t.store=0
   . have d3:(hU t.store != 0)=false:=(by rw[xn];rfl);simp only[↓zP,zG,seval,d3];exact key _ (by simp only[zB,seval];exact f1) xn
   have d3:(hU t.store != 0)=true:=(by rw[Dd];exact xn);simp only[↓zP,zG,seval,d3];refine Rx ?_;rw[xq (.inr xn)];rfl
theorem Yg {g r0 r1:Int} {ts:List Th} {rs ps:List (List Int)} {tv rv pv:AV} (mK:fO tv 14 (nD ts)) (mF:fO rv 8 (aZ rs)) (wE:fO pv 10 (aZ ps)) (ht:∀t∈ts,t.OK)
 (hf:ts.length<=64->∀t∈ts,t.Few) (hr:∀r∈rs,r.length=8) (hp:∀p∈ps,p.length=10) (H:aA):
 Sg 13 [.agg (yC g r0 r1 tv rv pv)] H (.ret (.int .i64 (CQ g r0 r1 ts rs ps))) H:=by
 refine So bHb (by simp only[yC,sf,mK.free (fX ht),mF.free (bF _),wE.free (bF _)]) ?_ H;unfold W13;dsimp only;have lt:=mK.len;have lr:=mF.len;have lp:=wE.len;simp only[dA] at lt lr lp;rw[dJ] at lt;rw[aS] at lr lp;refine bQ ?_;simp only[↓zP,zJ,seval,yC];refine fF ?_;simp only[↓zP,zJ,seval,lt];refine fF ?_;have hY1:LY ts.length rs.length ps.length=true->CQ g r0 r1 ts rs ps=2:=fun h=>by unfold CQ;rw[if_pos h]
 have hY2:LY ts.length rs.length ps.length=false->aDx g r0 r1=true->CQ g r0 r1 ts rs ps=1:=fun h h2=>by unfold CQ;rw[if_neg (by rw[h];decide),if_pos h2]
 have Zb:LY ts.length rs.length ps.length=false->aDx g r0 r1=false->CQ g r0 r1 ts rs ps=if MC [] ts≠0 then MC [] ts
  else if rs.any (PX ts.length) then 1 else if ps.any (PW ts.length) then 1 else 0:=fun h h2=>by unfold CQ;rw[if_neg (by rw[h];decide),if_neg (by rw[h2];decide)]
 have aSn:LY ts.length rs.length ps.length=false->ts.length<=64/\rs.length<=16/\ps.length<=16:=fun h=>by simp only[LY,Cy,Bh] at h;omega
 unfold LY at hY1 hY2 Zb aSn;unfold aDx at hY2 Zb;generalize eQ:decide ((ts.length:Int)>64)=b1 at *;generalize gJ:decide ((rs.length:Int)>16)=b2 at *;generalize KH:decide ((ps.length:Int)>16)=b3 at *;cases b1<;>cases b2<;>cases b3;rotate_left
 iterate 7 (simp only[↓zP,zJ,seval,lr,lp,eQ,gJ,KH];refine Rx ?_;rw[hY1 rfl];rfl)
 obtain⟨n64,m64,p64⟩:=aSn rfl;have hY2:=hY2 rfl;have Zb:=Zb rfl;have hf:=hf n64;clear hY1 aSn;simp only[↓zP,zJ,seval,lr,lp,eQ,gJ,KH];refine fF ?_;generalize MJ:decide (g<0)=b4 at *;generalize Up:decide (g>1048576)=b5 at *;generalize vg:decide (r0<0)=b6 at *;generalize hb7:decide (r0>r1)=b7 at *;generalize hb8:decide (r1>4000)=b8 at *;cases b4;rotate_left
 . simp only[↓zP,zJ,seval,MJ];refine Rx ?_;rw[hY2 rfl];rfl
 cases b5;rotate_left
 . simp only[↓zP,zJ,seval,MJ,Up];refine Rx ?_;rw[hY2 rfl];rfl
 cases b6;rotate_left
 . simp only[↓zP,zJ,seval,sT,MJ,Up,vg];refine Rx ?_;rw[hY2 rfl];rfl
 cases b7;rotate_left
 . simp only[↓zP,zJ,seval,sT,MJ,Up,vg,hb7];refine Rx ?_;rw[hY2 rfl];rfl
 cases b8;rotate_left
 . simp only[↓zP,zJ,seval,sT,MJ,Up,vg,hb7,hb8];refine Rx ?_;rw[hY2 rfl];rfl
 have Zb:=Zb rfl;clear hY2;simp only[↓zP,zJ,seval,sT,MJ,Up,vg,hb7,hb8];refine bR ?_;clear eQ gJ KH MJ Up vg hb7 hb8;generalize hX:(aA.mk 0 .nil).alloc _=HA;have g0:HA.get 0=some (.cells [.int .i64 g,.int .i64 r0,.int .i64 r1,tv,rv,pv] false):=by subst hX;simp only[zI,seval]
 have gn:1<=HA.next:=by subst hX;simp only[zI,seval]
 clear hX;refine bV fun f dQ=>?_;have f1:f 1=.ref 0 0:=by subst dQ;simp only[zB,seval]
 have f3:f 3=.int .i64 ts.length:=by subst dQ;simp only[zB,seval]
 clear dQ;refine aN fun K hK=>?_;refine Tz ?_;refine bP [] (fun i vs H'=>H'=HA/\MC [] ts=MC ((ts.take i).map (·.name)) (ts.drop i)) 0 ts.length (Az _) (by omega) (by decide) ?_ ?_ ?_ ?_ ?_
 . exact zq
 . exact ZaR
 . rintro i f' H1 h0 hi hk e1 ⟨rfl,_⟩;have u3:f' 3=.int .i64 ts.length:=by rw[hk 3 rfl];simp only[zB,seval];exact f3
   simp only[↓zP,zG,seval,e1,u3];exact Zae
 . rintro i f' H1 h0 hi hk e1 ⟨rfl,p9⟩;have u1:f' 1=.ref 0 0:=by rw[hk 1 rfl];simp only[zB,seval];exact f1
   have xQ:tv=.bD 0 14 (nD ts):=mK.bD (i:=i) (by rw[dJ];exact hi);have qP:=ht _ (Ac hi);have hfw:=hf _ (Ac hi);have hrt:=np qP hfw;rw[oi hi] at p9;have pT:(ts.take (i+1)).map (·.name)=(ts.take i).map (·.name)++[ts[i].name]:=(by rw[An,Ad hi,Ct];rfl);have hg:=mN hi;rw[pT];have MQ:=Th.len qP;have k1:ts[i].cs.getD 1 aD=.str ts[i].name:=rfl;have gT:∀(j:Nat) (hj:j<i),ts[j].name=ts[i].name->ts[i].name∈(ts.take i).map (·.name):=fun j hj h=>Bf.2 ⟨ts[j],Hk.2 ⟨j,by omega,rfl⟩,h⟩
   have qG:(∀(j:Nat) (hj:j<i),ts[j].name≠ts[i].name)->ts[i].name∉(ts.take i).map (·.name):=fun h hm=>by obtain⟨x,hx,he⟩:=Bf.1 hm;obtain⟨j,hj,rfl⟩:=Hk.1 hx;exact h j (by omega) he
   generalize hti:ts[i]=t at *;generalize (ts.take i).map (·.name)=seen at *
   have Pk:∀{x:Int},WX t=x->x≠0->CQ g r0 r1 ts rs ps=x:=fun h h0=>by rw[h,if_pos h0] at p9;rw[Zb,p9,if_pos h0]
   refine aJ ?_;refine bQ ?_;simp only[↓zP,zJ,seval,e1,u1,g0,xQ,aB,dJ,hi,hg,oL MQ];refine bY (hrt _) ?_;refine Tz ?_;refine fF ?_;by_cases hcb:WX t=0;rotate_left
   . have d3:(WX t != 0)=true:=(by rw[Dd];exact hcb);simp only[↓zP,zG,seval,d3];refine Rx ?_;rw[Pk rfl hcb];rfl
   have d3:(WX t != 0)=false:=(by rw[hcb];rfl);rw[if_neg (fun h=>h hcb)] at p9;simp only[↓zP,zG,seval,d3];refine bR ?_;refine Tz ?_;refine bP [] (fun j vs H'=>H'=H1/\∀(k:Nat) (hk:k<j) (hl:k<ts.length),ts[k].name≠t.name) 0 i (Az _) (by omega) (by decide) ?_ ?_ ?_ ?_ ?_
   . exact zq
   . exact⟨rfl,fun k hk=>absurd hk (Ap _)⟩
   . rintro j f2 H2 Nl hj eP e2 ⟨rfl,_⟩;have v4:f2 4=.int .i64 i:=Zbj;simp only[↓zP,zG,seval,e2,v4];exact Zae
   . rintro j f2 H2 Nl hj eP e2 ⟨rfl,bU⟩;have v1:f2 1=.ref 0 0:=ZaV;have v4:f2 4=.int .i64 i:=Zbj;have MP:j<ts.length:=(by omega);have hgj:=mN MP;have k1j:ts[j].cs.drop 1=.str ts[j].name::(ts[j].cs.drop 2):=rfl;have k1i:t.cs.drop 1=.str t.name::(t.cs.drop 2):=rfl;have bFj:=gT j hj
     have gV:ts[j].name≠t.name->∀(k:Nat) (hk:k<j+1) (hl:k<ts.length),ts[k].name≠t.name:=fun h k hk hl=>by
      by_cases e:k=j
      . subst e;exact h
      exact bU k (by omega) hl
     generalize ts[j]=u at *;refine aJ ?_;refine bQ ?_;refine Dz ?_;simp only[↓zP,zJ,seval,zD,e2,v1,v4,g0,xQ,aB,dJ,hi,MP,hg,hgj,k1j,k1i,show so .eql u.name t.name=some (.bool (u.name==t.name)) from rfl];refine bR ?_;by_cases GA:u.name=t.name
     . have d4:(u.name==t.name)=true:=(by rw[Cf];exact GA);simp only[↓zP,zG,seval,d4];refine Rx ?_;rw[if_pos (bFj GA)] at p9;rw[Zb,p9];rfl
     have d4:(u.name==t.name)=false:=(by rw[Bq];exact GA);simp only[↓zP,zG,seval,d4];exact⟨trivial,gV GA⟩
   rintro f2 H2 eP ⟨rfl,bU⟩;rw[if_neg (qG fun j hj=>bU j hj (by omega))] at p9;refine Tx ?_;exact⟨trivial,p9⟩
 rintro f' H1 hk ⟨rfl,p9⟩;rw[Hi] at p9;have bGq:MC [] ts=0:=p9;rw[if_neg (fun h=>h bGq)] at Zb;have f'1:f' 1=.ref 0 0:=by rw[hk 1 rfl];simp only[zB,seval];exact f1
 have f'3:f' 3=.int .i64 ts.length:=by rw[hk 3 rfl];simp only[zB,seval];exact f3
 refine Tx ?_;apply hK;clear hK K;clear hk p9;have Xf:(0:Int)<=ts.length:=by omega
 generalize (ts.length:Int)=n at *;refine aN fun K hK=>?_;refine Tz ?_;refine bP [] (fun i vs H'=>H'.get 0=some (.cells [.int .i64 g,.int .i64 r0,.int .i64 r1,tv,rv,pv] false)/\1<=H'.next/\∀r∈rs.take i,PX n r=false) 0 rs.length (Az _) (by omega) (by decide) ?_ ?_ ?_ ?_ ?_
 . exact zq
 . exact⟨g0,gn,fun p hp=>by simp at hp⟩
 . rintro i f2 H2 h0 hi hk e1 ⟨m0,_⟩;have u1:f2 1=.ref 0 0:=by rw[hk 1 rfl];simp only[zB,seval];exact f'1
   simp only[↓zP,zJ,seval,e1,u1,m0,lr];exact Zae
 . rintro i f2 H2 h0 hi hk e1 ⟨m0,mn,bU⟩;have u1:f2 1=.ref 0 0:=by rw[hk 1 rfl];simp only[zB,seval];exact f'1
   have u3:f2 3=.int .i64 n:=(by rw[hk 3 rfl];simp only[zB,seval];exact f'3);have CV:rv=.bD 0 8 (aZ rs):=mF.bD (i:=i) ZaD;have hg:=cN hi;have h8:=hr _ (Ac hi)
   have gV:PX n rs[i]=false->∀p∈rs.take (i+1),PX n p=false:=fun h p hp=>by
    exact Zbd
   have fS:PX n rs[i]=true->CQ g r0 r1 ts rs ps=1:=fun h=>by rw[Zb,if_pos (Bz.2 ⟨_,Ac hi,h⟩)]
   generalize rs[i]=r at *;have sE:(iC r).length=8:=(by rw[cD,h8]);refine aJ ?_;refine bQ ?_;simp only[↓zP,zJ,seval,e1,u1,m0,CV,aB,aS,hi,hg,oL sE];refine bR ?_;generalize hX:(H2.alloc _).set H2.next _=H3;have w0:H3.get 0=some (.cells [.int .i64 g,.int .i64 r0,.int .i64 r1,tv,rv,pv] false):=Za9;have QC:H3.get H2.next=some (.cells (iC r) false):=Zai;have wn:1<=H3.next:=Zat;clear hX;generalize H2.next=r11 at *;have a0:=eJ (l:=r) (i:=0) (by omega);have a1:=eJ (l:=r) (i:=1) (by omega);have a2:((iC r).drop 2).take 3=iC ((r.drop 2).take 3):=(by rw[tS,uO]);have a5:((iC r).drop 5).take 3=iC ((r.drop 5).take 3):=(by rw[tS,uO]);have w2:=qL (m:=tZ (r.getD 0 0)) (by unfold tZ;split<;>decide) (w:=(r.drop 2).take 3) Zah;have w5:=qL (m:=tZ (r.getD 1 0)) (by unfold tZ;split<;>decide) (w:=(r.drop 5).take 3) Zah;have c2:=Rb (n:=r.getD 0 0);have c5:=Rb (n:=r.getD 1 0);have l3a:(iC ((r.drop 2).take 3)).length=3:=(by rw[cD];simp;omega);have l3b:(iC ((r.drop 5).take 3)).length=3:=(by rw[cD];simp;omega);unfold PX at gV fS;generalize (r.drop 2).take 3=wa at *;generalize (r.drop 5).take 3=wb at *;generalize r.getD 0 0=x at *;generalize r.getD 1 0=y at *;generalize eQ:decide (x<0)=b1 at *;generalize gJ:decide (x>n)=b2 at *;generalize KH:decide (y<0)=b3 at *;generalize MJ:decide (y>n)=b4 at *;generalize Up:(x==y)=b5 at *;generalize vg:CA (tZ x) wa=b6 at *;generalize hb7:CA (tZ y) wb=b7 at *;refine aN fun K2 bW=>?_;refine Dz ?_;cases b1;rotate_left
   . simp only[↓zP,zJ,seval,zD,QC,sE,a0,eQ];exact Zac
   cases b2;rotate_left
   . simp only[↓zP,zJ,seval,zD,u3,QC,sE,a0,eQ,gJ];exact Zac
   cases b3;rotate_left
   . simp only[↓zP,zJ,seval,zD,u3,QC,sE,a0,a1,eQ,gJ,KH];exact Zac
   cases b4;rotate_left
   . simp only[↓zP,zJ,seval,zD,u3,QC,sE,a0,a1,eQ,gJ,KH,MJ];exact Zac
   cases b5;rotate_left
   . simp only[↓zP,zJ,seval,zD,u3,QC,sE,a0,a1,eQ,gJ,KH,MJ,Up];exact Zac
   have c2:=c2 (by have :=Dn eQ;omega);have c5:=c5 (by have :=Dn KH;omega);cases b6
   . simp only[↓zP,zJ,seval,zD,u3,QC,sE,a0,a1,eQ,gJ,KH,MJ,Up];refine fP (c2 _) ?_;simp only[↓zP,zJ,seval,zD,QC,sE,a2];refine fP (w2 _) ?_;simp only[↓zP,zJ,seval,zD];exact Zac
   cases b7
   . simp only[↓zP,zJ,seval,zD,u3,QC,sE,a0,a1,eQ,gJ,KH,MJ,Up];refine fP (c2 _) ?_;simp only[↓zP,zJ,seval,zD,QC,sE,a2];refine fP (w2 _) ?_;simp only[↓zP,zJ,seval,zD,QC,sE,a1];refine fP (c5 _) ?_;simp only[↓zP,zJ,seval,zD,QC,sE,a5];refine fP (w5 _) ?_;simp only[↓zP,zJ,seval,zD];exact Zac
   simp only[↓zP,zJ,seval,zD,u3,QC,sE,a0,a1,eQ,gJ,KH,MJ,Up];refine fP (c2 _) ?_;simp only[↓zP,zJ,seval,zD,QC,sE,a2];refine fP (w2 _) ?_;simp only[↓zP,zJ,seval,zD,QC,sE,a1];refine fP (c5 _) ?_;simp only[↓zP,zJ,seval,zD,QC,sE,a5];refine fP (w5 _) ?_;simp only[↓zP,zJ,seval,zD];apply bW;clear bW K2;refine Tz ?_;exact⟨by first|exact w0|(rw[CV] at w0;exact w0),wn,gV rfl⟩
 rintro f2 H2 hk ⟨m0,mn,bU⟩;rw[Ax] at bU
 rw[if_neg (by
  rw[Bz];rintro⟨r,hr,h⟩;rw[bU r hr] at h
  cases h)] at Zb
 have u1:f2 1=.ref 0 0:=by rw[hk 1 rfl];simp only[zB,seval];exact f'1
 have u3:f2 3=.int .i64 n:=by rw[hk 3 rfl];simp only[zB,seval];exact f'3
 refine Tx ?_;apply hK;clear hK K;clear hk bU;refine aN fun K hK=>?_;refine Tz ?_;refine bP [] (fun i vs H'=>H'.get 0=some (.cells [.int .i64 g,.int .i64 r0,.int .i64 r1,tv,rv,pv] false)/\1<=H'.next/\∀r∈ps.take i,PW n r=false) 0 ps.length (Az _) (by omega) (by decide) ?_ ?_ ?_ ?_ ?_
 . exact zq
 . exact⟨m0,mn,fun p hp=>by simp at hp⟩
 . rintro i f2 H2 h0 hi hk e1 ⟨m0,_⟩;have u1:f2 1=.ref 0 0:=by rw[hk 1 rfl];simp only[zB,seval];exact u1
   simp only[↓zP,zJ,seval,e1,u1,m0,lp];exact Zae
 . rintro i f2 H2 h0 hi hk e1 ⟨m0,mn,bU⟩;have u1:f2 1=.ref 0 0:=by rw[hk 1 rfl];simp only[zB,seval];exact u1
   have u3:f2 3=.int .i64 n:=(by rw[hk 3 rfl];simp only[zB,seval];exact u3);have nS:pv=.bD 0 10 (aZ ps):=wE.bD (i:=i) ZaD;have hg:=cN hi;have h8:=hp _ (Ac hi)
   have gV:PW n ps[i]=false->∀p∈ps.take (i+1),PW n p=false:=fun h p hp=>by
    exact Zbd
   have fS:PW n ps[i]=true->CQ g r0 r1 ts rs ps=1:=fun h=>by rw[Zb,if_pos (Bz.2 ⟨_,Ac hi,h⟩)]
   generalize ps[i]=r at *;have sE:(iC r).length=10:=(by rw[cD,h8]);refine aJ ?_;refine bQ ?_;simp only[↓zP,zJ,seval,e1,u1,m0,nS,aB,aS,hi,hg,oL sE];refine bR ?_;generalize hX:(H2.alloc _).set H2.next _=H3;have w0:H3.get 0=some (.cells [.int .i64 g,.int .i64 r0,.int .i64 r1,tv,rv,pv] false):=Za9;have QC:H3.get H2.next=some (.cells (iC r) false):=Zai;have wn:1<=H3.next:=Zat;clear hX;generalize H2.next=r11 at *;have a0:=eJ (l:=r) (i:=0) (by omega);have a2:((iC r).drop 1).take 3=iC ((r.drop 1).take 3):=(by rw[tS,uO]);have a4:((iC r).drop 4).take 3=iC ((r.drop 4).take 3):=(by rw[tS,uO]);have a7:((iC r).drop 7).take 3=iC ((r.drop 7).take 3):=(by rw[tS,uO]);have w2:=qL (m:=4096) (by decide) (w:=(r.drop 1).take 3) Zah;have w4:=qL (m:=1099511627776) (by decide) (w:=(r.drop 4).take 3) Zah;have w7:=qL (m:=1099511627776) (by decide) (w:=(r.drop 7).take 3) Zah;have l3a:(iC ((r.drop 1).take 3)).length=3:=(by rw[cD];simp;omega);have l3b:(iC ((r.drop 4).take 3)).length=3:=(by rw[cD];simp;omega);have l3c:(iC ((r.drop 7).take 3)).length=3:=(by rw[cD];simp;omega);unfold PW at gV fS;generalize (r.drop 1).take 3=wa at *;generalize (r.drop 4).take 3=wb at *;generalize (r.drop 7).take 3=wc at *;generalize r.getD 0 0=x at *;generalize eQ:decide (x<1)=b1 at *;generalize gJ:decide (x>n)=b2 at *;generalize KH:CA 4096 wa=b3 at *;generalize MJ:CA 1099511627776 wb=b4 at *;generalize Up:CA 1099511627776 wc=b5 at *;refine aN fun K2 bW=>?_;cases b1;rotate_left
   . simp only[↓zP,zJ,seval,QC,sE,a0,eQ];exact Zac
   cases b2;rotate_left
   . simp only[↓zP,zJ,seval,u3,QC,sE,a0,eQ,gJ];exact Zac
   simp only[↓zP,zJ,seval,u3,QC,sE,a0,a2,eQ,gJ];refine bY (w2 _) ?_;cases b3
   . refine Ty ?_;exact Zac
   simp only[↓zP,zJ,seval,sT,QC,sE,a4];refine bY (w4 _) ?_;cases b4
   . refine Ty ?_;exact Zac
   simp only[↓zP,zJ,seval,sT,QC,sE,a7];refine bY (w7 _) ?_;cases b5
   . refine Ty ?_;exact Zac
   refine Ty ?_;apply bW;clear bW K2;refine Tz ?_;exact⟨by first|exact w0|(rw[nS] at w0;exact w0),wn,gV rfl⟩
 rintro f2 H2 hk ⟨m0,mn,bU⟩;rw[Ax] at bU
 rw[if_neg (by
  rw[Bz];rintro⟨r,hr,h⟩;rw[bU r hr] at h
  cases h)] at Zb
 refine Tx ?_;apply hK;clear hK K;refine Tz ?_;refine Rx ?_;rw[Zb];rfl

def W4T:{x // KS Tryz.prog DL false Tryz.f4=some x}:=⟨_,vF⟩
theorem bHv:kM Tryz.prog DL false 4 W4T.1:=jF Tryz.func4 (by kernel_rfl) W4T.2
theorem aDy {g r0 r1:Int} {ts:List Th} {rs us:List (List Int)} {tv rv uv pv:AV} {k n:Int} {qs:List (List Int)} {s s':Sc} (hs:s.OK) (BX:s'.OK) (hd:GM s s') (hy:YS ts rs us s) (mK:fO tv 14 (nD ts)) (mF:fO rv 8 (aZ rs)) (nF:fO uv 10 (aZ us))
 (wE:fO pv 7 (aZ qs)) (hq:∀q∈qs,q.length=7/\lC q) (Nt:qs.length<2^63) (gV:∀t∈ts,hU t.store=0) (hf:nJ ts rs.length us.length s=true):
 ∃(t t':Sc) (e:Int),t.OK/\t'.OK/\GM t t'/\nJ ts rs.length us.length t=true/\YS ts rs us t/\(e≠0->GM t s)/\
  (∀H,St 8 [.agg (yC g r0 r1 tv rv uv),.agg s.cs,.agg (oC k n pv)] H (.ret (.iA [.agg t.cs,.int .i64 e])) H)/\
  ∀H,St 9 [.agg (yC g r0 r1 tv rv uv),.agg s'.cs,.agg (oC k n pv)] H (.ret (.agg (t'.cs++[AV.int .i64 e]))) H:=by
 have hy':YS ts rs us s':=⟨hy.ht,hy.hr,hy.hu,hy.xQ,hy.CV,hy.Zs,by rw[<-hd.st];exact hy.st,by rw[<-hd.ps];exact hy.ps,by rw[<-hd.vs];exact hy.vs,by rw[<-hd.ws];exact hy.ws,by rw[<-hd.ta];exact hy.ta,by rw[<-hd.ac];exact hy.ac,hy.aBc,hy.push⟩;obtain⟨t,ho,MK,hA⟩:=ry (g:=g) (r0:=r0) (r1:=r1) (k:=k) (n:=n) hs hy mK mF nF wE hq Nt;obtain⟨t',jz,hd2,hB⟩:=l7 (g:=g) (r0:=r0) (r1:=r1) (k:=k) (n:=n) BX hy' mK mF nF wE hq Nt;obtain⟨c1,c2⟩:=Wq (ts:=ts) (rs:=rs) (us:=us) (k:=k) (n:=n) (qs:=qs) hd;have hk:=JU (k:=k) (n:=n) hs hy hq;have Zi:=fp (k:=k) (n:=n) hs hy hq gV hf
 have fr:∀{s:Sc},s.OK->bO [.agg (yC g r0 r1 tv rv uv),.agg s.cs,.agg (oC k n pv)]=true:=fun hs=>by
  have h1:=Sc.free hs;have h2:bO (yC g r0 r1 tv rv uv)=true:=by simp only[yC,sf,mK.free (fX hy.ht),mF.free (bF _),nF.free (bF _)]
  have h3:bO (oC k n pv)=true:=by simp only[oC,sf,wE.free (bF _)]
  simp only[sf,h1,h2,h3]
 have f1:(AV.iA [.agg t.cs,.int .i64 (vT ts rs us k n qs s).1]).free=true:=by simp only[sf,Sc.free ho]
 have f2:∀x,(AV.agg (t'.cs++[.int .i64 x])).free=true:=fun x=>by have h1:=Sc.free jz;simp only[Sc.cs,sf] at h1;simp only[Sc.cs,Er,Db,sf,h1]
 rw[<-c1] at hB;refine⟨t,t',(vT ts rs us k n qs s).1,ho,jz,MK.trans (c2.trans hd2.symm),MK.fits.trans Zi,?_,fun he=>?_,toT (fr hs) f1 hA,toT (fr BX) (f2 _) hB⟩
 . have h1:=hy.kept hk;exact⟨h1.ht,h1.hr,h1.hu,h1.xQ,h1.CV,h1.Zs,by rw[MK.st];exact h1.st,by rw[MK.ps];exact h1.ps,by rw[MK.vs];exact h1.vs,by rw[MK.ws];exact h1.ws,by rw[MK.ta];exact h1.ta,by rw[MK.ac];exact h1.ac,h1.aBc,h1.push⟩
 rw[ru he] at MK;exact MK
theorem aUg {s t:Sc} (hs:s.OK) (ht:t.OK) (h:GM s t):∀H,St 10 [.agg s.cs,.agg t.cs] H (.ret (.bool true)) H:=by
 have :=toT (f:=10) (args:=[.agg s.cs,.agg t.cs]) (by simp only[sf,Sc.free hs,Sc.free ht]) rfl fun H=>aBn hs ht H
 rwa [h.enc,beq_self_eq_true] at this
theorem aRw {g r0 r1:Int} {ts:List Th} {rs us:List (List Int)} {tv rv uv:AV} {s:Sc} (mK:fO tv 14 (nD ts)) (mF:fO rv 8 (aZ rs)) (nF:fO uv 10 (aZ us)) (ht:∀t∈ts,t.OK) (hs:s.OK) (hl:ts.length<2^30) (h:nJ ts rs.length us.length s=true):
 ∀H,St 11 [.agg (yC g r0 r1 tv rv uv),.agg s.cs] H (.ret (.bool true)) H:=by
 have f2:bO (yC g r0 r1 tv rv uv)=true:=by simp only[yC,sf,mK.free (fX ht),mF.free (bF _),nF.free (bF _)]
 have :=toT (f:=11) (args:=[.agg (yC g r0 r1 tv rv uv),.agg s.cs]) (by simp only[sf,Sc.free hs,f2]) rfl fun H=>aEx (g:=g) (r0:=r0) (r1:=r1) mK mF nF ht hs hl H
 rwa [h] at this
theorem Yn {ts:List Th} {r u:Nat} (gV:∀t∈ts,hU t.store=0):nJ ts r u (iW ts r u)=true:=by refine KA (by unfold FH;simp[iW,iT,nM,gW]) fun i hi=>?_;unfold CP iW iT nM gW;dsimp only;rw[show(ts.map (·.store)).getD i []=ts[i].store by simp[hi],show(List.replicate ts.length zV).getD i []=zV by simp[List.getD,hi],show(List.replicate ts.length false).getD i false=false by simp[List.getD,hi]];exact LB (gV _ (Ac hi))
theorem IM (l:List PT):(ko l).length=l.length:=Af _
theorem kq {l:List PT} {i:Nat} (hi:i<l.length):(ko l).getD i []=l[i].cs:=by simp[ko,hi]
theorem kp {l:List PT} (h:∀o∈l,o.OK):∀e∈ko l,bO e=true:=fun e he=>by obtain⟨o,ho,rfl⟩:=Bf.1 he;simp only[PT.cs,oC,sf,(h o ho).pv.free (bF _)]
structure aUp (y:List AV) (ts:List Th) (rs us:List (List Int)) (H:aA):Prop where
 g0:H.get 0=some (.cells y false)
 n:3<=H.next
 fr:cJ H
 sc:∃s s':Sc,s.OK/\s'.OK/\GM s s'/\YS ts rs us s/\nJ ts rs.length us.length s=true/\H.get 1=some (.cells s.cs false)/\H.get 2=some (.cells s'.cs false)
theorem yq (aFn:∀H,St 7 [] H (.ret (.bool true)) H) {g r0 r1:Int} {ts:List Th} {rs us:List (List Int)} {tv rv uv av:AV} {l:List PT}
 (mK:fO tv 14 (nD ts)) (mF:fO rv 8 (aZ rs)) (nF:fO uv 10 (aZ us)) (ht:∀t∈ts,t.OK) (hr:∀r∈rs,r.length=8) (hu:∀p∈us,p.length=10)
 (hav:fO av 3 (ko l)) (hl:∀o∈l,o.OK) (H:aA):
 St 4 [.agg (yC g r0 r1 tv rv uv),av] H (.ret (.bool true)) H:=by
 have fy:bO (yC g r0 r1 tv rv uv)=true:=by simp only[yC,sf,mK.free (fX ht),mF.free (bF _),nF.free (bF _)]
 refine EF aVd XV bHv (Ai rfl) (by simp only[sf,fy,hav.free (kp hl)]) Zag ?_ H;unfold W4T;dsimp only;have la:=hav.len;simp only[dA] at la;rw[IM] at la;have l6:(yC g r0 r1 tv rv uv).length=6:=rfl;have S0:=toT (f:=12) (args:=[.agg (yC g r0 r1 tv rv uv)]) (by simp only[sf,fy]) rfl fun H=>aRt (g:=g) (r0:=r0) (r1:=r1) mK mF nF ht H;have S1:=fun hf=>toT (f:=13) (args:=[.agg (yC g r0 r1 tv rv uv)]) (by simp only[sf,fy]) rfl fun H=>Yg (g:=g) (r0:=r0) (r1:=r1) mK mF nF ht hf hr hu H;refine bQ ?_;refine Ty ?_;refine bR ?_;generalize hX:(aA.mk 0 .nil).alloc _=HA;have g0:HA.get 0=some (.cells (yC g r0 r1 tv rv uv) false):=by subst hX;simp only[zI,seval]
 have gn:HA.next=1:=by subst hX;simp only[zI,seval]
 have gf:cJ HA:=by subst hX;exact(cJ.nil 0).alloc _
 clear hX;refine bV fun f dQ=>?_;have f1:f 1=av:=by subst dQ;exact rfl
 have f2:f 2=.ref 0 0:=by subst dQ;simp only[zB,seval]
 clear dQ;refine bQ ?_;simp only[↓zP,zJ,seval,f2,g0,oL l6];refine bY (S0 _) ?_;refine Tz ?_;refine bR ?_;refine bV fun f' dQ=>?_;have w1:=Ks dQ f1;have w2:=Ks dQ f2;have w5:f' 5=.bool (Uc ts rs.length us.length):=by subst dQ;simp only[zB,seval]
 clear dQ f1 f2 f;refine aN fun K hK=>?_;cases hfw:Uc ts rs.length us.length
 . rw[hfw] at w5;simp only[↓zP,zJ,seval,w5];refine bY (aFn _) ?_;refine Tz ?_;exact ZaQ
 rw[hfw] at w5;obtain⟨m1,m2,m3,hf4⟩:=ug hfw;have S1:=S1 fun _=>hf4;by_cases h30:(l.length:Int)>30
 . have hb:=Aj h30;simp only[↓zP,zJ,seval,w1,w5,la,hb];refine bY (aFn _) ?_;refine Tz ?_;exact ZaQ
 have hb:=Ag h30;by_cases hc:CQ g r0 r1 ts rs us=0;rotate_left
 . have gJ:(CQ g r0 r1 ts rs us != 0)=true:=Dd.2 hc;simp only[↓zP,zJ,seval,w1,w2,w5,la,hb,g0,oL l6];refine bY (S1 _) ?_;simp only[↓zP,zG,seval,gJ];refine bY (aFn _) ?_;refine Tz ?_;exact ZaQ
 have gJ:(CQ g r0 r1 ts rs us != 0)=false:=bne_eq_false_iff_eq.2 hc;simp only[↓zP,zJ,seval,w1,w2,w5,la,hb,g0,oL l6];refine bY (S1 _) ?_;simp only[↓zP,zG,seval,gJ];apply hK;clear hK K S0 S1;obtain⟨_,_,_,gV,_,_⟩:=s9 hc;have o1:=Ri (r:=rs.length) (u:=us.length) ht (by omega) (by omega) (by omega);have o2:=og (r:=rs.length) (u:=us.length) ht (by omega) (by omega) (by omega);have e1:(AV.agg (iW ts rs.length us.length).cs).free=true:=by simp only[AV.free,Sc.free o1]
 have e2:(AV.agg (Kv ts rs.length us.length).cs).free=true:=by simp only[AV.free,Sc.free o2]
 have S2:=toT (f:=14) (args:=[.agg (yC g r0 r1 tv rv uv)]) (by simp only[sf,fy]) e1 fun H=>aCa (g:=g) (r0:=r0) (r1:=r1) mK mF nF ht (by omega) (by omega) (by omega) H;have S3:=toT (f:=15) (args:=[.agg (yC g r0 r1 tv rv uv)]) (by simp only[sf,fy]) e2 fun H=>nc (g:=g) (r0:=r0) (r1:=r1) mK mF nF ht (by omega) (by omega) (by omega) H;have Zi:=Yn (r:=rs.length) (u:=us.length) gV;have hY:=aUr ht hr hu hc Zi;have hd:GM (iW ts rs.length us.length) (Kv ts rs.length us.length):=⟨rfl,rfl,rfl,rfl,rfl,rfl⟩;generalize iW ts rs.length us.length=s1 at *;generalize Kv ts rs.length us.length=s2 at *;have ls1:s1.cs.length=6:=rfl;have ls2:s2.cs.length=6:=rfl;refine bV fun f dQ=>?_;have f1:=Ks dQ w1;have f2:=Ks dQ w2;clear dQ w1 w2 w5 f';refine bQ ?_;simp only[↓zP,zJ,seval,f2,g0,oL l6];refine bY (S2 _) ?_;simp only[↓zP,zJ,seval,ls1,gn];refine bR ?_;generalize hX:(HA.alloc _).set 1 _=HB;have m0:HB.get 0=some (.cells (yC g r0 r1 tv rv uv) false):=by subst hX;rw[aA.aC,if_neg (by decide),aA.aG,if_neg (by omega)];exact g0
 have m1':HB.get 1=some (.cells s1.cs false):=by subst hX;rw[aA.aC,if_pos rfl]
 have mn:HB.next=2:=by subst hX;rw[aA.aW,aA.aR,gn]
 have mf:cJ HB:=by subst hX;exact(gf.alloc _).set (by rw[aA.aR];omega) _
 clear hX g0 gn gf;refine bV fun f' dQ=>?_;have w1:=Ks dQ f1;have w2:=Ks dQ f2;have w6:f' 6=.ref 1 0:=by subst dQ;simp only[zB,seval]
 clear dQ f1 f2 f;refine bQ ?_;simp only[↓zP,zJ,seval,w2,m0,oL l6];refine bY (S3 _) ?_;simp only[↓zP,zJ,seval,ls2,mn];refine bR ?_;generalize hX:(HB.alloc _).set 2 _=HC;have g0:HC.get 0=some (.cells (yC g r0 r1 tv rv uv) false):=by subst hX;rw[aA.aC,if_neg (by decide),aA.aG,if_neg (by omega)];exact m0
 have g1:HC.get 1=some (.cells s1.cs false):=by subst hX;rw[aA.aC,if_neg (by decide),aA.aG,if_neg (by omega)];exact m1'
 have g2:HC.get 2=some (.cells s2.cs false):=by subst hX;rw[aA.aC,if_pos rfl]
 have gn:HC.next=3:=by subst hX;rw[aA.aW,aA.aR,mn]
 have gf:cJ HC:=by subst hX;exact(mf.alloc _).set (by rw[aA.aR];omega) _
 have hR:aUp (yC g r0 r1 tv rv uv) ts rs us HC:=⟨g0,by omega,gf,s1,s2,o1,o2,hd,hY,Zi,g1,g2⟩;clear hX m0 m1' mn mf g0 g1 g2 gn gf S2 S3 hd hY Zi o1 o2 e1 e2;refine bV fun f dQ=>?_;have f1:=Ks dQ w1;have f2:=Ks dQ w2;have f6:=Ks dQ w6;have f7:f 7=.ref 2 0:=by subst dQ;simp only[zB,seval]
 clear dQ w1 w2 w6 f';refine aN fun K hK=>?_;refine Tz ?_;refine bP [] (fun i vs H'=>aUp (yC g r0 r1 tv rv uv) ts rs us H') 0 l.length (Az _) (by omega) (by decide) ?_ ?_ ?_ ?_ ?_
 . exact zq
 . exact hR
 . rintro i fi H1 h0 hi hk x1 _;have u1:fi 1=av:=by rw[hk 1 rfl];simp only[zB,seval];exact f1
   simp only[↓zP,zG,seval,x1,u1,la];exact Zae
 . rintro i fi H1 h0 hi hk x1 ⟨g0,gn,gf,s,s',o1,o2,hd,hY,Zi,g1,g2⟩;have u1:fi 1=av:=by rw[hk 1 rfl];simp only[zB,seval];exact f1
   have u2:fi 2=.ref 0 0:=(by rw[hk 2 rfl];simp only[zB,seval];exact f2);have u6:fi 6=.ref 1 0:=(by rw[hk 6 rfl];simp only[zB,seval];exact f6);have u7:fi 7=.ref 2 0:=(by rw[hk 7 rfl];simp only[zB,seval];exact f7);clear hk;have u1:=u1.trans (hav.bD (i:=i) (by rw[IM];exact hi));have hg:=kq hi;have fK:=hl _ (Ac hi);have l3:l[i].cs.length=3:=rfl;have lss:s.cs.length=6:=rfl;have bDm:s'.cs.length=6:=rfl;obtain⟨t,t',e,ho,jz,rM,hft,hY',_,hA,hB⟩:=aDy (g:=g) (r0:=r0) (r1:=r1) (k:=l[i].k) (n:=l[i].n) o1 o2 hd hY mK mF nF fK.pv fK.p7 fK.len gV Zi;have S1:=aUg ho jz rM;have S2:=aRw (g:=g) (r0:=r0) (r1:=r1) mK mF nF ht ho (by omega) hft
   replace hA:∀H,St 8 [.agg (yC g r0 r1 tv rv uv),.agg s.cs,.agg l[i].cs] H (.ret (.iA [.agg t.cs,.int .i64 e])) H:=hA
   replace hB:∀H,St 9 [.agg (yC g r0 r1 tv rv uv),.agg s'.cs,.agg l[i].cs] H (.ret (.agg (t'.cs++[.int .i64 e]))) H:=hB
   have lt:t.cs.length=6:=rfl;have lt':(t'.cs++[AV.int .i64 e]).length=7:=rfl;have t6:(t'.cs++[AV.int .i64 e]).getD 6 aD=.int .i64 e:=rfl;have tk:(t'.cs++[AV.int .i64 e]).take 6=t'.cs:=rfl;refine aJ ?_;refine bQ ?_;refine jV 1 (by decide) gf.at1 fun H2 n2 e2=>?_;simp only[↓zP,zJ,seval,zD,x1,u1,u2,u6,g0,g1,e2,aB,IM,hi,hg,oL l6,oL lss,oL l3];refine fP (hA _) ?_;simp only[↓zP,zJ,seval,zD,lt,n2,e2];refine bR ?_;have f3:cJ H2:=fun j hj=>by rw[e2 j];exact gf j (by omega)
   generalize hX:(H2.set H1.next _).set H1.next _=H3;have m0:H3.get 0=some (.cells (yC g r0 r1 tv rv uv) false):=(by subst hX;rw[aA.aC,if_neg (by omega),aA.aC,if_neg (by omega),e2];exact g0);have m2:H3.get 2=some (.cells s'.cs false):=(by subst hX;rw[aA.aC,if_neg (by omega),aA.aC,if_neg (by omega),e2];exact g2);have m1:H3.get 1=some (.cells s.cs false):=(by subst hX;rw[aA.aC,if_neg (by omega),aA.aC,if_neg (by omega),e2];exact g1);have m9:H3.get H1.next=some (.cells t.cs false):=Zai;have mn:H3.next=H1.next+1:=(by subst hX;simp only[aA.aW];exact n2);have mf:cJ H3:=(by subst hX;exact(f3.set (by omega) _).set Za7 _);clear hX e2 f3 g0 g1 g2 gf;generalize xw:H1.next=r9 at *;refine bV fun f' dQ=>?_;have w1:=Ks dQ u1;have w2:=Ks dQ u2;have w6:=Ks dQ u6;have w7:=Ks dQ u7;have w8:=Ks dQ x1;have w9:f' 9=.ref r9 0:=Zbu;have w10:f' 10=.int .i64 e:=Zbu;clear dQ u1 u2 u6 u7 x1;refine bQ ?_;refine jV 1 (by decide) mf.at1 fun H4 n4 e4=>?_;simp only[↓zP,zJ,seval,zD,w1,w2,w7,w8,m0,m2,e4,aB,IM,hi,hg,oL l6,oL bDm,oL l3];refine fP (hB _) ?_;simp only[↓zP,zJ,seval,zD,lt',n4,e4];refine bR ?_;have f5:cJ H4:=fun j hj=>by rw[e4 j];exact mf j (by omega)
   generalize hX:(H4.set H3.next _).set H3.next _=H5;have g0:H5.get 0=some (.cells (yC g r0 r1 tv rv uv) false):=(by subst hX;rw[aA.aC,if_neg (by omega),aA.aC,if_neg (by omega),e4];exact m0);have g1:H5.get 1=some (.cells s.cs false):=(by subst hX;rw[aA.aC,if_neg (by omega),aA.aC,if_neg (by omega),e4];exact m1);have g2:H5.get 2=some (.cells s'.cs false):=(by subst hX;rw[aA.aC,if_neg (by omega),aA.aC,if_neg (by omega),e4];exact m2);have g9:H5.get r9=some (.cells t.cs false):=(by subst hX;rw[aA.aC,if_neg (by omega),aA.aC,if_neg (by omega),e4];exact m9);have g11:H5.get H3.next=some (.cells (t'.cs++[.int .i64 e]) false):=Zai;have gn5:3<=H5.next:=(by subst hX;simp only[aA.aW];omega);have gf:cJ H5:=(by subst hX;exact(f5.set (by omega) _).set Za7 _);clear hX e4 f5 m0 m1 m2 m9 mf;have bJs:3<=H3.next:=(by omega);generalize H3.next=r11 at *;refine bV fun f0 dQ=>?_;have u2:=Ks dQ w2;have u6:=Ks dQ w6;have u7:=Ks dQ w7;have u9:=Ks dQ w9;have u10:=Ks dQ w10;have u11:f0 11=.ref r11 0:=Zbu;clear dQ w1 w2 w6 w7 w8 w9 w10;refine bQ ?_;simp only[↓zP,zJ,seval,u9,u10,u11,g9,g11,lt,lt',t6,tk,oL lt,Jg];refine bY (S1 _) ?_;simp only[↓zP,zJ,seval,u2,u9,g0,g9,oL l6,oL lt];refine bY (S2 _) ?_;refine Ty ?_;refine bR ?_;simp only[↓zP,zJ,seval,u6,u7,u9,u11,g1,g2,g9,g11,lt,lt',tk,lss,bDm,oL lt,show ¬r11=1 by omega,show s.cs.drop 6=[] from rfl];refine⟨by rw[aA.aC,if_neg (by decide),aA.aC,if_neg (by decide)];exact g0,by simp only[aA.aW];exact gn5,(gf.set (by omega) _).set Za7 _,t,t',ho,jz,rM,hY',hft,?_,?_⟩
   . rw[aA.aC,if_neg (by decide),aA.aC,if_pos rfl]
   rw[aA.aC,if_pos rfl,show s'.cs.drop t'.cs.length=[] from rfl,Ch]
 rintro fi H1 hk hR;refine Tx ?_;apply hK;clear hK K;refine bQ ?_;refine Tx ?_;refine bY (aFn _) ?_;refine Tz ?_;refine bR ?_;refine Tx ?_;exact ZaQ
end Go.Proofs.YtgggiembljfnhaaGreatDoor
