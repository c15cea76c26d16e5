/-
  Part of the proof of statement 11
-/
import Derived.Test.YtgggiembljfnhaaGreatDoorA33
import Derived.Test.YtgggiembljfnhaaGreatDoorA34
import Derived.Test.YtgggiembljfnhaaGreatDoorA25
import Derived.Test.YtgggiembljfnhaaGreatDoorA27
import Derived.Test.YtgggiembljfnhaaGreatDoorA07
set_option linter.unusedVariables false
set_option linter.unusedSimpArgs false
set_option maxRecDepth 100000
set_option maxHeartbeats 16000000
namespace Go.Proofs.YtgggiembljfnhaaGreatDoor
open Go Go.Av Go.aP Go.uG
attribute [local congr] aT aI aM aH aW aQ aN aF aX
attribute [local irreducible] FC bS eG
theorem lk {tag:Nat} (ht:Nat.blt tag 2=true) {l:List aP.V} {M:Nat} (hl:∀v∈l,cH M v) (hM:M<=2^18) {E:List (Nat×Nat)} (hEl:E.length<=2^20) (hE0:E≠[]) (hE:∀p∈E,p.1<l.length/\p.2<l.length)
 (hS:∀H,Sg 195 [.agg [.bB tag 3 (cJ l)]] H (.ret (lB 2 ((E.map pN).map pC))) H) (H:aA):
 Sg 148 [.agg [.bB tag 3 (cJ l)]] H (.ret (.bB 0 3 (cJ (E.map (WE l))))) H:=by
 refine eQ fit fG aWy (Ak rfl) ZaJ ?_ H;unfold aLw;dsimp only;have cW:∀k (h:k<l.length),l.getD k V0=l[k]:=fun k h=>by simp[List.getD,h]
 rw[show lB 2 ((E.map pN).map pC)=.bB 0 2 ((E.map pN).map pC) from if_neg (by simpa using hE0)] at hS;refine Ty ?_;refine bZ (hS _) ?_;refine Tz ?_;refine bP [3] (fun i vs H'=>∃v,vs=[v]/\Own H' 3 v (cJ ((E.take i).map (WE l)))/\1<=H'.next/\H'.get 0=some (.cells [.bB tag 3 (cJ l)] false)) 0 E.length (Az _) (by omega) (by decide) ?_ ?_ ?_ ?_ ?_
 . exact zq
 . exact⟨.aR,by simp only[sm,zB,seval],.nil _ _,by simp only[zI,seval],by simp only[zI,seval]⟩
 . rintro i f H1 h0 hi hk e1 _;have f4:f 4=.bB 0 2 ((E.map pN).map pC):=hk 4 rfl;simp only[↓zP,zG,seval,e1,f4,Af];exact Zaf
 . rintro i f H1 h0 hi hk e1 ⟨v,hv,ho,hn,g0⟩;simp only[zM] at hv;have f1:f 1=.ref 0 0:=hk 1 rfl;have f4:f 4=.bB 0 2 ((E.map pN).map pC):=hk 4 rfl;have hg:((E.map pN).map pC).getD i []=pC (pN E[i]):=by rw[Gr];exact gJ hi
   obtain⟨ha,hb⟩:=hE _ (Ac hi)
   have rQ:(E.take (i+1)).map (WE l)=(E.take i).map (WE l)++[WE l E[i]]:=by rw[Ao,Cx];simp[hi]
   have sJ:((E.take i).map (WE l)).length<=2^20:=Zai;have hEm:((E.map pN).map pC).length=E.length:=(by rw[Af,Af]);rw[rQ];generalize (E.take i).map (WE l)=aY at *;generalize E[i]=p at *;have ga:=dC ha;have gb:=dC hb;have na:=hl _ (Ac ha);have nb:=hl _ (Ac hb);have FK:aP.sub l[p.2] l[p.1]=WE l p:=(by simp only[WE,cW p.2 hb,cW p.1 ha]);have q0:(pC (pN p)).getD 0 aC=.int .i64 (p.1:Int):=rfl;have q1:(pC (pN p)).getD 1 aC=.int .i64 (p.2:Int):=rfl;have r1:(List.drop 1 (pC (pN p))).getD 0 aC=.int .i64 (p.2:Int):=rfl;have r2:1<=(List.drop 1 (pC (pN p))).length:=Ab _;have ta:(cT l[p.1]).take 3=cT l[p.1]:=rfl;have tb:(cT l[p.2]).take 3=cT l[p.2]:=rfl;obtain⟨H5,z1,z2,z3,z4,z5⟩:=Has.push (.inr ho) (ys:=[cT (WE l p)]) (bytes:=24) rfl (by rw[aU,Aq,Bm];omega);refine aL ?_;refine Dz ?_;simp only[↓zP,zJ,seval,zD,f1,f4,e1,hv,g0,hEm,hi,hg,zp,q0,r1,r2,sP,aB,aU,ha,hb,ga,gb,oL (aV l[p.1]),oL (aV l[p.2])];refine fH (xD nb na (by omega) _) ?_;rw[FK];simp only[↓zP,zJ,seval,zD,oL (aV (WE l p))];rw[eL];simp only[z1,cF,seval];rw[show cJ (aY++[WE l p])=cJ aY++[cT (WE l p)] from by simp[cJ]];exact⟨by omega,_,rfl,.inr ⟨H1.next,rfl,by omega,z3⟩,by omega,(z4 0 (by omega) (by rw[g0];simp)).trans g0⟩
 rintro f H1 hk ⟨v,hv,ho,hn,g0⟩;simp only[zM] at hv;rw[Ay] at ho;simp only[↓zP,seval,hv];refine Rx ?_;refine⟨v,0,rfl,fun nw=>?_⟩;have cP:cJ (E.map (WE l))≠[]:=by simpa [cJ] using hE0
 rcases ho with ⟨_,h⟩|⟨k,rfl,h1,h2⟩
 . exact absurd h cP
 have MK:dR (cJ (E.map (WE l)))=true:=eJ cS _;simp[fT,jH,MK,JD]
theorem yl {on:List Nat} {a b:Nat}:EJ on on.length a b=true↔aP.Next on a b\/aP.Next on b a:=by
 have hg:∀(i x:Nat),i<on.length->(on.getD i 0=x↔on[i]?=some x):=fun i x h=>by simp[List.getD,h]
 simp only[EJ,Bw,Au,Dm,Al,Ca,aP.Next];constructor
 . rintro⟨i,hi,h⟩;have hm:(i+1)%on.length<on.length:=Di _ (by omega)
   rcases h with ⟨h1,h2⟩|⟨h1,h2⟩
   . exact .inl ⟨i,hi,(hg i a hi).1 h1,(hg _ b hm).1 h2⟩
   exact .inr ⟨i,hi,(hg i b hi).1 h1,(hg _ a hm).1 h2⟩
 rintro(⟨i,hi,h1,h2⟩|⟨i,hi,h1,h2⟩)
 . have hm:(i+1)%on.length<on.length:=Di _ (by omega);exact⟨i,hi,.inl ⟨(hg i a hi).2 h1,(hg _ b hm).2 h2⟩⟩
 have hm:(i+1)%on.length<on.length:=Di _ (by omega);exact⟨i,hi,.inr ⟨(hg i b hi).2 h1,(hg _ a hm).2 h2⟩⟩
theorem al {S:List (aP.V×Int)} {L:aP.V×Int->List Nat} {N:Nat} {x:Int×Int}:
 x∈PO S L N N↔∃a b:Nat,a<b/\b<N/\PS S L a b=true/\x=pN (a,b):=by
 simp only[PO,FR,Fq,Bj,Fg,Au,Al,Bd,pN];constructor
 . rintro⟨a,ha,b,⟨hb,GC,h⟩,rfl⟩;exact⟨a,b,GC,hb,h,rfl⟩
 rintro⟨a,b,GC,hb,h,rfl⟩;exact⟨a,by omega,b,⟨hb,GC,h⟩,rfl⟩
theorem Tw {l:List aP.V} (hl:l.Pairwise iU) {S:List (aP.V×Int)} {L:aP.V×Int->List Nat} (hS:xJ l S L) {a b:Nat}:PS S L a b=true↔∃q∈S,aP.Next (L q) a b:=by
 simp only[PS,Bw,yl];constructor
 . rintro⟨q,hq,h|h⟩
   . exact⟨q,hq,h⟩
   obtain⟨n',d',L',F',P',hN'⟩:=(hS.po q hq).back (NA hl) ((hS.fl.mem q).1 hq) h;have jy:=(hS.fl.mem (n',d')).2 F';rw[P'.uniq (hS.po _ jy)] at hN';exact⟨(n',d'),jy,hN'⟩
 rintro⟨q,hq,h⟩;exact⟨q,hq,.inl h⟩
theorem Om {tag:Nat} (ht:Nat.blt tag 2=true) {l:List aP.V} (h0:vC l=0) {M:Nat} (hn:∀v∈l,cH M v) (hM:M<=2^18):∃U:List aP.V,U.length<=2^20/\U≠[]/\(∀v,v∈U↔IsE l v)/\(∀v∈U,cH (M+M) v)/\
 (∀H,Sg 146 [.agg [.bB tag 3 (cJ l)]] H (.ret (.bB (H.next+2) 5 ((nC l).map (dU (pZ l))))) (H.alloc .tok))/\
 ∀H,Sg 148 [.agg [.bB tag 3 (cJ l)]] H (.ret (.bB 0 3 (cJ U))) H:=by
 obtain⟨hs,_,cP,Pe,hlen,Qs,_⟩:=NH h0;have hF:=uO hs;have p3:=kz ht hn hM hlen hF Pe
 have hE:∀x∈PO (nC l) (pZ l) l.length l.length,∃a b:Nat,a<b/\(∃q∈nC l,aP.Next (pZ l q) a b)/\x=pN (a,b):=fun x hx=>by obtain⟨a,b,h1,h2,h3,rfl⟩:=al.1 hx;exact⟨a,b,h1,(Tw hs hF).1 h3,rfl⟩
 have jw:∀q∈nC l,∀a b,aP.Next (pZ l q) a b->a<l.length/\b<l.length:=fun q hq a b h=>by have h1:=(hF.po q hq).wT.1 h;exact⟨(dW.1 h1.1).1,(dW.1 h1.2.1).1⟩
 have hE2:∀a b:Nat,a<b->(∃q∈nC l,aP.Next (pZ l q) a b)->pN (a,b)∈PO (nC l) (pZ l) l.length l.length:=fun a b GC h=>by obtain⟨q,hq,hN⟩:=h;exact al.2 ⟨a,b,GC,(jw q hq a b hN).2,(Tw hs hF).2 ⟨q,hq,hN⟩,rfl⟩
 have aIn:(PO (nC l) (pZ l) l.length l.length).length<=2^20:=by have :=bt (nC l) (pZ l) l.length l.length;have :l.length*l.length<=64*64:=Bt hlen hlen;omega
 have hE0:PO (nC l) (pZ l) l.length l.length≠[]:=by
  have :=XC hs hF cP;obtain⟨x,r,h⟩:=Fy this;have hx:x∈edL (nC l) (pZ l):=by rw[h];simp
  obtain⟨q,hq,a,b,hN,GC,rfl⟩:=(Su hF).1 hx;intro he;have :=hE2 a b GC ⟨q,hq,hN⟩;rw[he] at this;cases this
 generalize PO (nC l) (pZ l) l.length l.length=E at *
 have Xb:E=(E.map fun x=>(x.1.toNat,x.2.toNat)).map pN:=by rw[Gr];refine(Kb E).symm.trans (Fl fun x hx=>?_);obtain⟨a,b,_,_,rfl⟩:=hE x hx;simp[pN]
 generalize hE':(E.map fun x=>(x.1.toNat,x.2.toNat))=E' at *
 have hm':∀p:Nat×Nat,p∈E'↔(∃q∈nC l,aP.Next (pZ l q) p.1 p.2)/\p.1<p.2:=fun p=>by
  rw[<-hE',Bj];constructor
  . rintro⟨x,hx,rfl⟩;obtain⟨a,b,h1,h2,rfl⟩:=hE x hx;exact⟨by simpa [pN] using h2,by simpa [pN] using h1⟩
  rintro⟨h1,h2⟩;exact⟨pN p,hE2 p.1 p.2 h2 h1,by simp[pN]⟩
 refine⟨E'.map (WE l),?_,?_,?_,?_,fun H=>Va tag hn hM hlen hF cP ht H,fun H=>lk ht hn hM (E:=E') ?_ ?_ ?_ ?_ H⟩
 . rw[Af,<-hE',Af];exact aIn
 . intro e;rw[Ir,<-hE',Ir] at e;exact hE0 e
 . intro v;rw[Bj];constructor
   . rintro⟨p,hp,rfl⟩;obtain⟨⟨q,hq,h1⟩,h2⟩:=(hm' p).1 hp;have h3:=(hF.po q hq).wT.1 h1;exact⟨q,(hF.fl.mem q).1 hq,p.1,p.2,h3.2,h3.1,h2,rfl⟩
   rintro⟨q,hq,a,b,h1,h2,h3,rfl⟩;have jy:=(hF.fl.mem q).2 hq;exact⟨(a,b),(hm' (a,b)).2 ⟨⟨q,jy,(hF.po q jy).wT.2 ⟨h2,h1⟩⟩,h3⟩,rfl⟩
 . intro v hv;obtain⟨p,hp,rfl⟩:=Bj.1 hv;obtain⟨⟨q,hq,h1⟩,h2⟩:=(hm' p).1 hp;obtain⟨b1,b2⟩:=jw q hq _ _ h1
   have hg:∀k,k<l.length->cH M (l.getD k V0):=fun k hk=>by have :l.getD k V0=l[k]:=(by simp[List.getD,hk]);rw[this];exact hn _ (Ac hk)
   exact gL (hg _ b2) (hg _ b1)
 . rw[<-hE',Af];exact aIn
 . intro e;rw[<-hE',Ir] at e;exact hE0 e
 . intro p hp;obtain⟨⟨q,hq,h1⟩,h2⟩:=(hm' p).1 hp;exact jw q hq _ _ h1
 rw[<-Xb];exact p3
theorem YX {v:aP.V} {B:Nat} (hv:cH B v) (hB:B<2^62) (H:aA):Sg 149 [.agg (c3 fun i=>cI (v.at i))] H (.ret (.agg (cT v))) H:=by
 refine Sp aWz (by simp only[sf,xL fun i _=>dG _]) Zam ?_ H;unfold aLx;dsimp only;have hl:=fun i (hi:i<3)=>ND (c:=fun i=>cI (v.at i)) (fun i _=>dY _) hi;have l0:(c3 fun i=>cI (v.at i)).take 18=cI (v.at 0):=hl 0 (by decide);have l1:((c3 fun i=>cI (v.at i)).drop 18).take 18=cI (v.at 1):=hl 1 (by decide);have l2:((c3 fun i=>cI (v.at i)).drop 36).take 18=cI (v.at 2):=hl 2 (by decide);have h54:(c3 fun i=>cI (v.at i)).length=54:=tG fun _ _=>dY _
 have hs:∀i,∀H,Sg 197 [.agg (cI (v.at i))] H (.ret (.iA [.int .i64 (v.at i),.bool true])) H:=fun i=>by have :=cH.c hv i;exact RS (by omega) (by omega)
 refine bQ ?_;refine Ty ?_;refine bR ?_;simp only[↓zP,zJ,seval,sP,h54,l0];refine bZ (hs 0 _) ?_;simp only[↓zP,zJ,seval,h54,l1];refine bZ (hs 1 _) ?_;simp only[↓zP,zJ,seval,h54,l2];refine bZ (hs 2 _) ?_;refine Ty ?_;refine Rx ?_;rfl
theorem aRf {a b Z:List AV} (ha:a.length=18) (hb:b.length=18) (hZ:Z.length=18):
 (if True/\36<=(a++Z).length/\True then some ((a++Z).take 18++b++(a++Z).drop 36) else none)=some (a++b):=by
 have hl:(a++Z).length=36:=by rw[Ba,ha,hZ]
 rw[if_pos ⟨trivial,by omega,trivial⟩,Cl (by omega),As (by omega),Cc (by omega),Ch]
theorem Vn {tag:Nat} (ht:Nat.blt tag 2=true) {l:List aP.V} {M B:Nat} (hl:∀v∈l,cH M v) (hlen:l.length<2^30) {n:aP.V} (hn:cH B n) (hM:M<2^31) (hB:B<2^31) (hs:3*(B*M)<2^62) {x0:aP.V} {r:List aP.V} (hx:l=x0::r) (H:aA):
 Sg 193 [.agg [.bB tag 3 (cJ l)],.agg (cT n)] H (.ret (.agg (cI (OG n (aP.dot n x0) l)++cI (Nq n (aP.dot n x0) l)))) H:=by
 have aUz:∀v∈l,∀H,Sg 264 [.agg (cT n),.agg (cT v)] H (.ret (.agg (cI (aP.dot n v)))) H:=fun v hv H=>aHb hn (hl v hv) hB hM hs H;refine Sp aXx (by simp only[sf,dK ht,cS]) (by simp only[AV.free,gY,aDm];rfl) ?_ H;unfold aMv;dsimp only;have xn:0<l.length:=by rw[hx];simp
 have bGc:l[0]=x0:=by subst hx;rfl
 have g0:=dC xn;have hd0:=aUz _ (Ac xn);have a0:asNat (.int .i64 0)=some 0:=rfl;have mC:∀z,(cI z).length=18:=fun z=>by simp[cI,dM,cU]
 have d3:∀v:aP.V,(cT v).take 3=cT v:=fun _=>rfl;refine bQ ?_;refine Ty ?_;refine bR ?_;generalize hX:(((aA.mk 0 .nil).alloc _).alloc _).alloc _=HA;have m0:HA.get 0=some (.cells [.bB tag 3 (cJ l)] false):=by subst hX;simp only[zI,seval]
 have m1:HA.get 1=some (.cells (cT n) false):=by subst hX;simp only[zI,seval]
 obtain⟨z,m2,lz⟩:∃z,HA.get 2=some (.cells z false)/\z.length=36:=⟨_,by subst hX;simp only[zI,seval];rfl,by simp[dM];rfl⟩;have mn:HA.next=3:=by subst hX;simp only[zI,seval]
 have mf:cV HA:=by subst hX;exact(((cV.nil 0).alloc _).alloc _).alloc _
 clear hX;refine bQ ?_;refine oV 1 (by decide) mf.at1 fun H1 n1 e1=>?_;simp only[↓zP,zJ,seval,zD,m0,m1,mn,e1,a0,aU,xn,g0,oL (aV l[0]),oL (aV n)];have JI:(AV.bool false::AV.bool false::wC zs).length=18:=by simp[dM];rfl
 refine fH (hd0 _) ?_;rw[bGc];generalize hd:aP.dot n x0=d0 at *;rw[mn] at n1;simp only[↓zP,zJ,seval,zD,mC,JI,oL JI,n1,e1];refine bR ?_;have f3:cV H1:=fun j hj=>by rw[e1 j];exact mf j (by omega)
 generalize hX:(H1.set 3 _).set 3 _=HB;have b0:HB.get 0=some (.cells [.bB tag 3 (cJ l)] false):=by subst hX;rw[aA.aD,if_neg (by decide),aA.aD,if_neg (by decide),e1];exact m0
 have b1:HB.get 1=some (.cells (cT n) false):=by subst hX;rw[aA.aD,if_neg (by decide),aA.aD,if_neg (by decide),e1];exact m1
 have b2:HB.get 2=some (.cells z false):=by subst hX;rw[aA.aD,if_neg (by decide),aA.aD,if_neg (by decide),e1];exact m2
 have b3:HB.get 3=some (.cells (cI d0) false):=by subst hX;rw[aA.aD,if_pos rfl]
 have bn:HB.next=4:=by subst hX;simp only[aA.bC];omega
 have bf:cV HB:=by subst hX;exact(f3.set (by omega) _).set (by simp only[aA.bC];omega) _
 clear hX;have hT:∀a b:Int,(cI a++cI b).take 18=cI a:=fun a b=>by rw[Cl (by rw[mC];exact Ab _),<-mC a,Ay]
 have hD:∀a b:Int,(cI a++cI b).drop 18=cI b:=fun a b=>by rw[<-mC a,List.drop_left]
 have XR:∀a b:Int,(cI a++cI b).length=36:=fun a b=>by rw[Ba,mC,mC]
 refine bQ ?_;simp only[↓zP,zJ,seval,b3,oL (mC d0)];rw[aRf (mC d0) (mC d0) JI];have z36:(AV.bool false::AV.bool false::AV.int .u32 0::AV.int .u32 0::AV.int .u32 0::AV.int .u32 0::AV.int .u32 0::AV.int .u32 0::AV.int .u32 0::AV.int .u32 0::AV.int .u32 0::AV.int .u32 0::AV.int .u32 0::AV.int .u32 0::AV.int .u32 0::AV.int .u32 0::AV.int .u32 0::AV.int .u32 0::AV.bool false::AV.bool false::wC zs).length=36:=by simp[dM];rfl
 generalize (AV.bool false::AV.bool false::AV.int .u32 0::AV.int .u32 0::AV.int .u32 0::AV.int .u32 0::AV.int .u32 0::AV.int .u32 0::AV.int .u32 0::AV.int .u32 0::AV.int .u32 0::AV.int .u32 0::AV.int .u32 0::AV.int .u32 0::AV.int .u32 0::AV.int .u32 0::AV.int .u32 0::AV.int .u32 0::AV.bool false::AV.bool false::wC zs)=Z36 at *;simp only[zJ,seval,XR,oL z36,bn];refine bR ?_;generalize hX:((HB.alloc _).set 4 _)=HC;have p0:HC.get 0=some (.cells [.bB tag 3 (cJ l)] false):=by subst hX;rw[aA.aD,if_neg (by decide),aA.aG,bn,if_neg (by decide)];exact b0
 have p1:HC.get 1=some (.cells (cT n) false):=by subst hX;rw[aA.aD,if_neg (by decide),aA.aG,bn,if_neg (by decide)];exact b1
 have p2:HC.get 2=some (.cells z false):=by subst hX;rw[aA.aD,if_neg (by decide),aA.aG,bn,if_neg (by decide)];exact b2
 have p4:HC.get 4=some (.cells (cI d0++cI d0) false):=by subst hX;rw[aA.aD,if_pos rfl]
 have pn:HC.next=5:=by subst hX;simp only[aA.bC,aA.aS];omega
 have pf:cV HC:=by subst hX;exact(bf.alloc _).set Zag _
 clear hX;have lf1:OG n d0 (l.take 1)=d0:=by subst hx;simp[OG,hd]
 have mM:Nq n d0 (l.take 1)=d0:=by subst hx;simp[Nq,hd]
 have aUy:d0.natAbs<=3*(B*M):=by
  have :=AF hn (hl x0 (by rw[hx];simp))
  rwa [hd] at this
 have w16:3*(B*M)<W^16:=by
  have :2^62<W^16:=by decide
  omega
 refine aJ fun K hK=>?_;refine bQ ?_;refine Tz ?_;refine bR ?_;refine bP [] (fun i _ H'=>H'.get 0=some (.cells [.bB tag 3 (cJ l)] false)/\H'.get 1=some (.cells (cT n) false)/\H'.get 2=some (.cells z false)/\H'.get 4=some (.cells (cI (OG n d0 (l.take i))++cI (Nq n d0 (l.take i))) false)/\5<=H'.next/\cV H'/\(OG n d0 (l.take i)).natAbs<=3*(B*M)/\(Nq n d0 (l.take i)).natAbs<=3*(B*M)) 1 l.length (by omega) (by omega) (by decide) ?_ ?_ ?_ ?_ ?_
 . exact zq
 . rw[lf1,mM];exact⟨p0,p1,p2,p4,by omega,pf,aUy,aUy⟩
 . rintro i f H2 h0 hi hk e2 ⟨q0,_⟩;have f2:f 2=.ref 0 0:=hk 2 rfl;simp only[↓zP,zJ,seval,e2,f2,q0,aU];exact Zaf
 . rintro i f H2 h0 hi hk e2 ⟨q0,q1,q2,q4,qn,qf,c1,c2⟩;have f2:f 2=.ref 0 0:=hk 2 rfl;have f3':f 3=.ref 1 0:=hk 3 rfl;have f6:f 6=.ref 4 0:=hk 6 rfl;have hg:=dC hi;have FH:=Ac hi;have hdi:=aUz _ FH;have hdn:=AF hn (hl _ FH)
   have Tb:OG n d0 (l.take (i+1))=if aP.dot n l[i]<OG n d0 (l.take i) then aP.dot n l[i] else OG n d0 (l.take i):=by unfold OG;rw[Ao,Jh];simp[hi]
   have Lq:Nq n d0 (l.take (i+1))=if aP.dot n l[i]>Nq n d0 (l.take i) then aP.dot n l[i] else Nq n d0 (l.take i):=by unfold Nq;rw[Ao,Jh];simp[hi]
   rw[Tb,Lq];generalize OG n d0 (l.take i)=lo at *;generalize Nq n d0 (l.take i)=gO at *;generalize l[i]=x at *;generalize aP.dot n x=d at *;refine aL ?_;refine bQ ?_;refine oV 1 (by decide) qf.at1 fun H3 n3 e3=>?_;simp only[↓zP,zJ,seval,zD,f2,f3',e2,q0,q1,e3,aB,aU,hi,hg,oL (aV x),oL (aV n)];refine fH (hdi _) ?_;simp only[↓zP,zJ,seval,zD,mC,JI,oL JI,n3,e3];refine bR ?_;have f3:cV H3:=fun j hj=>by rw[e3 j];exact qf j (by omega)
   generalize hX:(H3.set H2.next _).set H2.next _=H4;have y0:H4.get 0=some (.cells [.bB tag 3 (cJ l)] false):=(by subst hX;rw[aA.aD,if_neg (by omega),aA.aD,if_neg (by omega),e3];exact q0);have y1:H4.get 1=some (.cells (cT n) false):=(by subst hX;rw[aA.aD,if_neg (by omega),aA.aD,if_neg (by omega),e3];exact q1);have y2:H4.get 2=some (.cells z false):=(by subst hX;rw[aA.aD,if_neg (by omega),aA.aD,if_neg (by omega),e3];exact q2);have y4:H4.get 4=some (.cells (cI lo++cI gO) false):=(by subst hX;rw[aA.aD,if_neg (by omega),aA.aD,if_neg (by omega),e3];exact q4);have y8:H4.get H2.next=some (.cells (cI d) false):=Zal;have yn:5<=H4.next:=(by subst hX;simp only[aA.bC];omega);have yf:cV H4:=(by subst hX;exact(f3.set (by omega) _).set (by simp only[aA.bC];omega) _);clear hX e3 f3;have q8:H2.next<H4.next:=Cq fun h=>by have :=yf H2.next (by omega);rw[y8] at this;cases this
   clear n3;generalize H2.next=r8 at *
   have AM:∀y:Int,(decide (rL (some d) (some y)<0)=decide (d<y))/\(decide (rL (some d) (some y)>0)=decide (d>y)):=fun y=>by constructor<;>(rw[Bs];simp only[rL];split<;>(try split)<;>omega)
   refine aJ fun K3 Lp=>?_
   have key:∀(f':dE) (H':aA) (lo2:Int),f' 8=.ref r8 0->f' 6=.ref 4 0->H'.get r8=some (.cells (cI d) false)->H'.get 0=some (.cells [.bB tag 3 (cJ l)] false)->H'.get 1=some (.cells (cT n) false)->H'.get 2=some (.cells z false)->H'.get 4=some (.cells (cI lo2++cI gO) false)->5<=H'.next->cV H'->lo2=(if d<lo then d else lo)->K3 f' [] H':=by
    intro f' H' lo2 v8 v6 u8 u0 u1 u2 u4 un uf plo;apply Lp;clear Lp K3;have fV:(if d<lo then d else lo).natAbs<=3*(B*M):=(by split<;>omega);have hcm:=CL (x:=d) (y:=gO) (by omega) (by omega);have XZ:4<H'.next:=(by omega);refine aJ fun K4 hK4=>?_;simp only[↓zP,zJ,seval,v8,v6,u8,u4,XR,hD,oL (mC d),oL (mC gO)];refine bZ (hcm _) ?_;by_cases c:d>gO
    . have d2:decide (rL (some d) (some gO)>0)=true:=(by rw[(AM gO).2];exact Aj c);simp only[↓zP,zG,seval,d2];apply hK4;clear hK4 K4;simp only[↓zP,zJ,seval,v8,v6,u8,u4,XR,hT,oL (mC d),oL (XR lo2 gO)];rw[if_pos c,<-plo];exact⟨u0,u1,u2,rfl,un,uf.set XZ _,by rw[plo];exact fV,hdn⟩
    have d2:decide (rL (some d) (some gO)>0)=false:=(by rw[(AM gO).2];exact Ag c);simp only[↓zP,zG,seval,d2];apply hK4;clear hK4 K4;refine Tz ?_;rw[if_neg c,<-plo];exact⟨u0,u1,u2,u4,un,uf,by rw[plo];exact fV,c2⟩
   have hcm:=CL (x:=d) (y:=lo) (by omega) (by omega);have XZ:4<H4.next:=(by omega);clear Lp;refine aJ fun K4 hK4=>?_;simp only[↓zP,zJ,seval,f6,y8,y4,XR,hT,oL (mC d)];refine bZ (hcm _) ?_;by_cases c:d<lo
   . have d2:decide (rL (some d) (some lo)<0)=true:=(by rw[(AM lo).1];exact Aj c);simp only[↓zP,zG,seval,d2];apply hK4;clear hK4 K4;simp only[↓zP,zJ,seval,f6,y8,y4,XR,hD,oL (mC d)];refine key _ _ d zq (by simp only[zB,seval];exact f6) ?_ ?_ ?_ ?_ ?_ ?_ (yf.set XZ _) (if_pos c).symm
     . rw[aA.aD,if_neg (by omega)];exact y8
     . rw[aA.aD,if_neg (by omega)];exact y0
     . rw[aA.aD,if_neg (by omega)];exact y1
     . rw[aA.aD,if_neg (by omega)];exact y2
     . rw[aA.aD,if_pos rfl]
     simp only[aA.bC];exact yn
   have d2:decide (rL (some d) (some lo)<0)=false:=(by rw[(AM lo).1];exact Ag c);simp only[↓zP,zG,seval,d2];apply hK4;clear hK4 K4;refine Tz ?_;exact key _ H4 lo zq (by simp only[zB,seval];exact f6) y8 y0 y1 y2 y4 yn yf (if_neg c).symm
 rintro f H2 hk ⟨q0,q1,q2,q4,qn,qf,c1,c2⟩;have f4:f 4=.ref 2 0:=hk 4 rfl;have f6:f 6=.ref 4 0:=hk 6 rfl;rw[Ay] at q4;refine Tx ?_;apply hK;clear hK K;simp only[↓zP,zJ,seval,f4,f6,q4,XR,q2,lz,oL lz,oL (XR (OG n d0 l) (Nq n d0 l))];refine⟨rfl,_,by simp only[↓zP,zR,seval,f4,XR,oL (XR (OG n d0 l) (Nq n d0 l))];rfl,?_⟩;rfl
theorem aHg {ta tb:Nat} (hta:Nat.blt ta 2=true) (htb:Nat.blt tb 2=true) {a b:List aP.V} {M B:Nat} (ha:∀v∈a,cH M v) (hb:∀v∈b,cH M v) (hal:a.length<2^30) (Uk:b.length<2^30) (ha0:a≠[]) (XS:b≠[]) {n:aP.V} (hn:cH B n) (hM:M<2^31) (hB:B<2^31) (hs:3*(B*M)<2^62) (H:aA):
 Sg 147 [.agg [.bB ta 3 (cJ a)],.agg [.bB tb 3 (cJ b)],.agg (cT n)] H (.ret (.bool (decide (n≠V0)&&yF a b n))) H:=by
 obtain⟨xa,ra,WO⟩:=Fy ha0;obtain⟨xb,rb,hxb⟩:=Fy XS;have hsa:=fun H=>Vn hta ha hal hn hM hB hs WO H;have hsb:=fun H=>Vn htb hb Uk hn hM hB hs hxb H
 have aEy:yF a b n=(decide (Nq n (aP.dot n xa) a<=OG n (aP.dot n xb) b)||decide (Nq n (aP.dot n xb) b<=OG n (aP.dot n xa) a)):=by unfold yF;rw[WO,hxb];rfl
 refine So aWx (by simp only[sf,dK hta,dK htb,cS]) ?_ H;unfold aLv;dsimp only;have hz:[AV.int .i64 0,AV.int .i64 0,AV.int .i64 0]=cT V0:=rfl;have mC:∀z,(cI z).length=18:=fun z=>by simp[cI,dM,cU]
 have hT:∀a b:Int,(cI a++cI b).take 18=cI a:=fun a b=>by rw[Cl (by rw[mC];exact Ab _),<-mC a,Ay]
 have hD:∀a b:Int,(cI a++cI b).drop 18=cI b:=fun a b=>by rw[<-mC a,List.drop_left]
 have XR:∀a b:Int,(cI a++cI b).length=36:=fun a b=>by rw[Ba,mC,mC]
 have z36:(AV.bool false::AV.bool false::AV.int .u32 0::AV.int .u32 0::AV.int .u32 0::AV.int .u32 0::AV.int .u32 0::AV.int .u32 0::AV.int .u32 0::AV.int .u32 0::AV.int .u32 0::AV.int .u32 0::AV.int .u32 0::AV.int .u32 0::AV.int .u32 0::AV.int .u32 0::AV.int .u32 0::AV.int .u32 0::AV.bool false::AV.bool false::wC zs).length=36:=by simp[dM];rfl
 refine bQ ?_;refine Ty ?_;refine bR ?_;generalize hX:(((aA.mk 0 .nil).alloc _).alloc _).alloc _=HA;have m0:HA.get 0=some (.cells [.bB ta 3 (cJ a)] false):=by subst hX;simp only[zI,seval]
 have m1:HA.get 1=some (.cells [.bB tb 3 (cJ b)] false):=by subst hX;simp only[zI,seval]
 have m2:HA.get 2=some (.cells (cT n) false):=by subst hX;simp only[zI,seval]
 have mn:HA.next=3:=by subst hX;simp only[zI,seval]
 clear hX;refine bQ ?_;by_cases Xc:n=V0
 . simp only[↓zP,zJ,seval,m2,oL (aV n),hz,nB,Aj Xc];refine Rx ?_;rw[Ag (fun h=>h Xc)];rfl
 simp only[↓zP,zJ,seval,m2,oL (aV n),hz,nB,Ag Xc];refine bR ?_;rw[Aj Xc,Co,aEy];refine bQ ?_;simp only[↓zP,zJ,seval,m0,m2,oL (aV n)];refine bZ (hsa _) ?_;simp only[↓zP,zJ,seval,mn,XR];refine bR ?_
 have hBM:∀v,v∈a\/v∈b->(aP.dot n v).natAbs<=3*(B*M):=fun v hv=>by
  rcases hv with h|h
  . exact AF hn (ha v h)
  exact AF hn (hb v h)
 have da:=hBM xa (.inl (by rw[WO];simp));have db:=hBM xb (.inr (by rw[hxb];simp));have lan:=Ss (n:=n) (l:=a) da fun v hv=>hBM v (.inl hv);have han:=SP (n:=n) (l:=a) da fun v hv=>hBM v (.inl hv);have lbn:=Ss (n:=n) (l:=b) db fun v hv=>hBM v (.inr hv);have hbn:=SP (n:=n) (l:=b) db fun v hv=>hBM v (.inr hv);generalize OG n (aP.dot n xa) a=la at *;generalize Nq n (aP.dot n xa) a=ua at *;generalize OG n (aP.dot n xb) b=lb at *;generalize Nq n (aP.dot n xb) b=ub at *;generalize hX:(HA.alloc _).set 3 _=HB;have b1:HB.get 1=some (.cells [.bB tb 3 (cJ b)] false):=by subst hX;rw[aA.aD,if_neg (by decide),aA.aG,mn,if_neg (by decide)];exact m1
 have b2:HB.get 2=some (.cells (cT n) false):=by subst hX;rw[aA.aD,if_neg (by decide),aA.aG,mn,if_neg (by decide)];exact m2
 have b3:HB.get 3=some (.cells (cI la++cI ua) false):=by subst hX;rw[aA.aD,if_pos rfl]
 have bn:HB.next=4:=by subst hX;simp only[aA.bC,aA.aS];omega
 clear hX;refine bQ ?_;simp only[↓zP,zJ,seval,b1,b2,oL (aV n)];refine bZ (hsb _) ?_;simp only[↓zP,zJ,seval,bn,XR];refine bR ?_;generalize hX:(HB.alloc _).set 4 _=HC;have p3:HC.get 3=some (.cells (cI la++cI ua) false):=by subst hX;rw[aA.aD,if_neg (by decide),aA.aG,bn,if_neg (by decide)];exact b3
 have p4:HC.get 4=some (.cells (cI lb++cI ub) false):=by subst hX;rw[aA.aD,if_pos rfl]
 clear hX
 have w16:3*(B*M)<W^16:=by
  have :2^62<W^16:=by decide
  omega
 have SO:=CL (x:=ua) (y:=lb) (by omega) (by omega);have AM:=CL (x:=ub) (y:=la) (by omega) (by omega)
 have hle:∀x y:Int,decide (rL (some x) (some y)<=0)=decide (x<=y):=fun x y=>by rw[Bs];simp only[rL];split<;>(try split)<;>omega
 refine aJ fun K hK=>?_;simp only[↓zP,zJ,seval,p3,p4,XR,hT,hD,oL (mC _)];refine bZ (SO _) ?_;by_cases c:ua<=lb
 . have d1:decide (rL (some ua) (some lb)<=0)=true:=by rw[hle];exact Aj c
   simp only[↓zP,zG,seval,d1];apply hK;clear hK K;refine Tx ?_;refine Rx ?_;rw[Aj c];rfl
 have d1:decide (rL (some ua) (some lb)<=0)=false:=by rw[hle];exact Ag c
 simp only[↓zP,zJ,seval,d1,p3,p4,XR,hT,hD,oL (mC _)];refine bZ (AM _) ?_;simp only[↓zP,zG,seval,hle];apply hK;clear hK K;refine Tx ?_;refine Rx ?_;rw[Ag c];rfl
theorem TG {ta tb:Nat} (hta:Nat.blt ta 2=true) (htb:Nat.blt tb 2=true) {a b:List aP.V} (ha:vC a=0) (hb:vC b=0) (na:∀v∈a,cH (2^12) v) (nb:∀v∈b,cH (2^12) v) (H:aA):
 Sg 117 [.agg [.bB ta 3 (cJ a)],.agg [.bB tb 3 (cJ b)]] H (.ret (.bool (vF a b))) H:=by
 obtain⟨U,lU,zU,mU,nU,fa,ea⟩:=Om hta ha na (by decide);obtain⟨W',lW,zW,mW,nW,fb,eb⟩:=Om htb hb nb (by decide);obtain⟨sa,_,ha1,ha2,ha3,ha4,_⟩:=NH ha;obtain⟨sb,_,eC,fV,CA,GD,_⟩:=NH hb;have hFa:=uO sa;have hFb:=uO sb
 have aEy:∀n,cH (2^27) n->∀H,Sg 147 [.agg [.bB ta 3 (cJ a)],.agg [.bB tb 3 (cJ b)],.agg (cT n)] H (.ret (.bool (decide (n≠V0)&&yF a b n))) H:=fun n hn H=>aHg hta htb na nb (by omega) (by omega) ha4 GD hn (by decide) (by decide) (by decide) H
 have qY:∀(T:List (List AV)),T=(nC a).map (dU (pZ a))++(nC b).map (dU (pZ b))->T.length<=128/\(∀i,i<T.length->∃n,(T.getD i []).take 3=cT n/\(T.getD i []).length=5/\n≠V0/\IsD a b n/\cH (2^27) n)/\∀n d,(pP (fun i=>a.getD i V0) a.length n d\/pP (fun i=>b.getD i V0) b.length n d)->∃i,i<T.length/\(T.getD i []).take 3=cT n:=by
  intro T hT
  have hm:∀x,x∈T->∃n,x.take 3=cT n/\x.length=5/\n≠V0/\IsD a b n/\cH (2^27) n:=fun x hx=>by
   rw[hT,Ap] at hx
   rcases hx with hx|hx
   . obtain⟨q,hq,rfl⟩:=Bj.1 hx;have hF:=(hFa.fl.mem q).1 hq;exact⟨q.1,rfl,rfl,hF.ZS.hn,.inl ⟨q.2,hF⟩,xP na hF⟩
   obtain⟨q,hq,rfl⟩:=Bj.1 hx;have hF:=(hFb.fl.mem q).1 hq;exact⟨q.1,rfl,rfl,hF.ZS.hn,.inr (.inl ⟨q.2,hF⟩),xP nb hF⟩
  have hgm:∀x,x∈T->∃i,i<T.length/\T.getD i []=x:=fun x hx=>by obtain⟨i,hi,h⟩:=Ei hx;exact⟨i,hi,by simp[List.getD,hi,h]⟩
  refine⟨by rw[hT];simp;omega,fun i hi=>?_,fun n d h=>?_⟩
  . have :T.getD i []=T[i]:=by simp[List.getD,hi]
    rw[this];exact hm _ (Ac hi)
  rcases h with h|h
  . obtain⟨i,hi,e⟩:=hgm (dU (pZ a) (n,d)) (by rw[hT,Ap];exact .inl (Bj.2 ⟨_,(hFa.fl.mem (n,d)).2 h,rfl⟩));exact⟨i,hi,by rw[e];rfl⟩
  obtain⟨i,hi,e⟩:=hgm (dU (pZ b) (n,d)) (by rw[hT,Ap];exact .inr (Bj.2 ⟨_,(hFb.fl.mem (n,d)).2 h,rfl⟩));exact⟨i,hi,by rw[e];rfl⟩
 refine So aWf (by simp only[sf,dK hta,dK htb]) ?_ H;unfold aLd;dsimp only;have CX:((nC b).map (dU (pZ b))).isEmpty=false:=by simpa using eC
 obtain⟨hTl,hTi,hTn⟩:=qY _ rfl;refine bQ ?_;refine Ty ?_;refine bR ?_;generalize hX:((aA.mk 0 .nil).alloc _).alloc _=HA;have m0:HA.get 0=some (.cells [.bB ta 3 (cJ a)] false):=by subst hX;simp only[zI,seval]
 have m1:HA.get 1=some (.cells [.bB tb 3 (cJ b)] false):=by subst hX;simp only[zI,seval]
 have mn:HA.next=2:=by subst hX;simp only[zI,seval]
 have mf:cV HA:=by subst hX;exact((cV.nil 0).alloc _).alloc _
 clear hX;refine bQ ?_;simp only[↓zP,zJ,seval,m0];refine bZ (fa _) ?_;refine Tz ?_;refine bR ?_;have oA:Own ((HA.alloc .tok).alloc .tok) 5 (.bB (HA.next+2) 5 ((nC a).map (dU (pZ a)))) ((nC a).map (dU (pZ a))):=.inr ⟨HA.next,rfl,by simp only[aA.aS];omega,by rw[aA.aG,if_neg Zag,aA.aG,if_pos rfl]⟩;obtain⟨HB,z1,z2,z3,z4,z5⟩:=Has.push (.inr oA) (ys:=(nC b).map (dU (pZ b))) (bytes:=56) CX (by rw[Ba] at hTl;omega);have m0':((HA.alloc .tok).alloc .tok).get 0=some (.cells [.bB ta 3 (cJ a)] false):=by rw[aA.aG,if_neg Zag,aA.aG,if_neg (by omega)];exact m0
 have m1':(HA.alloc .tok).get 1=some (.cells [.bB tb 3 (cJ b)] false):=by rw[aA.aG,if_neg (by omega)];exact m1
 have bCv:((HA.alloc .tok).alloc .tok).get 1=some (.cells [.bB tb 3 (cJ b)] false):=by rw[aA.aG,if_neg Zag];exact m1'
 have b0:=(z4 0 Zag (by rw[m0'];simp)).trans m0';have b1:=(z4 1 Zag (by rw[bCv];simp)).trans bCv;have bf:=z5 ((mf.alloc _).alloc _);have bn:2<=HB.next:=by rw[z2];simp only[aA.aS];omega
 generalize WH:HA.alloc .tok=HA1 at *;refine bQ ?_;simp only[↓zP,zJ,seval,m1'];refine bZ (fb _) ?_;refine Tz ?_;rw[show ∀(h:aA) (x:List (List AV)) (t:Nat),cL h 5 (.bB t 5 x)=some x from fun _ _ _=>rfl];simp only[z1,cF,seval,zI];refine bR ?_;generalize (nC a).map (dU (pZ a))++(nC b).map (dU (pZ b))=T at *;generalize HA1.next+1+2=tg at *;clear z1 z2 z3 z4 z5 fa fb CX oA;refine aJ fun K hK=>?_;refine bQ ?_;refine Tz ?_;refine bR ?_;refine bP [] (fun i _ H'=>H'=HB/\∀j,j<i->∀n,(T.getD j []).take 3=cT n->yF a b n=false) 0 T.length (Az _) (by omega) (by decide) ?_ ?_ ?_ ?_ ?_
 . exact zq
 . exact⟨rfl,fun j hj=>absurd hj (An _)⟩
 . rintro i f H1 h0 hi hk e1 _;have f5:f 5=.bB tg 5 T:=hk 5 rfl;simp only[↓zP,zG,seval,e1,f5];exact Zaf
 . rintro i f H1 h0 hi hk e1 ⟨rfl,eW⟩;have f2:f 2=.ref 0 0:=hk 2 rfl;have f3:f 3=.ref 1 0:=hk 3 rfl;have f5:f 5=.bB tg 5 T:=hk 5 rfl;obtain⟨n,t3,t5,Xc,hD,hnn⟩:=hTi i hi;have hse:=aEy n hnn;rw[Aj Xc,Co] at hse;have t3':3<=(T.getD i []).length:=by omega
   refine aL ?_;refine bQ ?_;refine Dz ?_;simp only[↓zP,zJ,seval,zD,f2,f3,f5,e1,b0,b1,aB,hi,t3,t5];refine fH (hse _) ?_;simp only[↓zP,zJ,seval,zD];refine bR ?_;by_cases hs:yF a b n=true
   . simp only[↓zP,zG,seval,hs];refine Rx ?_;rw[show vF a b=true from tI.2 ⟨n,hD,hs⟩];rfl
   have CC:yF a b n=false:=(by simpa using hs);simp only[↓zP,zG,seval,CC];refine⟨trivial,fun j hj n' JN=>?_⟩;by_cases hji:j=i
   . subst hji
     have :n'=n:=by rw[t3] at JN;obtain⟨x,y,z⟩:=n;obtain⟨x',y',z'⟩:=n';simp only[cT,Ip,AV.int.injEq,Jx,Jy] at JN;obtain⟨h1,h2,h3⟩:=JN;subst h1;subst h2;subst h3;rfl
     rw[this];exact CC
   exact eW j (by omega) n' JN
 rintro f H1 hk ⟨rfl,eW⟩;have f2:f 2=.ref 0 0:=hk 2 rfl;have f3:f 3=.ref 1 0:=hk 3 rfl;refine Tx ?_;apply hK;clear hK K;refine bQ ?_;simp only[↓zP,zJ,seval,f2,b0];refine bZ (ea _) ?_;refine Tz ?_;refine fD ?_;simp only[↓zP,zJ,seval,f3,b1];refine bZ (eb _) ?_;refine Tz ?_;refine bR ?_;refine aJ fun K hK=>?_;refine bQ ?_;refine Tz ?_;refine bR ?_;have Lu:∀i (h:i<U.length),(cJ U).getD i []=cT U[i]:=fun i h=>dC h;have hwl:∀i (h:i<W'.length),(cJ W').getD i []=cT W'[i]:=fun i h=>dC h;have hUl:(cJ U).length=U.length:=aU _;have hWl:(cJ W').length=W'.length:=aU _;refine bP [] (fun i _ H'=>H'.get 0=some (.cells [.bB ta 3 (cJ a)] false)/\H'.get 1=some (.cells [.bB tb 3 (cJ b)] false)/\2<=H'.next/\cV H'/\∀u∈U.take i,∀w∈W',(decide (aP.aZ u w≠V0)&&yF a b (aP.aZ u w))=false) 0 U.length (Az _) (by omega) (by decide) ?_ ?_ ?_ ?_ ?_
 . exact zq
 . exact⟨b0,b1,bn,bf,fun u hu=>by simp at hu⟩
 . rintro i g H2 h0 hi eO e2 _;have g8:g 8=.bB 0 3 (cJ U):=eO 8 rfl;simp only[↓zP,zG,seval,e2,g8,hUl];exact Zaf
 . rintro i g H2 h0 hi eO e2 ⟨c0,c1,cn,cf,hnu⟩;have g2:g 2=.ref 0 0:=by rw[eO 2 rfl];simp only[zB,seval];exact f2
   have g3:g 3=.ref 1 0:=(by rw[eO 3 rfl];simp only[zB,seval];exact f3);have g8:g 8=.bB 0 3 (cJ U):=eO 8 rfl;have g9:g 9=.bB 0 3 (cJ W'):=eO 9 rfl;have hgu:=Lu i hi;have hum:=(mU _).1 (Ac hi);have nu:=nU _ (Ac hi)
   have rQ:∀y,y∈U.take (i+1)->y∈U.take i\/y=U[i]:=fun y hy=>by
    rw[Ao,Ap] at hy
    rcases hy with h|h
    . exact .inl h
    simp[hi] at h;exact .inr h
   generalize U[i]=u at *;refine aL ?_;refine bQ ?_;refine Tz ?_;refine bR ?_;refine bP [] (fun j _ H'=>H'.get 0=some (.cells [.bB ta 3 (cJ a)] false)/\H'.get 1=some (.cells [.bB tb 3 (cJ b)] false)/\2<=H'.next/\cV H'/\∀w∈W'.take j,(decide (aP.aZ u w≠V0)&&yF a b (aP.aZ u w))=false) 0 W'.length (Az _) (by omega) (by decide) ?_ ?_ ?_ ?_ ?_
   . exact zq
   . exact⟨c0,c1,cn,cf,fun w hw=>by simp at hw⟩
   . rintro j g' H3 h0 hj oO e3 _;have g9':g' 9=.bB 0 3 (cJ W'):=(by rw[oO 9 rfl];simp only[zB,seval];exact g9);simp only[↓zP,zG,seval,e3,g9',hWl];exact Zaf
   . rintro j g' H3 h0 hj oO e3 ⟨d0,d1,dn,df,hnw⟩;have je:g' 2=.ref 0 0:=(by rw[oO 2 rfl];simp only[zB,seval];exact g2);have g3':g' 3=.ref 1 0:=(by rw[oO 3 rfl];simp only[zB,seval];exact g3);have g8':g' 8=.bB 0 3 (cJ U):=(by rw[oO 8 rfl];simp only[zB,seval];exact g8);have g9':g' 9=.bB 0 3 (cJ W'):=(by rw[oO 9 rfl];simp only[zB,seval];exact g9);have g10:g' 10=.int .i64 i:=(by rw[oO 10 rfl];simp only[zB,seval];exact e2);have hgw:=hwl j hj;have hwm:=(mW _).1 (Ac hj);have nw:=nW _ (Ac hj)
     have bFz:∀y,y∈W'.take (j+1)->y∈W'.take j\/y=W'[j]:=fun y hy=>by
      rw[Ao,Ap] at hy
      rcases hy with h|h
      . exact .inl h
      simp[hj] at h;exact .inr h
     generalize W'[j]=w at *;have ncr:=nO nu nw;have hcr:=kx nu nw (by decide) (by decide);have wx:=YX ncr (by decide);have hse:=aEy (aP.aZ u w) ncr
     have tP:(decide (aP.aZ u w≠V0)&&yF a b (aP.aZ u w))=true->vF a b=true:=fun h=>by rw[Al,Bd] at h;exact tI.2 ⟨_,.inr (.inr ⟨u,w,hum,hwm,rfl,h.1⟩),h.2⟩
     generalize hsv:(decide (aP.aZ u w≠V0)&&yF a b (aP.aZ u w))=sv at *;have d3:∀v:aP.V,(cT v).take 3=cT v:=fun _=>rfl;refine aL ?_;refine bQ ?_;refine oV 1 (by decide) df.at1 fun H4 n4 e4=>?_;simp only[↓zP,zJ,seval,zD,g8',g9',g10,e3,aB,hUl,hWl,hi,hj,hgu,hgw,oL (aV u),oL (aV w)];refine fH (hcr _) ?_;simp only[seval];refine fH (wx _) ?_;generalize hcv:aP.aZ u w=cv at *;simp only[↓zP,zJ,seval,zD,n4,e4,oL (aV cv)];refine bR ?_;have q0:¬(0=H3.next):=(by omega);have q1:¬(1=H3.next):=(by omega);generalize hX:(H4.set H3.next _).set H3.next _=H5;have y0:H5.get 0=some (.cells [.bB ta 3 (cJ a)] false):=(by subst hX;rw[aA.aD,if_neg q0,aA.aD,if_neg q0,e4];exact d0);have y1:H5.get 1=some (.cells [.bB tb 3 (cJ b)] false):=(by subst hX;rw[aA.aD,if_neg q1,aA.aD,if_neg q1,e4];exact d1);have y2:H5.get H3.next=some (.cells (cT cv) false):=Zal;have yn:2<=H5.next:=by subst hX;simp only[aA.bC];omega
     have yf:cV H5:=fun j hj=>by subst hX;simp only[aA.bC] at hj;rw[aA.aD,if_neg (by omega),aA.aD,if_neg (by omega),e4];exact df j (by omega)
     clear hX;generalize H3.next=r5 at *;refine bQ ?_;simp only[↓zP,zJ,seval,je,g3',y0,y1,y2,oL (aV cv)];refine bZ (hse _) ?_;refine Tz ?_;refine bR ?_
     cases sv with
     |true=>refine Tz ?_;refine Rx ?_;rw[tP rfl];rfl
     |false=>
      refine Tz ?_;refine⟨y0,y1,yn,yf,fun y hy=>?_⟩
      rcases bFz y hy with h|rfl
      . exact hnw y h
      rw[hcv];exact hsv
   rintro g' H3 oO ⟨d0,d1,dn,df,hnw⟩;rw[Ay] at hnw;refine Tz ?_;refine⟨d0,d1,dn,df,fun y hy=>?_⟩
   rcases rQ y hy with h|rfl
   . exact hnu y h
   exact hnw
 rintro g H2 eO ⟨c0,c1,cn,cf,hnu⟩;rw[Ay] at hnu;refine Tx ?_;apply hK;clear hK K;refine Tz ?_;refine Rx ?_
 have :vF a b=false:=by
  rw[<-Eh,tI];rintro⟨n,hn,hs⟩
  rcases hn with ⟨d,h⟩|⟨d,h⟩|⟨u,w,hu,hw,rfl,Xc⟩
  . obtain⟨i,hi,e⟩:=hTn n d (.inl h);rw[eW i hi n e] at hs;cases hs
  . obtain⟨i,hi,e⟩:=hTn n d (.inr h);rw[eW i hi n e] at hs;cases hs
  have :=hnu u ((mU u).2 hu) w ((mW w).2 hw);rw[Aj Xc,hs] at this;cases this
 rw[this];rfl
theorem xz:∀c:Fin 256,aFl c.1=((decide (97<=c.1)&&decide (c.1<=122))||(decide (65<=c.1)&&decide (c.1<=90))):=by decide
theorem YW {c:Nat} (hc:c<256) (H:aA):Sg 143 [.int .u8 c] H (.ret (.bool (aFl c))) H:=by
 refine So aWv Zah ?_ H;unfold aLt;dsimp only;have hl:=xz ⟨c,hc⟩;simp only at hl;rw[hl];have d1:decide ((c:Int)≥97)=decide (97<=c):=by rw[Bs];omega
 have d2:decide ((c:Int)<=122)=decide (c<=122):=by rw[Bs];omega
 have d3:decide ((c:Int)≥65)=decide (65<=c):=by rw[Bs];omega
 have d4:decide ((c:Int)<=90)=decide (c<=90):=by rw[Bs];omega
 generalize decide (97<=c)=A at *;generalize decide (c<=122)=B at *;generalize decide (65<=c)=C at *;generalize decide (c<=90)=D at *
 cases A with
 |true=>
  cases B with
  |true=>simp only[↓zP,zJ,seval,d1,d2,mG];refine Rx ?_;rfl
  |false=>
   cases C with
   |true=>simp only[↓zP,zJ,seval,d1,d2,d3,d4];refine Rx ?_;rfl
   |false=>simp only[↓zP,zJ,seval,d1,d2,d3];refine Rx ?_;rfl
 |false=>
  cases C with
  |true=>simp only[↓zP,zJ,seval,d1,d3,d4];refine Rx ?_;simp[nZ]
  |false=>simp only[↓zP,zJ,seval,d1,d3];refine Rx ?_;simp[nZ]
theorem Vj (s:List UInt8) (hlen:s.length<2^63) (H:aA):Sg 114 [.str s] H (.ret (.bool (yK s))) H:=by
 refine So aWd Zah ?_ H;unfold aLb;dsimp only;have d1:decide ((s.length:Int)<1)= !decide (1<=s.length):=by rw[<-Jl,Bs];omega
 have d2:decide ((s.length:Int)>32)= !decide (s.length<=32):=by rw[<-Jl,Bs];omega
 refine bQ ?_;refine Tz ?_;refine fD ?_
 cases h1:decide (1<=s.length) with
 |false=>rw[h1] at d1;simp only[↓zP,zJ,seval,d1];refine Rx ?_;unfold yK;rw[h1];simp[nZ]
 |true=>
 rw[h1] at d1
 cases h2:decide (s.length<=32) with
 |false=>rw[h2] at d2;simp only[↓zP,zJ,seval,d1,d2];refine Rx ?_;unfold yK;rw[h2];simp[nZ]
 |true=>
 rw[h2] at d2;have h2':=Cp h2;simp only[↓zP,zJ,seval,d1,d2];refine bR ?_;refine aJ fun K hK=>?_;refine Tz ?_;refine bP [] (fun i vs H'=>∀k,k<i->UD k (s.getD k 0).toNat=true) 0 s.length (Az _) (by omega) (by decide) ?_ ?_ ?_ ?_ ?_
 . exact zq
 . exact fun k hk=>absurd hk (An _)
 . rintro i f H1 h0 hi hk e1 _;have f0:f 0=.str s:=hk 0 rfl;simp only[↓zP,zG,seval,e1,f0];exact Zaf
 . rintro i f H1 h0 hi hk e1 hJ;have f0:f 0=.str s:=hk 0 rfl
   have hg:s[i]?=some (s.getD i 0):=(by simp[List.getD,hi]);have aUs:(s.getD i 0).toNat<256:=(s.getD i 0).toNat_lt
   have bV:UD i (s.getD i 0).toNat=true->∀k,k<i+1->UD k (s.getD k 0).toNat=true:=fun h k hk=>by
    by_cases e:k=i
    . subst e;exact h
    exact hJ k (by omega)
   have eW:UD i (s.getD i 0).toNat=false->yK s=false:=fun h=>by
    have :(List.range s.length).all (fun k=>UD k (s.getD k 0).toNat)=false:=by rw[Ej];exact⟨i,Au.2 hi,by rw[h];decide⟩
    unfold yK;rw[this];rfl
   have bEw:=YW aUs;refine aL ?_;refine aJ fun K2 bW=>?_;simp only[↓zP,zG,seval,e1,f0,aB,hg];refine bZ (bEw _) ?_;generalize hb:s.getD i 0=b at *;generalize hc:b.toNat=c at *;have d4:((i:Int)==0)=decide (i=0):=by rw[Bool.beq_eq_decide_eq,Bs];omega
   have d5:((c:Int) != 95)= !decide (c=95):=by have :((c:Int)==95)=decide (c=95):=(by rw[Bool.beq_eq_decide_eq,Bs];omega);rw[bne,this]
   have d6:decide ((c:Int)<48)= !decide (48<=c):=(by rw[<-Jl,Bs];omega);have d7:decide ((c:Int)>57)= !decide (c<=57):=(by rw[<-Jl,Bs];omega);unfold UD at bV eW;generalize aFl c=LC at *;generalize decide (i=0)=D4 at *;generalize decide (c=95)=D5 at *;generalize decide (48<=c)=D6 at *;generalize decide (c<=57)=D7 at *
   cases LC with
   |true=>simp only[↓zP,zJ,seval,mG];apply bW;clear bW K2;refine Tz ?_;exact bV (by simp)
   |false=>
    cases D4 with
    |true=>simp only[↓zP,zJ,seval,e1,d4,mG];apply bW;clear bW K2;refine Tz ?_;refine Rx ?_;rw[eW (by simp)];rfl
    |false=>
     cases D5 with
     |true=>simp only[↓zP,zJ,seval,f0,e1,aB,hg,hc,d4,d5,mG];apply bW;clear bW K2;refine Tz ?_;exact bV (by simp)
     |false=>
      cases D6 with
      |false=>simp only[↓zP,zJ,seval,f0,e1,aB,hg,hc,d4,d5,d6];apply bW;clear bW K2;refine Tz ?_;refine Rx ?_;rw[eW (by simp)];rfl
      |true=>
       cases D7 with
       |false=>simp only[↓zP,zJ,seval,f0,e1,aB,hg,hc,d4,d5,d6,d7];apply bW;clear bW K2;refine Tz ?_;refine Rx ?_;rw[eW (by simp)];rfl
       |true=>simp only[↓zP,zJ,seval,f0,e1,aB,hg,hc,d4,d5,d6,d7];apply bW;clear bW K2;refine Tz ?_;exact bV (by simp)
 rintro f H1 hk hJ
 have bV:(List.range s.length).all (fun k=>UD k (s.getD k 0).toNat)=true:=by rw[Ax];exact fun k hk=>hJ k (Au.1 hk)
 refine Tx ?_;apply hK;clear hK K;refine Tz ?_;refine Rx ?_;unfold yK;rw[bV,h1,h2];rfl
theorem UU {v:aP.V}:NV v=true↔∃c,c<3/\(v.at c>4096\/v.at c< -4096):=by
 unfold NV;simp only[Dm,Bd];constructor
 . rintro(h|h|h)
   . exact⟨0,by decide,h⟩
   . exact⟨1,by decide,h⟩
   exact⟨2,by decide,h⟩
 rintro⟨c,hc,h⟩
 match c,hc with
 |0,_=>exact .inl h
 |1,_=>exact .inr (.inl h)
 |2,_=>exact .inr (.inr h)
theorem ml {tag:Nat} (ht:Nat.blt tag 2=true) {l:List aP.V} (hlen:l.length<2^30) (H:aA):
 Sg 116 [.agg [.bB tag 3 (cJ l)]] H (.ret (.bool (!l.any NV))) H:=by
 refine So aWe ZaJ ?_ H;unfold aLc;dsimp only;have FF:(cJ l).length=l.length:=aU _;refine Ty ?_;refine bP [] (fun i _ H'=>H'.get 0=some (.cells [.bB tag 3 (cJ l)] false)/\∀v∈l.take i,NV v=false) 0 l.length (Az _) (by omega) (by decide) ?_ ?_ ?_ ?_ ?_
 . exact zq
 . exact⟨by simp only[zI,seval],fun v hv=>by simp at hv⟩
 . rintro i f H1 h0 hi hk e1 ⟨g0,_⟩;have f1:f 1=.ref 0 0:=hk 1 rfl;simp only[↓zP,zJ,seval,e1,f1,g0,FF];exact Zaf
 . rintro i f H1 h0 hi hk e1 ⟨g0,eW⟩;have f1:f 1=.ref 0 0:=hk 1 rfl;have hg:=dC hi;have FH:=Ac hi
   have hx:∀v,v∈l.take (i+1)->v∈l.take i\/v=l[i]:=fun v hv=>by
    exact Zar
   generalize l[i]=x at *;refine aL ?_;refine bQ ?_;refine Tz ?_;refine bR ?_;refine bP [] (fun j _ H'=>H'.get 0=some (.cells [.bB tag 3 (cJ l)] false)/\∀c,c<j->¬(x.at c>4096)/\¬(x.at c< -4096)) 0 3 (Az _) (by decide) (by decide) ?_ ?_ ?_ ?_ ?_
   . exact zq
   . exact⟨g0,fun c hc=>absurd hc (An _)⟩
   . rintro j g H2 Ni hj eO e2 hJ;simp only[↓zP,zG,seval,e2];exact Zaf
   . rintro j g H2 Ni hj eO e2 ⟨EW,hc⟩;have u1:g 1=.ref 0 0:=(by rw[eO 1 rfl];simp only[zB,seval];exact f1);have u3:g 3=.int .i64 i:=(by rw[eO 3 rfl];simp only[zB,seval];exact e1);have Pg:(x.at j>4096\/x.at j< -4096)->l.any NV=true:=fun h=>Bw.2 ⟨x,FH,UU.2 ⟨j,hj,h⟩⟩;have hdl:1<=(List.drop j (cT x)).length:=(by rw[Ex,aV];omega);have hdg:(List.drop j (cT x)).getD 0 aC=.int .i64 (x.at j):=(by rw[<-kJ x hj];simp[List.getD]);refine aL ?_;refine aJ fun K2 bW=>?_;by_cases c1:x.at j>4096
     . have d1:=Aj c1;simp only[↓zP,zJ,seval,e2,u1,u3,EW,aB,aU,hi,hg,hj,hdl,hdg,d1];apply bW;clear bW K2;refine Tz ?_;refine Rx ?_;rw[Pg (.inl c1)];rfl
     have d1:=Ag c1;by_cases c2:x.at j< -4096
     . have d2:=Aj c2;simp only[↓zP,zJ,seval,e2,u1,u3,EW,aB,aU,hi,hg,hj,hdl,hdg,d1,d2];apply bW;clear bW K2;refine Tz ?_;refine Rx ?_;rw[Pg (.inr c2)];rfl
     have d2:=Ag c2;simp only[↓zP,zJ,seval,e2,u1,u3,EW,aB,aU,hi,hg,hj,hdl,hdg,d1,d2];apply bW;clear bW K2;refine Tz ?_;refine⟨EW,fun c h=>?_⟩;by_cases hcj:c=j
     . subst hcj;exact⟨c1,c2⟩
     exact hc c (by omega)
   rintro g H2 eO ⟨EW,hc⟩;refine Tx ?_;refine⟨EW,fun v hv=>?_⟩
   rcases hx v hv with h|rfl
   . exact eW v h
   rw[<-Eh,UU];rintro⟨c,h1,h2⟩;have :=hc c h1;omega
 rintro f H1 hk ⟨g0,eW⟩;rw[Ay] at eW;refine Tx ?_;refine Rx ?_
 have :l.any NV=false:=by rw[Ct];exact fun v hv=>by rw[eW v hv];decide
 rw[this];rfl
theorem aa (n:aP.V):∀(l:List aP.V) (m:Int),OG (aP.neg n) (-m) l= -(Nq n m l)
 |[],m=>rfl
 |v::l,m=>by
  have ih:=aa n l;unfold OG Nq at ih ⊢;simp only[Hl]
  have :(if aP.dot (aP.neg n) v< -m then aP.dot (aP.neg n) v else -m)= -(if aP.dot n v>m then aP.dot n v else m):=by
   rw[pA];by_cases h:aP.dot n v>m
   . rw[if_pos h,if_pos (by omega)]
   rw[if_neg h,if_neg (by omega)]
  rw[this,ih]
theorem Zk (n:aP.V):∀(l:List aP.V) (m:Int),Nq (aP.neg n) (-m) l= -(OG n m l)
 |[],m=>rfl
 |v::l,m=>by
  have ih:=Zk n l;unfold OG Nq at ih ⊢;simp only[Hl]
  have :(if aP.dot (aP.neg n) v> -m then aP.dot (aP.neg n) v else -m)= -(if aP.dot n v<m then aP.dot n v else m):=by
   rw[pA];by_cases h:aP.dot n v<m
   . rw[if_pos h,if_pos (by omega)]
   rw[if_neg h,if_neg (by omega)]
  rw[this,ih]
theorem Ko (a b:List aP.V) (n:aP.V):yF a b n=yF b a n:=by unfold yF;exact Bool.or_comm _ _
theorem aBb (a b:List aP.V) (n:aP.V):yF a b (aP.neg n)=yF a b n:=by
 unfold yF;simp only[pA,aa,Zk];rw[Bool.or_comm];congr 1
 . rw[Bs];omega
 rw[Bs];omega
theorem UN {a b:List aP.V} (h:vF a b=true):vF b a=true:=by
 obtain⟨n,hD,hs⟩:=tI.1 h
 rcases hD with hF|hF|⟨u,w,hu,hw,rfl,hn⟩
 . exact tI.2 ⟨n,.inr (.inl hF),by rw[Ko];exact hs⟩
 . exact tI.2 ⟨n,.inl hF,by rw[Ko];exact hs⟩
 refine tI.2 ⟨aP.neg (aP.aZ u w),.inr (.inr ⟨w,u,hw,hu,(Ww u w).symm,fun e=>Sy hn e⟩),?_⟩;rw[aBb,Ko];exact hs
theorem im (a b:List aP.V):vF a b=vF b a:=by rw[Cg];exact⟨UN,UN⟩
theorem YH {name:List UInt8} (Qt:name.length<2^63) {ps:List (AV×List aP.V)} (Ur:∀p∈ps,vY p) (hlen:∀p∈ps,p.2.length<2^30) (mN:ps.length<2^30) (m0 m1 r0 r1:Int) (H:aA):
 Sg 87 [.agg (tF name (.bB 0 1 (MZ ps)) m0 m1 r0 r1)] H (.ret (.int .i64 (zX name (ps.map (·.2)) m0 m1 r0 r1))) H:=by
 have MK:bO [AV.agg (tF name (.bB 0 1 (MZ ps)) m0 m1 r0 r1)]=true:=by simp only[sf,tF,VY Ur]
 refine So bCl MK ?_ H;have FF:(ps.map (·.2)).length=ps.length:=Af _;unfold W87;dsimp only;have Tc:(MZ ps).length=ps.length:=Af _;have d1:decide ((ps.length:Int)<1)=decide (ps.length<1):=by rw[Bs];omega
 have d2:decide ((ps.length:Int)>8)=decide (8<ps.length):=by rw[Bs];omega
 refine bQ ?_;simp only[↓zP,zJ,seval,tF];refine bR ?_;generalize hX:(aA.mk 0 .nil).alloc _=HA;have g0:HA.get 0=some (.cells [.str name,.bB 0 1 (MZ ps),.int .i64 m0,.int .i64 m1,.int .i64 r0,.int .i64 r1] false):=by subst hX;simp only[zI,seval]
 clear hX;have hvo:=Vj name Qt;refine bQ ?_;simp only[↓zP,zJ,seval,g0];refine bZ (hvo _) ?_
 cases hv:yK name with
 |false=>refine Ty ?_;refine Rx ?_;unfold zX;rw[if_pos hv];rfl
 |true=>
 refine Ty ?_;refine fD ?_
 cases h1:decide (ps.length<1) with
 |true=>rw[h1] at d1;simp only[↓zP,zJ,seval,g0,Tc,d1];refine Rx ?_;unfold zX;rw[if_neg (by rw[hv];decide),if_pos (.inl (by rw[FF];exact Cp h1))];rfl
 |false=>
 rw[h1] at d1
 cases h2:decide (8<ps.length) with
 |true=>rw[h2] at d2;simp only[↓zP,zJ,seval,g0,Tc,d1,d2];refine Rx ?_;unfold zX;rw[if_neg (by rw[hv];decide),if_pos (.inr (by rw[FF];exact Cp h2))];rfl
 |false=>
 rw[h2] at d2
 have ZY:aDh m0 m1 r0 r1=true->zX name (ps.map (·.2)) m0 m1 r0 r1=1:=fun hb=>by unfold zX;rw[if_neg (by rw[hv];decide),if_neg (by rw[FF];intro h;rcases h with h|h;exact Dn h1 h;exact Dn h2 h),if_pos hb]
 have hB0:aDh m0 m1 r0 r1=false->zX name (ps.map (·.2)) m0 m1 r0 r1=Lc (ps.map (·.2)):=fun hb=>by unfold zX;rw[if_neg (by rw[hv];decide),if_neg (by rw[FF];intro h;rcases h with h|h;exact Dn h1 h;exact Dn h2 h),if_neg (by rw[hb];decide)]
 unfold aDh at ZY hB0;simp only[↓zP,zJ,seval,g0,Tc,d1,d2];refine bR ?_;refine bY fun f hf=>?_;have f1:f 1=.ref 0 0:=by subst hf;simp only[zB,seval]
 clear hf;refine aJ fun K hK=>?_
 cases XO:decide (m0<1) with
 |true=>rw[XO] at ZY;simp only[↓zP,zJ,seval,f1,g0,sP,XO];refine Rx ?_;rw[ZY (by simp)];rfl
 |false=>
 cases je:decide (m1<m0) with
 |true=>rw[je] at ZY;simp only[↓zP,zJ,seval,f1,g0,sP,XO,je];refine Rx ?_;rw[ZY (by simp)];rfl
 |false=>
 cases g3':decide (m1>1099511627776) with
 |true=>rw[g3'] at ZY;simp only[↓zP,zJ,seval,f1,g0,sP,XO,je,g3'];refine Rx ?_;rw[ZY (by simp)];rfl
 |false=>
 cases g4':decide (r0<0) with
 |true=>rw[g4'] at ZY;simp only[↓zP,zJ,seval,f1,g0,sP,XO,je,g3',g4'];refine Rx ?_;rw[ZY (by simp)];rfl
 |false=>
 cases g5':decide (r1<r0) with
 |true=>rw[g5'] at ZY;simp only[↓zP,zJ,seval,f1,g0,sP,XO,je,g3',g4',g5'];refine Rx ?_;rw[ZY (by simp)];rfl
 |false=>
 cases g6':decide (r1>4000) with
 |true=>rw[g6'] at ZY;simp only[↓zP,zJ,seval,f1,g0,sP,XO,je,g3',g4',g5',g6'];refine Rx ?_;rw[ZY (by simp)];rfl
 |false=>
 rw[XO,je,g3',g4',g5',g6'] at hB0;rw[hB0 rfl] at hK ⊢;clear ZY hB0;simp only[↓zP,zJ,seval,f1,g0,sP,XO,je,g3',g4',g5',g6'];apply hK;clear hK K;refine bY fun g hf=>?_;have g1:=Ks hf f1;clear hf f1 f
 have hF:∀i (hi:i<ps.length),(∀j (hj:j<i),lS (ps[j]'(Df hj hi)).2=0)->lS ps[i].2≠0->Lc (ps.map (·.2))=lS ps[i].2:=fun i hi h1 h2=>by have :=YT (ls:=ps.map (·.2)) (i:=i) (by rw[FF];exact hi) (fun j hj=>by rw[Dq];exact h1 j hj) (by rw[Dq];exact h2);rw[this,Dq]
 generalize Zb:[AV.str name,.bB 0 1 (MZ ps),.int .i64 m0,.int .i64 m1,.int .i64 r0,.int .i64 r1]=bc at *;have bg1:bc.getD 1 aC=.bB 0 1 (MZ ps):=by subst Zb;rfl
 have bl:bc.length=6:=by subst Zb;rfl
 refine aJ fun K hK=>?_;refine bQ ?_;refine Tz ?_;refine bR ?_;refine bP [] (fun i _ H'=>H'=HA/\∀j (hj:j<i) (hl:j<ps.length),lS ps[j].2=0) 0 ps.length (Az _) (by omega) (by decide) ?_ ?_ ?_ ?_ ?_
 . exact zq
 . exact⟨rfl,fun j hj=>absurd hj (An _)⟩
 . rintro i f H1 h0 hi hk e1 ⟨rfl,_⟩;have f1:f 1=.ref 0 0:=by rw[hk 1 rfl];simp only[zB,seval];exact g1
   simp only[↓zP,zJ,seval,e1,f1,g0,bl,bg1,Tc];exact Zaf
 . rintro i f H1 h0 hi hk e1 ⟨rfl,hJ⟩;have f1:f 1=.ref 0 0:=by rw[hk 1 rfl];simp only[zB,seval];exact g1
   have hg:(MZ ps).getD i []=[ps[i].1]:=gJ hi;have hp:=Ur _ (Ac hi);have hl:=hlen _ (Ac hi);have hFi:=hF i hi (fun j hj=>hJ j hj (Df hj hi))
   have hJn:lS ps[i].2=0->∀j (hj:j<i+1) (hl:j<ps.length),lS ps[j].2=0:=fun h j hj hl=>by
    by_cases e:j=i
    . subst e;exact h
    exact hJ j (by omega) hl
   generalize ps[i]=p at *;obtain⟨pv,l⟩:=p;simp only at hg hp hl hFi hJn;have hc:=Oj hp hl;simp only at hc;refine aL ?_;refine bQ ?_;simp only[↓zP,zJ,seval,e1,f1,g0,bl,bg1,aB,Tc,hi,hg];refine bZ (hc _) ?_;refine Tz ?_;refine bR ?_;refine aJ fun K2 bW=>?_;by_cases he:vC l=0
   . have hb:(vC l != 0)=false:=(by simp[he]);obtain⟨_,_,_,_,aVe,Qs,bIn⟩:=NH he
     obtain⟨rfl⟩:pv=.bB 0 3 (cJ l):=by
      rcases hp with ⟨_,h⟩|h
      . exact absurd h Qs
      exact h
     have hsh:=ml (tag:=0) rfl hl;simp only[↓zP,zG,seval,hb];apply bW;clear bW K2;simp only[↓zP,zJ,seval,e1,f1,g0,bl,bg1,aB,Tc,hi,hg];refine bZ (hsh _) ?_
     cases hfa:l.any NV with
     |true=>have aVk:lS l=1:=(by unfold lS;rw[if_neg (by simp[he]),hfa];rfl);refine Ty ?_;refine Rx ?_;rw[hFi (by rw[aVk];decide),aVk];rfl
     |false=>have bFl:lS l=0:=(by unfold lS;rw[if_neg (by simp[he]),hfa];rfl);refine Ty ?_;exact⟨trivial,hJn bFl⟩
   have hb:(vC l != 0)=true:=(by simp[he]);have hpc:lS l=vC l:=(by unfold lS;rw[if_pos he]);simp only[↓zP,zG,seval,hb];refine Rx ?_;rw[hFi (by rw[hpc];exact he),hpc];rfl
 rintro f H1 hk ⟨rfl,hJ⟩;have bV:∀j (hl:j<ps.length),lS ps[j].2=0:=fun j hl=>hJ j hl hl
 have hR:=YR (ls:=ps.map (·.2)) (fun l hl=>by
  obtain⟨p,hp,rfl⟩:=Bj.1 hl;obtain⟨j,hj,rfl⟩:=Ei hp
  exact bV j hj)
 have Zq:∀j (hl:j<ps.length),vC ps[j].2=0/\ps[j].1=.bB 0 3 (cJ ps[j].2)/\∀v∈ps[j].2,cH (2^12) v:=fun j hl=>by
  obtain⟨h0,hfv⟩:=aGr (bV j hl);refine⟨h0,?_,fun v hv=>?_⟩
  . rcases Ur _ (Ac hl) with ⟨_,h⟩|h
    . rw[h,NI] at h0;cases h0
    exact h
  have :=hfv v hv;simp only[NV,Da,Bh] at this;unfold cH;omega
 have f1:f 1=.ref 0 0:=by rw[hk 1 rfl];simp only[zB,seval];exact g1
 refine Tx ?_;apply hK;clear hK K;refine aJ fun K hK=>?_;refine bQ ?_;refine Tz ?_;refine bR ?_;refine bP [] (fun i _ H'=>H'=H1/\∀a k (ha:a<i) (hl:a<ps.length) (hk:k<a),vF ps[a].2 (ps[k]'(Df hk hl)).2=true) 0 ps.length (Az _) (by omega) (by decide) ?_ ?_ ?_ ?_ ?_
 . exact zq
 . exact⟨rfl,fun a k ha=>absurd ha (An _)⟩
 . rintro i f2 H2 h0 hi eO e2 ⟨rfl,_⟩;have u1:f2 1=.ref 0 0:=by rw[eO 1 rfl];simp only[zB,seval];exact f1
   simp only[↓zP,zJ,seval,e2,u1,g0,bl,bg1,Tc];exact Zaf
 . rintro i f2 H2 h0 hi eO e2 ⟨rfl,hJ2⟩;have u1:f2 1=.ref 0 0:=by rw[eO 1 rfl];simp only[zB,seval];exact f1
   have hg:(MZ ps).getD i []=[ps[i].1]:=gJ hi;obtain⟨tR,sU,Pn⟩:=Zq i hi
   have hJn:(∀k (hk:k<i),vF ps[i].2 (ps[k]'(Df hk hi)).2=true)->∀a k (ha:a<i+1) (hl:a<ps.length) (hk:k<a),vF ps[a].2 (ps[k]'(Df hk hl)).2=true:=fun h a k ha hl hk=>by
    by_cases e:a=i
    . subst e;exact h k hk
    exact hJ2 a k (by omega) hl hk
   have hov:∀k (hk:k<i),vF ps[i].2 (ps[k]'(Df hk hi)).2=false->Lc (ps.map (·.2))=150:=fun k hk h=>by have :=YC (ls:=ps.map (·.2)) (i:=i) (k:=k) (by rw[FF];exact hi) hk (by rw[Dq,Dq];exact h);rw[hR,this];rfl
   rw[sU] at hg;refine aL ?_;refine bQ ?_;refine Tz ?_;refine bR ?_;refine bP [] (fun k vs H'=>H'=H2/\∀a (ha:a<k) (hl:a<i),vF ps[i].2 (ps[a]'(Df hl hi)).2=true) 0 i (Az _) (by omega) (by decide) ?_ ?_ ?_ ?_ ?_
   . exact zq
   . exact⟨rfl,fun a ha=>absurd ha (An _)⟩
   . rintro k f3 H3 h0 vq oO e3 _;have w5:f3 5=.int .i64 i:=(by rw[oO 5 rfl];simp only[zB,seval];exact e2);simp only[↓zP,zG,seval,e3,w5];exact Zaf
   . rintro k f3 H3 h0 vq oO e3 ⟨rfl,hJ3⟩;have w1:f3 1=.ref 0 0:=(by rw[oO 1 rfl];simp only[zB,seval];exact u1);have w5:f3 5=.int .i64 i:=(by rw[oO 5 rfl];simp only[zB,seval];exact e2);have tQ:=Df vq hi;obtain⟨Qx,CD,MP⟩:=Zq k tQ;have Zi:(MZ ps).getD k []=[ps[k].1]:=gJ tQ;rw[CD] at Zi;have hd:=TG (ta:=0) (tb:=0) rfl rfl Qx tR MP Pn
     have bDw:vF ps[i].2 ps[k].2=true->∀a (ha:a<k+1) (hl:a<i),vF ps[i].2 (ps[a]'(Df hl hi)).2=true:=fun h a ha hl=>by
      by_cases e:a=k
      . subst e;exact h
      exact hJ3 a (by omega) hl
     have bFk:=hov k vq;rw[im] at hd;generalize ps[k]=q at *;generalize bIy:ps[i]=p at *;refine aL ?_;refine bQ ?_;refine Dz ?_;simp only[↓zP,zJ,seval,zD,w1,w5,e3,g0,bl,bg1,aB,Tc,hi,tQ,hg,Zi];refine fH (hd _) ?_;simp only[↓zP,zJ,seval,zD];refine bR ?_
     cases hdb:vF p.2 q.2 with
     |true=>refine Ty ?_;exact⟨trivial,bDw hdb⟩
     |false=>refine Ty ?_;refine Rx ?_;rw[bFk hdb];rfl
   rintro f3 H3 oO ⟨rfl,hJ3⟩;refine Tx ?_;exact⟨trivial,hJn fun k hk=>hJ3 k hk hk⟩
 rintro f2 H2 eO ⟨rfl,hJ2⟩
 have :=VP (ls:=ps.map (·.2)) (fun a k ha hk=>by
  rw[Dq,Dq]
  exact hJ2 a k (by rwa [FF] at ha) (by rwa [FF] at ha) hk)
 refine Tx ?_;apply hK;clear hK K;refine Tz ?_;refine Rx ?_;rw[hR,this];rfl
theorem YI {name:List UInt8} (Qt:name.length<2^63) (m0 m1 r0 r1:Int) (H:aA):
 Sg 87 [.agg (tF name .aR m0 m1 r0 r1)] H (.ret (.int .i64 (zX name [] m0 m1 r0 r1))) H:=by
 refine So bCl (by simp only[sf,tF]) ?_ H;unfold W87;dsimp only;refine bQ ?_;simp only[↓zP,zJ,seval,tF];refine bR ?_;have hvo:=Vj name Qt;have d1:decide ((0:Int)<1)=true:=rfl;refine bQ ?_;refine Ty ?_;refine bZ (hvo _) ?_
 cases hv:yK name with
 |false=>refine Ty ?_;refine Rx ?_;unfold zX;rw[if_pos hv];rfl
 |true=>
 refine Ty ?_;refine bR ?_;refine aJ fun K hK=>?_;simp only[↓zP,zJ,seval,Gm];refine Rx ?_;unfold zX;rw[if_neg (by rw[hv];decide),if_pos (.inl (by decide))];rfl
theorem kv {name:List UInt8} (Qt:name.length<2^63) {pv:AV} {ps:List (AV×List aP.V)} (uR:Mq pv ps) (Ur:∀p∈ps,vY p) (hlen:∀p∈ps,p.2.length<2^30) (mN:ps.length<2^30) (m0 m1 r0 r1:Int) (H:aA):
 Sg 87 [.agg (tF name pv m0 m1 r0 r1)] H (.ret (.int .i64 (zX name (ps.map (·.2)) m0 m1 r0 r1))) H:=by
 rcases uR with ⟨h1,h2⟩|h1
 . rw[h1,h2];exact YI Qt m0 m1 r0 r1 H
 rw[h1];exact YH Qt Ur hlen mN m0 m1 r0 r1 H
end Go.Proofs.YtgggiembljfnhaaGreatDoor
namespace Go.Proofs.YtgggiembljfnhaaGreatDoor
open Go Go.Av
attribute [local congr] aT aI aM aH aW aQ aN aF aX
attribute [local irreducible] FC bS eG
theorem Th.free {t:Th} (h:t.OK):bO t.cs=true:=by simp only[Th.cs,tF,gY,sf,jF,h.parts.free h.part]
theorem my {t:Th} (rO:t.OK) (hfw:t.Few) (H:aA):Sg 41 [.agg t.cs] H (.ret (.int .i64 (WT t))) H:=by
 refine So bGy (by simp only[bO,AV.free,Th.free rO];rfl) ?_ H;unfold W41;dsimp only;have Ph:=Th.len rO;have k0:t.cs.getD 0 aC=.int .i64 t.kind:=rfl;have k2:t.cs.getD 2 aC=t.pv:=rfl;have k6:(t.cs.drop 1).take 6=tF t.name t.pv t.m0 t.m1 t.r0 t.r1:=rfl
 have k7:(t.cs.drop 7).take 7=iC t.store:=by have :t.cs.drop 7=iC t.store:=rfl;rw[this,As (by rw[cC,rO.store];decide)]
 have hp:=Km rO.store;have xf:((decide (t.kind=1)||decide (t.kind=2))=false\/gW t.store≠0)->WT t=1:=fun h=>by unfold WT;rw[if_pos h]
 refine bQ ?_;refine Ty ?_;refine bR ?_;generalize hX:(aA.mk 0 .nil).alloc _=HA;have g0:HA.get 0=some (.cells t.cs false):=by subst hX;simp only[zI,seval]
 clear hX;refine bY fun f dQ=>?_;have f1:f 1=.ref 0 0:=by subst dQ;simp only[zB,seval]
 clear dQ;refine aJ fun K2 bW=>?_;by_cases hkd:t.kind=1\/t.kind=2;rotate_left
 . have d1:(t.kind != 1)=true:=by rw[De];omega
   have d2:(t.kind != 2)=true:=(by rw[De];omega);simp only[↓zP,zJ,seval,f1,g0,Ph,k0,d1,d2];refine Rx ?_;rw[xf (.inl Zai)];rfl
 have key:∀f:dE,f 1=.ref 0 0->gW t.store=0->K2 f [] HA:=by
  intro f f1 xd;apply bW;clear bW K2;have hck:=kv rO.name rO.parts rO.part hfw.2 hfw.1 t.m0 t.m1 t.r0 t.r1;have XT:(tF t.name t.pv t.m0 t.m1 t.r0 t.r1).length=6:=rfl
  have bFh:¬((decide (t.kind=1)||decide (t.kind=2))=false\/gW t.store≠0):=by
   rintro(h|h)
   . simp at h;omega
   exact h xd
  have u9:WT t=if zX t.name (t.ps.map (·.2)) t.m0 t.m1 t.r0 t.r1≠0 then zX t.name (t.ps.map (·.2)) t.m0 t.m1 t.r0 t.r1 else if t.ps.all (fun p=>inP p.2) then 0 else 1:=by unfold WT;rw[if_neg bFh]
  generalize zX t.name (t.ps.map (·.2)) t.m0 t.m1 t.r0 t.r1=cb at *;refine bQ ?_;simp only[↓zP,zJ,seval,f1,g0,Ph,k6];refine bZ (hck _) ?_;refine Tz ?_;refine fD ?_;by_cases hcb:cb=0;rotate_left
  . have d3:(cb != 0)=true:=by rw[De];exact hcb
    simp only[↓zP,zG,seval,d3];refine Rx ?_;rw[u9,if_pos hcb];rfl
  have d3:(cb != 0)=false:=by rw[hcb];rfl
  rw[if_neg (fun h=>h hcb)] at u9;simp only[↓zP,zG,seval,d3];refine bR ?_
  have hpr:fI t.pv 1 (MZ t.ps):=by
   rcases rO.parts with ⟨h1,h2⟩|h
   . exact .inl ⟨h1,by rw[h2];rfl⟩
   exact .inr h
  have lpv:=hpr.len;simp only[dA] at lpv;have Tc:(MZ t.ps).length=t.ps.length:=Af _;rw[Tc] at lpv;have bIo:=hfw.1;refine aJ fun K2 bW=>?_;refine Tz ?_;refine bP [] (fun i vs H'=>H'=HA/\∀p∈t.ps.take i,inP p.2=true) 0 t.ps.length (Az _) (by omega) (by decide) ?_ ?_ ?_ ?_ ?_
  . exact zq
  . exact⟨rfl,fun p hp=>by simp at hp⟩
  . rintro i f3 H1 h0 hi hk e1 ⟨rfl,_⟩;have u1:f3 1=.ref 0 0:=by rw[hk 1 rfl];simp only[zB,seval];exact f1
    simp only[↓zP,zJ,seval,e1,u1,g0,Ph,k2,lpv];exact Zaf
  . rintro i f3 H1 h0 hi hk e1 ⟨rfl,bV⟩;have u1:f3 1=.ref 0 0:=by rw[hk 1 rfl];simp only[zB,seval];exact f1
    have k2':t.pv=.bB 0 1 (MZ t.ps):=hpr.bB (i:=i) (by rw[Tc];exact hi);have hgj:(MZ t.ps).getD i []=[t.ps[i].1]:=(by simp[MZ,hi]);have SU:=rO.part _ (Ac hi);have hlj:=hfw.2 _ (Ac hi)
    have fQ:inP t.ps[i].2=true->∀p∈t.ps.take (i+1),inP p.2=true:=fun h p hp=>by
     rw[Ao,Ap] at hp
     rcases hp with hp|hp
     . exact bV p hp
     simp[hi] at hp;subst hp;exact h
    have eW:inP t.ps[i].2=false->WT t=1:=fun h=>by rw[u9,if_neg];rw[Ax];intro hh;rw[hh _ (Ac hi)] at h;cases h
    generalize t.ps[i]=q at *;refine aL ?_;refine Tz ?_
    have lq:∀H:aA,dA (fun _=>q.1) H (.OD (.tmp 0))=some (.int .i64 q.2.length,H):=fun H=>by
     rcases SU with ⟨h1,h2⟩|h1
     . rw[h1,h2];rfl
     rw[h1];simp[dA,aU]
    simp only[dA] at lq;refine bP [] (fun j vs H'=>H'=H1/\∀w∈(q.2.map vL).take j,zA 4096 w=true) 0 q.2.length (Az _) (by omega) (by decide) ?_ ?_ ?_ ?_ ?_
    . exact zq
    . exact⟨rfl,fun p hp=>by simp at hp⟩
    . rintro j f4 H2 Ni hj eO e2 ⟨rfl,_⟩;have v1:f4 1=.ref 0 0:=(by rw[eO 1 rfl];simp only[zB,seval];exact u1);have v4:f4 4=.int .i64 i:=(by rw[eO 4 rfl];simp only[zB,seval];exact e1);simp only[↓zP,zJ,seval,e2,v1,v4,g0,Ph,k2,k2',aB,Tc,hi,hgj,lq];exact Zaf
    . rintro j f4 H2 Ni hj eO e2 ⟨rfl,qX⟩;have v1:f4 1=.ref 0 0:=(by rw[eO 1 rfl];simp only[zB,seval];exact u1);have v4:f4 4=.int .i64 i:=by rw[eO 4 rfl];simp only[zB,seval];exact e1
      have hq:q.1=.bB 0 3 (cJ q.2):=by
       rcases SU with ⟨h1,h2⟩|h1
       . rw[h2] at hj;exact absurd hj (An _)
       exact h1
      have hgv:=dC hj;have hwv:=lX (m:=4096) (by decide) (w:=vL q.2[j]) rfl;have yZ:j<(q.2.map vL).length:=(by rw[Af];exact hj);have hme:(q.2.map vL)[j]=vL q.2[j]:=Dq _
      have j6:zA 4096 (vL q.2[j])=true->∀w∈(q.2.map vL).take (j+1),zA 4096 w=true:=fun h p hp=>by
       rw[Ao,Ap] at hp
       rcases hp with hp|hp
       . exact qX p hp
       rw[Ad yZ,hme] at hp;simp only[Fu,Cb] at hp;subst hp;exact h
      have Xd:zA 4096 (vL q.2[j])=false->WT t=1:=fun h=>eW (by
       unfold inP;rw[Ej]
       exact⟨_,Ac yZ,by rw[hme,h];decide⟩)
      have hiv:cT q.2[j]=iC (vL q.2[j]):=rfl;rw[hiv] at hgv;have h3:(iC (vL q.2[j])).length=3:=rfl;generalize vL q.2[j]=w at *;refine aL ?_;simp only[↓zP,zJ,seval,e2,v1,v4,g0,Ph,k2,k2',aB,Tc,hi,hgj,hq,aU,hj,hgv,oL h3];refine bZ (hwv _) ?_
      cases hb:zA 4096 w with
      |true=>refine Ty ?_;exact⟨trivial,j6 hb⟩
      |false=>refine Ty ?_;refine Rx ?_;rw[Xd hb];rfl
    rintro f4 H2 eO ⟨rfl,qX⟩;refine Tx ?_;refine⟨trivial,fQ ?_⟩;unfold inP;rw[Ax];exact fun w hw=>qX w (by rw[As (by rw[Af];omega)];exact hw)
  rintro f3 H1 hk ⟨rfl,bV⟩;rw[Ay] at bV;rw[if_pos (Ax.2 bV)] at u9;refine Tx ?_;apply bW;clear bW K2;refine Tz ?_;refine Rx ?_;rw[u9];rfl
 have vw:(t.kind=1/\(t.kind != 1)=false/\True)\/((t.kind != 1)=true/\(t.kind != 2)=false/\True):=by
  rcases hkd with h|h
  . exact .inl ⟨h,by rw[h];rfl,trivial⟩
  exact .inr ⟨by rw[h];rfl,by rw[h];rfl,trivial⟩
 rcases vw with ⟨_,d1,d2⟩|⟨d1,d2,_⟩<;>
 . simp only[↓zP,zJ,seval,f1,g0,Ph,k0,d1,d2];simp only[seval,k7];refine bZ (hp _) ?_;by_cases xd:gW t.store=0
   . have d3:(gW t.store != 0)=false:=(by rw[xd];rfl);simp only[↓zP,zG,seval,d3];exact key _ (by simp only[zB,seval];exact f1) xd
   have d3:(gW t.store != 0)=true:=(by rw[De];exact xd);simp only[↓zP,zG,seval,d3];refine Rx ?_;rw[xf (.inr xd)];rfl
theorem Ye {g r0 r1:Int} {ts:List Th} {rs ps:List (List Int)} {tv rv pv:AV} (mR:fI tv 14 (nG ts)) (lR:fI rv 8 (bD rs)) (uR:fI pv 10 (bD ps)) (ht:∀t∈ts,t.OK)
 (hf:ts.length<=64->∀t∈ts,t.Few) (hr:∀r∈rs,r.length=8) (hp:∀p∈ps,p.length=10) (H:aA):
 Sg 13 [.agg (yC g r0 r1 tv rv pv)] H (.ret (.int .i64 (vE g r0 r1 ts rs ps))) H:=by
 refine So bGi (by simp only[yC,sf,mR.free (fX ht),lR.free (bF _),uR.free (bF _)]) ?_ H;unfold W13;dsimp only;have lt:=mR.len;have lr:=lR.len;have lp:=uR.len;simp only[dA] at lt lr lp;rw[dL] at lt;rw[aO] at lr lp;refine bQ ?_;simp only[↓zP,zJ,seval,yC];refine fD ?_;simp only[↓zP,zJ,seval,lt];refine fD ?_;have hY1:LU ts.length rs.length ps.length=true->vE g r0 r1 ts rs ps=2:=fun h=>by unfold vE;rw[if_pos h]
 have hY2:LU ts.length rs.length ps.length=false->aDi g r0 r1=true->vE g r0 r1 ts rs ps=1:=fun h h2=>by unfold vE;rw[if_neg (by rw[h];decide),if_pos h2]
 have Za:LU ts.length rs.length ps.length=false->aDi g r0 r1=false->vE g r0 r1 ts rs ps=if MB [] ts≠0 then MB [] ts
  else if rs.any (PU ts.length) then 1 else if ps.any (PT ts.length) then 1 else 0:=fun h h2=>by unfold vE;rw[if_neg (by rw[h];decide),if_neg (by rw[h2];decide)]
 have aRy:LU ts.length rs.length ps.length=false->ts.length<=64/\rs.length<=16/\ps.length<=16:=fun h=>by simp only[LU,Da,Bh] at h;omega
 unfold LU at hY1 hY2 Za aRy;unfold aDi at hY2 Za;generalize eC:decide ((ts.length:Int)>64)=b1 at *;generalize fV:decide ((rs.length:Int)>16)=b2 at *;generalize CA:decide ((ps.length:Int)>16)=b3 at *;cases b1<;>cases b2<;>cases b3;rotate_left
 iterate 7 (simp only[↓zP,zJ,seval,lr,lp,eC,fV,CA];refine Rx ?_;rw[hY1 rfl];rfl)
 obtain⟨n64,m64,p64⟩:=aRy rfl;have hY2:=hY2 rfl;have Za:=Za rfl;have hf:=hf n64;clear hY1 aRy;simp only[↓zP,zJ,seval,lr,lp,eC,fV,CA];refine fD ?_;generalize GD:decide (g<0)=b4 at *;generalize PL:decide (g>1048576)=b5 at *;generalize XT:decide (r0<0)=b6 at *;generalize hb7:decide (r0>r1)=b7 at *;generalize hb8:decide (r1>4000)=b8 at *;cases b4;rotate_left
 . simp only[↓zP,zJ,seval,GD];refine Rx ?_;rw[hY2 rfl];rfl
 cases b5;rotate_left
 . simp only[↓zP,zJ,seval,GD,PL];refine Rx ?_;rw[hY2 rfl];rfl
 cases b6;rotate_left
 . simp only[↓zP,zJ,seval,sP,GD,PL,XT];refine Rx ?_;rw[hY2 rfl];rfl
 cases b7;rotate_left
 . simp only[↓zP,zJ,seval,sP,GD,PL,XT,hb7];refine Rx ?_;rw[hY2 rfl];rfl
 cases b8;rotate_left
 . simp only[↓zP,zJ,seval,sP,GD,PL,XT,hb7,hb8];refine Rx ?_;rw[hY2 rfl];rfl
 have Za:=Za rfl;clear hY2;simp only[↓zP,zJ,seval,sP,GD,PL,XT,hb7,hb8];refine bR ?_;clear eC fV CA GD PL XT hb7 hb8;generalize hX:(aA.mk 0 .nil).alloc _=HA;have g0:HA.get 0=some (.cells [.int .i64 g,.int .i64 r0,.int .i64 r1,tv,rv,pv] false):=by subst hX;simp only[zI,seval]
 have gn:1<=HA.next:=by subst hX;simp only[zI,seval]
 clear hX;refine bY fun f dQ=>?_;have f1:f 1=.ref 0 0:=by subst dQ;simp only[zB,seval]
 have f3:f 3=.int .i64 ts.length:=by subst dQ;simp only[zB,seval]
 clear dQ;refine aJ fun K hK=>?_;refine Tz ?_;refine bP [] (fun i vs H'=>H'=HA/\MB [] ts=MB ((ts.take i).map (·.name)) (ts.drop i)) 0 ts.length (Az _) (by omega) (by decide) ?_ ?_ ?_ ?_ ?_
 . exact zq
 . exact⟨rfl,rfl⟩
 . rintro i f' H1 h0 hi hk e1 ⟨rfl,_⟩;have u3:f' 3=.int .i64 ts.length:=by rw[hk 3 rfl];simp only[zB,seval];exact f3
   simp only[↓zP,zG,seval,e1,u3];exact Zaf
 . rintro i f' H1 h0 hi hk e1 ⟨rfl,pg⟩;have u1:f' 1=.ref 0 0:=by rw[hk 1 rfl];simp only[zB,seval];exact f1
   have sJ:tv=.bB 0 14 (nG ts):=mR.bB (i:=i) (by rw[dL];exact hi);have rO:=ht _ (Ac hi);have hfw:=hf _ (Ac hi);have hrt:=my rO hfw;rw[nt hi] at pg;have rQ:(ts.take (i+1)).map (·.name)=(ts.take i).map (·.name)++[ts[i].name]:=(by rw[Ao,Ad hi,Cx];rfl);have hg:=oS hi;rw[rQ];have Ph:=Th.len rO;have k1:ts[i].cs.getD 1 aC=.str ts[i].name:=rfl;have gR:∀(j:Nat) (hj:j<i),ts[j].name=ts[i].name->ts[i].name∈(ts.take i).map (·.name):=fun j hj h=>Bj.2 ⟨ts[j],Hi.2 ⟨j,by omega,rfl⟩,h⟩
   have qC:(∀(j:Nat) (hj:j<i),ts[j].name≠ts[i].name)->ts[i].name∉(ts.take i).map (·.name):=fun h hm=>by obtain⟨x,hx,he⟩:=Bj.1 hm;obtain⟨j,hj,rfl⟩:=Hi.1 hx;exact h j (by omega) he
   generalize hti:ts[i]=t at *;generalize (ts.take i).map (·.name)=seen at *
   have Pg:∀{x:Int},WT t=x->x≠0->vE g r0 r1 ts rs ps=x:=fun h h0=>by rw[h,if_pos h0] at pg;rw[Za,pg,if_pos h0]
   refine aL ?_;refine bQ ?_;simp only[↓zP,zJ,seval,e1,u1,g0,sJ,aB,dL,hi,hg,oL Ph];refine bZ (hrt _) ?_;refine Tz ?_;refine fD ?_;by_cases hcb:WT t=0;rotate_left
   . have d3:(WT t != 0)=true:=(by rw[De];exact hcb);simp only[↓zP,zG,seval,d3];refine Rx ?_;rw[Pg rfl hcb];rfl
   have d3:(WT t != 0)=false:=(by rw[hcb];rfl);rw[if_neg (fun h=>h hcb)] at pg;simp only[↓zP,zG,seval,d3];refine bR ?_;refine Tz ?_;refine bP [] (fun j vs H'=>H'=H1/\∀(k:Nat) (hk:k<j) (hl:k<ts.length),ts[k].name≠t.name) 0 i (Az _) (by omega) (by decide) ?_ ?_ ?_ ?_ ?_
   . exact zq
   . exact⟨rfl,fun k hk=>absurd hk (An _)⟩
   . rintro j f2 H2 Ni hj eO e2 ⟨rfl,_⟩;have v4:f2 4=.int .i64 i:=(by rw[eO 4 rfl];simp only[zB,seval];exact e1);simp only[↓zP,zG,seval,e2,v4];exact Zaf
   . rintro j f2 H2 Ni hj eO e2 ⟨rfl,bV⟩;have v1:f2 1=.ref 0 0:=(by rw[eO 1 rfl];simp only[zB,seval];exact u1);have v4:f2 4=.int .i64 i:=(by rw[eO 4 rfl];simp only[zB,seval];exact e1);have MN:j<ts.length:=(by omega);have hgj:=oS MN;have k1j:ts[j].cs.drop 1=.str ts[j].name::(ts[j].cs.drop 2):=rfl;have k1i:t.cs.drop 1=.str t.name::(t.cs.drop 2):=rfl;have bEr:=gR j hj
     have fQ:ts[j].name≠t.name->∀(k:Nat) (hk:k<j+1) (hl:k<ts.length),ts[k].name≠t.name:=fun h k hk hl=>by
      by_cases e:k=j
      . subst e;exact h
      exact bV k (by omega) hl
     generalize ts[j]=u at *;refine aL ?_;refine bQ ?_;refine Dz ?_;simp only[↓zP,zJ,seval,zD,e2,v1,v4,g0,sJ,aB,dL,hi,MN,hg,hgj,k1j,k1i,show si .eql u.name t.name=some (.bool (u.name==t.name)) from rfl];refine bR ?_;by_cases GG:u.name=t.name
     . have d4:(u.name==t.name)=true:=(by rw[Ca];exact GG);simp only[↓zP,zG,seval,d4];refine Rx ?_;rw[if_pos (bEr GG)] at pg;rw[Za,pg];rfl
     have d4:(u.name==t.name)=false:=(by rw[Bl];exact GG);simp only[↓zP,zG,seval,d4];exact⟨trivial,fQ GG⟩
   rintro f2 H2 eO ⟨rfl,bV⟩;rw[if_neg (qC fun j hj=>bV j hj (by omega))] at pg;refine Tx ?_;exact⟨trivial,pg⟩
 rintro f' H1 hk ⟨rfl,pg⟩;rw[Hh] at pg;have bFy:MB [] ts=0:=pg;rw[if_neg (fun h=>h bFy)] at Za;have f'1:f' 1=.ref 0 0:=by rw[hk 1 rfl];simp only[zB,seval];exact f1
 have f'3:f' 3=.int .i64 ts.length:=by rw[hk 3 rfl];simp only[zB,seval];exact f3
 refine Tx ?_;apply hK;clear hK K;clear hk pg;have Xc:(0:Int)<=ts.length:=by omega
 generalize (ts.length:Int)=n at *;refine aJ fun K hK=>?_;refine Tz ?_;refine bP [] (fun i vs H'=>H'.get 0=some (.cells [.int .i64 g,.int .i64 r0,.int .i64 r1,tv,rv,pv] false)/\1<=H'.next/\∀r∈rs.take i,PU n r=false) 0 rs.length (Az _) (by omega) (by decide) ?_ ?_ ?_ ?_ ?_
 . exact zq
 . exact⟨g0,gn,fun p hp=>by simp at hp⟩
 . rintro i f2 H2 h0 hi hk e1 ⟨m0,_⟩;have u1:f2 1=.ref 0 0:=by rw[hk 1 rfl];simp only[zB,seval];exact f'1
   simp only[↓zP,zJ,seval,e1,u1,m0,lr];exact Zaf
 . rintro i f2 H2 h0 hi hk e1 ⟨m0,mn,bV⟩;have u1:f2 1=.ref 0 0:=by rw[hk 1 rfl];simp only[zB,seval];exact f'1
   have u3:f2 3=.int .i64 n:=(by rw[hk 3 rfl];simp only[zB,seval];exact f'3);have FJ:rv=.bB 0 8 (bD rs):=lR.bB (i:=i) Zaz;have hg:=cD hi;have h8:=hr _ (Ac hi)
   have fQ:PU n rs[i]=false->∀p∈rs.take (i+1),PU n p=false:=fun h p hp=>by
    rw[Ao,Ap] at hp
    rcases hp with hp|hp
    . exact bV p hp
    simp[hi] at hp;subst hp;exact h
   have eW:PU n rs[i]=true->vE g r0 r1 ts rs ps=1:=fun h=>by rw[Za,if_pos (Bw.2 ⟨_,Ac hi,h⟩)]
   generalize rs[i]=r at *;have pM:(iC r).length=8:=(by rw[cC,h8]);refine aL ?_;refine bQ ?_;simp only[↓zP,zJ,seval,e1,u1,m0,FJ,aB,aO,hi,hg,oL pM];refine bR ?_;generalize hX:(H2.alloc _).set H2.next _=H3;have w0:H3.get 0=some (.cells [.int .i64 g,.int .i64 r0,.int .i64 r1,tv,rv,pv] false):=(by subst hX;rw[aA.aD,if_neg (by omega),aA.aG,if_neg (by omega)];exact m0);have Pz:H3.get H2.next=some (.cells (iC r) false):=Zal;have wn:1<=H3.next:=Zay;clear hX;generalize H2.next=r11 at *;have a0:=dV (l:=r) (i:=0) (by omega);have a1:=dV (l:=r) (i:=1) (by omega);have a2:((iC r).drop 2).take 3=iC ((r.drop 2).take 3):=(by rw[tS,uS]);have a5:((iC r).drop 5).take 3=iC ((r.drop 5).take 3):=(by rw[tS,uS]);have w2:=lX (m:=tZ (r.getD 0 0)) (by unfold tZ;split<;>decide) (w:=(r.drop 2).take 3) Zai;have w5:=lX (m:=tZ (r.getD 1 0)) (by unfold tZ;split<;>decide) (w:=(r.drop 5).take 3) Zai;have c2:=RW (n:=r.getD 0 0);have c5:=RW (n:=r.getD 1 0);have l3a:(iC ((r.drop 2).take 3)).length=3:=(by rw[cC];simp;omega);have l3b:(iC ((r.drop 5).take 3)).length=3:=(by rw[cC];simp;omega);unfold PU at fQ eW;generalize (r.drop 2).take 3=wa at *;generalize (r.drop 5).take 3=wb at *;generalize r.getD 0 0=x at *;generalize r.getD 1 0=y at *;generalize eC:decide (x<0)=b1 at *;generalize fV:decide (x>n)=b2 at *;generalize CA:decide (y<0)=b3 at *;generalize GD:decide (y>n)=b4 at *;generalize PL:(x==y)=b5 at *;generalize XT:zA (tZ x) wa=b6 at *;generalize hb7:zA (tZ y) wb=b7 at *;refine aJ fun K2 bW=>?_;refine Dz ?_;cases b1;rotate_left
   . simp only[↓zP,zJ,seval,zD,Pz,pM,a0,eC];exact Zab
   cases b2;rotate_left
   . simp only[↓zP,zJ,seval,zD,u3,Pz,pM,a0,eC,fV];exact Zab
   cases b3;rotate_left
   . simp only[↓zP,zJ,seval,zD,u3,Pz,pM,a0,a1,eC,fV,CA];exact Zab
   cases b4;rotate_left
   . simp only[↓zP,zJ,seval,zD,u3,Pz,pM,a0,a1,eC,fV,CA,GD];exact Zab
   cases b5;rotate_left
   . simp only[↓zP,zJ,seval,zD,u3,Pz,pM,a0,a1,eC,fV,CA,GD,PL];exact Zab
   have c2:=c2 (by have :=Dn eC;omega);have c5:=c5 (by have :=Dn CA;omega);cases b6
   . simp only[↓zP,zJ,seval,zD,u3,Pz,pM,a0,a1,eC,fV,CA,GD,PL];refine fH (c2 _) ?_;simp only[↓zP,zJ,seval,zD,Pz,pM,a2];refine fH (w2 _) ?_;simp only[↓zP,zJ,seval,zD];exact Zab
   cases b7
   . simp only[↓zP,zJ,seval,zD,u3,Pz,pM,a0,a1,eC,fV,CA,GD,PL];refine fH (c2 _) ?_;simp only[↓zP,zJ,seval,zD,Pz,pM,a2];refine fH (w2 _) ?_;simp only[↓zP,zJ,seval,zD,Pz,pM,a1];refine fH (c5 _) ?_;simp only[↓zP,zJ,seval,zD,Pz,pM,a5];refine fH (w5 _) ?_;simp only[↓zP,zJ,seval,zD];exact Zab
   simp only[↓zP,zJ,seval,zD,u3,Pz,pM,a0,a1,eC,fV,CA,GD,PL];refine fH (c2 _) ?_;simp only[↓zP,zJ,seval,zD,Pz,pM,a2];refine fH (w2 _) ?_;simp only[↓zP,zJ,seval,zD,Pz,pM,a1];refine fH (c5 _) ?_;simp only[↓zP,zJ,seval,zD,Pz,pM,a5];refine fH (w5 _) ?_;simp only[↓zP,zJ,seval,zD];apply bW;clear bW K2;refine Tz ?_;exact⟨by first|exact w0|(rw[FJ] at w0;exact w0),wn,fQ rfl⟩
 rintro f2 H2 hk ⟨m0,mn,bV⟩;rw[Ay] at bV
 rw[if_neg (by
  rw[Bw];rintro⟨r,hr,h⟩;rw[bV r hr] at h
  cases h)] at Za
 have u1:f2 1=.ref 0 0:=by rw[hk 1 rfl];simp only[zB,seval];exact f'1
 have u3:f2 3=.int .i64 n:=by rw[hk 3 rfl];simp only[zB,seval];exact f'3
 refine Tx ?_;apply hK;clear hK K;clear hk bV;refine aJ fun K hK=>?_;refine Tz ?_;refine bP [] (fun i vs H'=>H'.get 0=some (.cells [.int .i64 g,.int .i64 r0,.int .i64 r1,tv,rv,pv] false)/\1<=H'.next/\∀r∈ps.take i,PT n r=false) 0 ps.length (Az _) (by omega) (by decide) ?_ ?_ ?_ ?_ ?_
 . exact zq
 . exact⟨m0,mn,fun p hp=>by simp at hp⟩
 . rintro i f2 H2 h0 hi hk e1 ⟨m0,_⟩;have u1:f2 1=.ref 0 0:=by rw[hk 1 rfl];simp only[zB,seval];exact u1
   simp only[↓zP,zJ,seval,e1,u1,m0,lp];exact Zaf
 . rintro i f2 H2 h0 hi hk e1 ⟨m0,mn,bV⟩;have u1:f2 1=.ref 0 0:=by rw[hk 1 rfl];simp only[zB,seval];exact u1
   have u3:f2 3=.int .i64 n:=(by rw[hk 3 rfl];simp only[zB,seval];exact u3);have mN:pv=.bB 0 10 (bD ps):=uR.bB (i:=i) Zaz;have hg:=cD hi;have h8:=hp _ (Ac hi)
   have fQ:PT n ps[i]=false->∀p∈ps.take (i+1),PT n p=false:=fun h p hp=>by
    rw[Ao,Ap] at hp
    rcases hp with hp|hp
    . exact bV p hp
    simp[hi] at hp;subst hp;exact h
   have eW:PT n ps[i]=true->vE g r0 r1 ts rs ps=1:=fun h=>by rw[Za,if_pos (Bw.2 ⟨_,Ac hi,h⟩)]
   generalize ps[i]=r at *;have pM:(iC r).length=10:=(by rw[cC,h8]);refine aL ?_;refine bQ ?_;simp only[↓zP,zJ,seval,e1,u1,m0,mN,aB,aO,hi,hg,oL pM];refine bR ?_;generalize hX:(H2.alloc _).set H2.next _=H3;have w0:H3.get 0=some (.cells [.int .i64 g,.int .i64 r0,.int .i64 r1,tv,rv,pv] false):=(by subst hX;rw[aA.aD,if_neg (by omega),aA.aG,if_neg (by omega)];exact m0);have Pz:H3.get H2.next=some (.cells (iC r) false):=Zal;have wn:1<=H3.next:=Zay;clear hX;generalize H2.next=r11 at *;have a0:=dV (l:=r) (i:=0) (by omega);have a2:((iC r).drop 1).take 3=iC ((r.drop 1).take 3):=(by rw[tS,uS]);have a4:((iC r).drop 4).take 3=iC ((r.drop 4).take 3):=(by rw[tS,uS]);have a7:((iC r).drop 7).take 3=iC ((r.drop 7).take 3):=(by rw[tS,uS]);have w2:=lX (m:=4096) (by decide) (w:=(r.drop 1).take 3) Zai;have w4:=lX (m:=1099511627776) (by decide) (w:=(r.drop 4).take 3) Zai;have w7:=lX (m:=1099511627776) (by decide) (w:=(r.drop 7).take 3) Zai;have l3a:(iC ((r.drop 1).take 3)).length=3:=(by rw[cC];simp;omega);have l3b:(iC ((r.drop 4).take 3)).length=3:=(by rw[cC];simp;omega);have l3c:(iC ((r.drop 7).take 3)).length=3:=(by rw[cC];simp;omega);unfold PT at fQ eW;generalize (r.drop 1).take 3=wa at *;generalize (r.drop 4).take 3=wb at *;generalize (r.drop 7).take 3=wc at *;generalize r.getD 0 0=x at *;generalize eC:decide (x<1)=b1 at *;generalize fV:decide (x>n)=b2 at *;generalize CA:zA 4096 wa=b3 at *;generalize GD:zA 1099511627776 wb=b4 at *;generalize PL:zA 1099511627776 wc=b5 at *;refine aJ fun K2 bW=>?_;cases b1;rotate_left
   . simp only[↓zP,zJ,seval,Pz,pM,a0,eC];exact Zab
   cases b2;rotate_left
   . simp only[↓zP,zJ,seval,u3,Pz,pM,a0,eC,fV];exact Zab
   simp only[↓zP,zJ,seval,u3,Pz,pM,a0,a2,eC,fV];refine bZ (w2 _) ?_;cases b3
   . refine Ty ?_;exact Zab
   simp only[↓zP,zJ,seval,sP,Pz,pM,a4];refine bZ (w4 _) ?_;cases b4
   . refine Ty ?_;exact Zab
   simp only[↓zP,zJ,seval,sP,Pz,pM,a7];refine bZ (w7 _) ?_;cases b5
   . refine Ty ?_;exact Zab
   refine Ty ?_;apply bW;clear bW K2;refine Tz ?_;exact⟨by first|exact w0|(rw[mN] at w0;exact w0),wn,fQ rfl⟩
 rintro f2 H2 hk ⟨m0,mn,bV⟩;rw[Ay] at bV
 rw[if_neg (by
  rw[Bw];rintro⟨r,hr,h⟩;rw[bV r hr] at h
  cases h)] at Za
 refine Tx ?_;apply hK;clear hK K;refine Tz ?_;refine Rx ?_;rw[Za];rfl
theorem mz {g r0 r1:Int} {ts:List Th} {rs us:List (List Int)} {tv rv uv:AV} {s:Sc} (mR:fI tv 14 (nG ts)) (lR:fI rv 8 (bD rs)) (mS:fI uv 10 (bD us)) (ht:∀t∈ts,t.OK) (hr:∀r∈rs,r.length=8) (hu:∀p∈us,p.length=10) (hs:s.OK1) (H:aA):
 Sg 6 [.agg (yC g r0 r1 tv rv uv),.agg s.cs] H (.ret (.bool (BN g r0 r1 ts rs us s))) H:=by
 refine So is6 (by simp only[yC,bO,AV.free,Sc.Uc hs,mR.free (fX ht),lR.free (bF _),mS.free (bF _)];rfl) ?_ H;unfold W6;dsimp only;have lr:=lR.len;have lu:=mS.len;simp only[dA] at lr lu;rw[aO] at lr lu;have ls:s.cs.length=6:=rfl;have l6:(yC g r0 r1 tv rv uv).length=6:=rfl;have y4:(yC g r0 r1 tv rv uv).getD 4 aC=rv:=rfl;have y5:(yC g r0 r1 tv rv uv).getD 5 aC=uv:=rfl;have s4:s.cs.getD 4 aC=s.tv:=rfl;have s5:s.cs.getD 5 aC=s.av:=rfl;have S1:=aRe (g:=g) (r0:=r0) (r1:=r1) mR lR mS ht;have S2:=fun hf=>Ye (g:=g) (r0:=r0) (r1:=r1) mR lR mS ht hf hr hu;have S3:=fun hl=>aAh (g:=g) (r0:=r0) (r1:=r1) mR lR mS ht hs hl;have hW:BN g r0 r1 ts rs us s=(NX ts rs.length us.length&&(vE g r0 r1 ts rs us==0&&(lC ts rs.length us.length s&&(!(List.range rs.length).any (IZ s rs)&& !(List.range us.length).any (IV s us))))):=rfl;refine bQ ?_;refine Ty ?_;refine bR ?_;generalize hX:((aA.mk 0 .nil).alloc _).alloc _=HA;have g0:HA.get 0=some (.cells (yC g r0 r1 tv rv uv) false):=by subst hX;simp only[zI,seval]
 have g1:HA.get 1=some (.cells s.cs false):=by subst hX;simp only[zI,seval]
 clear hX;refine bY fun f dQ=>?_;have f2:f 2=.ref 0 0:=by subst dQ;simp only[zB,seval]
 have f3:f 3=.ref 1 0:=by subst dQ;simp only[zB,seval]
 clear dQ;refine bQ ?_;simp only[↓zP,zJ,seval,f2,g0,oL l6];refine bZ (S1 _) ?_;refine Tz ?_;refine bR ?_;refine bY fun f' dQ=>?_;have w2:=Ks dQ f2;have w3:=Ks dQ f3;have w5:f' 5=.bool (NX ts rs.length us.length):=by subst dQ;simp only[zB,seval]
 clear dQ f2 f3 f;refine aJ fun K hK=>?_;cases hfw:NX ts rs.length us.length
 . rw[hfw] at w5 hW;simp only[↓zP,zJ,seval,w5];refine Rx ?_;rw[hW];rfl
 rw[hfw] at w5 hW;obtain⟨mM,EZ,hf3,hf4⟩:=uc hfw;have S2:=S2 fun _=>hf4;have S3:=S3 (by omega);by_cases hc:vE g r0 r1 ts rs us=0;rotate_left
 . have hb:(vE g r0 r1 ts rs us != 0)=true:=De.2 hc;have CV:(vE g r0 r1 ts rs us==0)=false:=Bl.2 hc;rw[CV] at hW;simp only[↓zP,zJ,seval,w2,w5,g0,oL l6];refine bZ (S2 _) ?_;simp only[↓zP,zG,seval,hb];refine Rx ?_;rw[hW];rfl
 have hb:(vE g r0 r1 ts rs us != 0)=false:=bne_eq_false_iff_eq.2 hc;have CV:(vE g r0 r1 ts rs us==0)=true:=Ca.2 hc;rw[CV] at hW;cases Ul:lC ts rs.length us.length s
 . rw[Ul] at hW S3;simp only[↓zP,zJ,seval,w2,w5,g0,oL l6];refine bZ (S2 _) ?_;simp only[↓zP,zJ,seval,hb,w2,w3,g0,g1,oL l6,oL ls];refine bZ (S3 _) ?_;refine Ty ?_;refine Rx ?_;rw[hW];rfl
 have hso:=hs.ok Ul (by omega) (by omega) (by omega);have hY:=aIe ht hr hu hc Ul;rw[Ul] at hW S3;have e1:=hY.st;have e5:=hY.ta;have e6:=hY.ac;simp only[↓zP,zJ,seval,w2,w5,g0,oL l6];refine bZ (S2 _) ?_;simp only[↓zP,zJ,seval,hb,w2,w3,g0,g1,oL l6,oL ls];refine bZ (S3 _) ?_;refine Ty ?_;apply hK;clear hK K S1 S2 S3;refine bY fun f dQ=>?_;have f2:=Ks dQ w2;have f3:=Ks dQ w3;clear dQ w2 w3 w5 f';refine bQ ?_;refine Tz ?_;refine bP [] (fun i vs H'=>H'=HA/\∀k,k<i->IZ s rs k=false) 0 rs.length (Az _) (by omega) (by decide) ?_ ?_ ?_ ?_ ?_
 . exact zq
 . exact⟨rfl,fun k hk=>absurd hk (An _)⟩
 . rintro i fi H1 h0 hi hk x1 ⟨rfl,_⟩;have u2:fi 2=.ref 0 0:=by rw[hk 2 rfl];simp only[zB,seval];exact f2
   simp only[↓zP,zJ,seval,x1,u2,g0,y4,l6,lr];exact Zaf
 . rintro i fi H1 h0 hi hk x1 ⟨rfl,bV⟩;have u2:fi 2=.ref 0 0:=by rw[hk 2 rfl];simp only[zB,seval];exact f2
   have u3:fi 3=.ref 1 0:=(by rw[hk 3 rfl];simp only[zB,seval];exact f3);have gD:i<s.ta.length:=(by omega);have yV:=y4.trans (lR.bB (i:=i) Zaz);have sJ:s.tv=.bB 0 1 (bE s.ta):=hs.ta.bB (i:=i) (by rw[bT];exact gD);have hg:=cD hi;have vJ:=qK gD;have h8:=hr _ (Ac hi);obtain⟨hA,hB⟩:=hY.me _ (Ac hi);have CX:IZ s rs i=(s.ta[i]&&(!uC s.st (rs[i].getD 0 0)|| !uC s.st (rs[i].getD 1 0))):=by unfold IZ;simp[gD,hi]
   have fQ:IZ s rs i=false->∀k,k<i+1->IZ s rs k=false:=fun h k hk=>by
    exact Zas
   have eW:IZ s rs i=true->BN g r0 r1 ts rs us s=false:=fun h=>by rw[hW,Bw.2 ⟨i,Au.2 hi,h⟩];rfl
   rw[CX] at fQ eW;generalize s.ta[i]=tb at *;generalize rs[i]=r at *;have pM:(iC r).length=8:=(by rw[cC,h8]);have a0:=dV (l:=r) (i:=0) (by omega);have a1:=(ER (iC r)).trans (dV (l:=r) (i:=1) (by omega));have d1:(List.drop 1 (iC r)).length=7:=(by rw[Ex,pM]);generalize r.getD 0 0=x at *;generalize r.getD 1 0=z at *;have S1:=oB hso (n:=x) hA.1 (by omega);have S2:=oB hso (n:=z) hB.1 (by omega);generalize uC s.st x=b1 at *;generalize uC s.st z=b2 at *;refine aL ?_;refine aJ fun K2 bW=>?_;refine Dz ?_;cases tb
   . simp only[↓zP,zJ,seval,zD,x1,u3,g1,s4,ls,sJ,aB,bT,gD,vJ,gU];exact ZaD
   cases b1
   . simp only[↓zP,zJ,seval,zD,x1,u2,u3,g0,g1,s4,ls,l6,oL ls,sJ,yV,aB,bT,aO,gD,hi,vJ,hg,pM,a0];refine fH (S1 _) ?_;simp only[↓zP,zJ,seval,zD];exact Zab
   cases b2
   . simp only[↓zP,zJ,seval,zD,x1,u2,u3,g0,g1,s4,ls,l6,oL ls,sJ,yV,aB,bT,aO,gD,hi,vJ,hg,pM,a0];refine fH (S1 _) ?_;simp only[↓zP,zJ,seval,zD,x1,u2,u3,g0,g1,ls,l6,oL ls,yV,aB,aO,hi,hg,d1,a1];refine fH (S2 _) ?_;simp only[↓zP,zJ,seval,zD];exact Zab
   simp only[↓zP,zJ,seval,zD,x1,u2,u3,g0,g1,s4,ls,l6,oL ls,sJ,yV,aB,bT,aO,gD,hi,vJ,hg,pM,a0];refine fH (S1 _) ?_;simp only[↓zP,zJ,seval,zD,x1,u2,u3,g0,g1,ls,l6,oL ls,yV,aB,aO,hi,hg,d1,a1];refine fH (S2 _) ?_;simp only[↓zP,zJ,seval,zD];exact ZaD
 rintro fi H1 hk ⟨rfl,Uh⟩;have v2:fi 2=.ref 0 0:=by rw[hk 2 rfl];simp only[zB,seval];exact f2
 have v3:fi 3=.ref 1 0:=by rw[hk 3 rfl];simp only[zB,seval];exact f3
 clear hk f2 f3 f;have hR:(List.range rs.length).any (IZ s rs)=false:=Ct.2 fun k hk=>by rw[Uh k (Au.1 hk)];decide
 rw[hR] at hW;refine Tx ?_;refine fD ?_;refine Tz ?_;refine bP [] (fun i vs H'=>H'=H1/\∀k,k<i->IV s us k=false) 0 us.length (Az _) (by omega) (by decide) ?_ ?_ ?_ ?_ ?_
 . exact zq
 . exact⟨rfl,fun k hk=>absurd hk (An _)⟩
 . rintro i fi H1 h0 hi hk x1 ⟨rfl,_⟩;have u2:fi 2=.ref 0 0:=by rw[hk 2 rfl];simp only[zB,seval];exact v2
   simp only[↓zP,zJ,seval,x1,u2,g0,y5,l6,lu];exact Zaf
 . rintro i fi H1 h0 hi hk x1 ⟨rfl,bV⟩;have u2:fi 2=.ref 0 0:=by rw[hk 2 rfl];simp only[zB,seval];exact v2
   have u3:fi 3=.ref 1 0:=(by rw[hk 3 rfl];simp only[zB,seval];exact v3);have gD:i<s.ac.length:=(by omega);have yV:=y5.trans (mS.bB (i:=i) Zaz);have sJ:s.av=.bB 0 1 (bE s.ac):=hs.ac.bB (i:=i) (by rw[bT];exact gD);have hg:=cD hi;have vJ:=qK gD;have h8:=hu _ (Ac hi);have hA:=hY.push _ (Ac hi);have CX:IV s us i=(s.ac[i]&& !uC s.st (us[i].getD 0 0)):=by unfold IV;simp[gD,hi]
   have fQ:IV s us i=false->∀k,k<i+1->IV s us k=false:=fun h k hk=>by
    exact Zas
   have eW:IV s us i=true->BN g r0 r1 ts rs us s=false:=fun h=>by rw[hW,Bw.2 ⟨i,Au.2 hi,h⟩];rfl
   rw[CX] at fQ eW;generalize s.ac[i]=tb at *;generalize us[i]=r at *;have pM:(iC r).length=10:=(by rw[cC,h8]);have a0:=dV (l:=r) (i:=0) (by omega);generalize r.getD 0 0=x at *;have S1:=oB hso (n:=x) hA.1 (by omega);generalize uC s.st x=b1 at *;refine aL ?_;refine aJ fun K2 bW=>?_;refine Dz ?_;cases tb
   . simp only[↓zP,zJ,seval,zD,x1,u3,g1,s5,ls,sJ,aB,bT,gD,vJ];exact ZaD
   simp only[↓zP,zJ,seval,zD,x1,u2,u3,g0,g1,s5,ls,l6,oL ls,sJ,yV,aB,bT,aO,gD,hi,vJ,hg,pM,a0];refine fH (S1 _) ?_;simp only[↓zP,zJ,seval,zD];apply bW;clear bW K2;cases b1
   . refine Ty ?_;refine Rx ?_;rw[eW rfl];rfl
   refine Ty ?_;exact⟨trivial,fQ rfl⟩
 rintro fi H1 hk ⟨rfl,bV⟩;have hP:(List.range us.length).any (IV s us)=false:=Ct.2 fun k hk=>by rw[bV k (Au.1 hk)];decide
 rw[hP] at hW;refine Tx ?_;refine bR ?_;refine Tz ?_;refine Rx ?_;rw[hW];rfl
def W3T:{x // KU Tryz.prog DN false Tryz.f3=some x}:=⟨_,uJ⟩
theorem bGx:kH Tryz.prog DN false 3 W3T.1:=jC Tryz.func3 (by kernel_rfl) W3T.2
theorem aDj {g r0 r1:Int} {ts:List Th} {rs us:List (List Int)} {tv rv uv pv:AV} {k n:Int} {qs:List (List Int)} {s s':Sc} (hs:s.OK) (CC:s'.OK) (hd:JK s s') (hy:YS ts rs us s) (mR:fI tv 14 (nG ts)) (lR:fI rv 8 (bD rs)) (mS:fI uv 10 (bD us))
 (uR:fI pv 7 (bD qs)) (hq:∀q∈qs,q.length=7/\kX q) (Ls:qs.length<2^63) (fQ:∀t∈ts,gW t.store=0) (hf:lC ts rs.length us.length s=true):
 ∃(t t':Sc) (e:Int),t.OK/\t'.OK/\JK t t'/\lC ts rs.length us.length t=true/\YS ts rs us t/\(e≠0->JK t s)/\
  (∀H,St 8 [.agg (yC g r0 r1 tv rv uv),.agg s.cs,.agg (oC k n pv)] H (.ret (.iA [.agg t.cs,.int .i64 e])) H)/\
  ∀H,St 9 [.agg (yC g r0 r1 tv rv uv),.agg s'.cs,.agg (oC k n pv)] H (.ret (.agg (t'.cs++[AV.int .i64 e]))) H:=by
 have hy':YS ts rs us s':=⟨hy.ht,hy.hr,hy.hu,hy.sJ,hy.FJ,hy.ph,by rw[<-hd.st];exact hy.st,by rw[<-hd.ps];exact hy.ps,by rw[<-hd.vs];exact hy.vs,by rw[<-hd.ws];exact hy.ws,by rw[<-hd.ta];exact hy.ta,by rw[<-hd.ac];exact hy.ac,hy.me,hy.push⟩;obtain⟨t,ho,MJ,hA⟩:=rq (g:=g) (r0:=r0) (r1:=r1) (k:=k) (n:=n) hs hy mR lR mS uR hq Ls;obtain⟨t',o8,hd2,hB⟩:=lh (g:=g) (r0:=r0) (r1:=r1) (k:=k) (n:=n) CC hy' mR lR mS uR hq Ls;obtain⟨c1,c2⟩:=Wl (ts:=ts) (rs:=rs) (us:=us) (k:=k) (n:=n) (qs:=qs) hd;have hk:=JY (k:=k) (n:=n) hs hy hq;have Ul:=fk (k:=k) (n:=n) hs hy hq fQ hf
 have fr:∀{s:Sc},s.OK->bO [.agg (yC g r0 r1 tv rv uv),.agg s.cs,.agg (oC k n pv)]=true:=fun hs=>by
  have h1:=Sc.free hs;have h2:bO (yC g r0 r1 tv rv uv)=true:=by simp only[yC,sf,mR.free (fX hy.ht),lR.free (bF _),mS.free (bF _)]
  have h3:bO (oC k n pv)=true:=by simp only[oC,sf,uR.free (bF _)]
  simp only[sf,h1,h2,h3]
 have f1:(AV.iA [.agg t.cs,.int .i64 (vZ ts rs us k n qs s).1]).free=true:=by simp only[sf,Sc.free ho]
 have f2:∀x,(AV.agg (t'.cs++[.int .i64 x])).free=true:=fun x=>by have h1:=Sc.free o8;simp only[Sc.cs,sf] at h1;simp only[Sc.cs,Ep,Dc,sf,h1]
 rw[<-c1] at hB;refine⟨t,t',(vZ ts rs us k n qs s).1,ho,o8,MJ.trans (c2.trans hd2.symm),MJ.fits.trans Ul,?_,fun he=>?_,toT (fr hs) f1 hA,toT (fr CC) (f2 _) hB⟩
 . have h1:=hy.kept hk;exact⟨h1.ht,h1.hr,h1.hu,h1.sJ,h1.FJ,h1.ph,by rw[MJ.st];exact h1.st,by rw[MJ.ps];exact h1.ps,by rw[MJ.vs];exact h1.vs,by rw[MJ.ws];exact h1.ws,by rw[MJ.ta];exact h1.ta,by rw[MJ.ac];exact h1.ac,h1.me,h1.push⟩
 rw[rn he] at MJ;exact MJ
theorem aAz {s t:Sc} (hs:s.OK) (ht:t.OK) (h:JK s t):∀H,St 10 [.agg s.cs,.agg t.cs] H (.ret (.bool true)) H:=by
 have :=toT (f:=10) (args:=[.agg s.cs,.agg t.cs]) (by simp only[sf,Sc.free hs,Sc.free ht]) rfl fun H=>aAy hs ht H
 rwa [h.enc,Jj] at this
theorem aRh {g r0 r1:Int} {ts:List Th} {rs us:List (List Int)} {tv rv uv:AV} {s:Sc} (mR:fI tv 14 (nG ts)) (lR:fI rv 8 (bD rs)) (mS:fI uv 10 (bD us)) (ht:∀t∈ts,t.OK) (hs:s.OK) (hl:ts.length<2^30) (h:lC ts rs.length us.length s=true):
 ∀H,St 11 [.agg (yC g r0 r1 tv rv uv),.agg s.cs] H (.ret (.bool true)) H:=by
 have f2:bO (yC g r0 r1 tv rv uv)=true:=by simp only[yC,sf,mR.free (fX ht),lR.free (bF _),mS.free (bF _)]
 have :=toT (f:=11) (args:=[.agg (yC g r0 r1 tv rv uv),.agg s.cs]) (by simp only[sf,Sc.free hs,f2]) rfl fun H=>aEi (g:=g) (r0:=r0) (r1:=r1) mR lR mS ht hs hl H
 rwa [h] at this
theorem xy (aVp:∀H,St 7 [] H (.ret (.bool true)) H) {g r0 r1 k n:Int} {ts:List Th} {rs us qs:List (List Int)} {tv rv uv pv:AV} {s:Sc}
 (mR:fI tv 14 (nG ts)) (lR:fI rv 8 (bD rs)) (mS:fI uv 10 (bD us)) (ht:∀t∈ts,t.OK) (hr:∀r∈rs,r.length=8) (hu:∀p∈us,p.length=10)
 (uR:fI pv 7 (bD qs)) (hq:∀q∈qs,q.length=7/\kX q) (Ls:qs.length<2^63) (hs:s.OK1) (H:aA):
 St 3 [.agg (yC g r0 r1 tv rv uv),.agg s.cs,.agg (oC k n pv)] H (.ret (.bool true)) H:=by
 have fy:bO (yC g r0 r1 tv rv uv)=true:=by simp only[yC,sf,mR.free (fX ht),lR.free (bF _),mS.free (bF _)]
 have fo:bO (oC k n pv)=true:=by simp only[oC,sf,uR.free (bF _)]
 have fs:=Sc.Uc hs;refine EH aUm XP bGx (Ak rfl) (by simp only[sf,fy,fo,fs]) Zah ?_ H;unfold W3T;dsimp only;have l6:(yC g r0 r1 tv rv uv).length=6:=rfl;have l3:(oC k n pv).length=3:=rfl;have ls:s.cs.length=6:=rfl;have S0:=toT (f:=6) (args:=[.agg (yC g r0 r1 tv rv uv),.agg s.cs]) (by simp only[sf,fy,fs]) rfl fun H=>mz (g:=g) (r0:=r0) (r1:=r1) mR lR mS ht hr hu hs H;refine bQ ?_;refine Ty ?_;refine bR ?_;generalize hX:(((aA.mk 0 .nil).alloc _).alloc _).alloc _=HA;have g0:HA.get 0=some (.cells (yC g r0 r1 tv rv uv) false):=by subst hX;simp only[zI,seval]
 have g1:HA.get 1=some (.cells s.cs false):=by subst hX;simp only[zI,seval]
 have g2:HA.get 2=some (.cells (oC k n pv) false):=by subst hX;simp only[zI,seval]
 have gn:HA.next=3:=by subst hX;simp only[zI,seval]
 clear hX;refine bY fun f dQ=>?_;have f3:f 3=.ref 0 0:=by subst dQ;simp only[zB,seval]
 have f4:f 4=.ref 1 0:=by subst dQ;simp only[zB,seval]
 have f5:f 5=.ref 2 0:=by subst dQ;simp only[zB,seval]
 clear dQ;refine bQ ?_;simp only[↓zP,zJ,seval,f3,f4,g0,g1,oL l6,oL ls];refine bZ (S0 _) ?_;refine Tz ?_;refine bR ?_;refine bY fun f' dQ=>?_;have w3:=Ks dQ f3;have w4:=Ks dQ f4;have w5:=Ks dQ f5;have w7:f' 7=.bool (BN g r0 r1 ts rs us s):=by subst dQ;simp only[zB,seval]
 clear dQ f3 f4 f5 f;refine aJ fun K hK=>?_;cases hw:BN g r0 r1 ts rs us s
 . rw[hw] at w7;simp only[↓zP,zJ,seval,w7];refine bZ (aVp _) ?_;refine Tz ?_;refine Rx ?_;rfl
 rw[hw] at w7;simp only[↓zP,zJ,seval,w7];apply hK;clear hK K S0;obtain⟨XV,hc,Ul⟩:=Ys hw;obtain⟨m1,m2,m3,fQ,_,_⟩:=sr hc;have hso:=hs.ok Ul (by omega) (by omega) (by omega);have hY:=aIe ht hr hu hc Ul;obtain⟨t,t',e,ho,o8,hd,hft,_,he,hA,hB⟩:=aDj (g:=g) (r0:=r0) (r1:=r1) (k:=k) (n:=n) hso hso (JK.YU s) hY mR lR mS uR hq Ls fQ Ul;have S1:=aAz ho o8 hd;have S2:=aRh (g:=g) (r0:=r0) (r1:=r1) mR lR mS ht ho (by omega) hft;have S3:=fun h=>aAz ho hso (he h);have lt:t.cs.length=6:=rfl;have lt':(t'.cs++[AV.int .i64 e]).length=7:=rfl;have t6:(t'.cs++[AV.int .i64 e]).getD 6 aC=.int .i64 e:=rfl;have tk:(t'.cs++[AV.int .i64 e]).take 6=t'.cs:=rfl;refine bY fun f dQ=>?_;have f3:=Ks dQ w3;have f4:=Ks dQ w4;have f5:=Ks dQ w5;clear dQ w3 w4 w5 w7 f';refine bQ ?_;simp only[↓zP,zJ,seval,f3,f4,f5,g0,g1,g2,oL l6,oL ls,oL l3];refine bZ (hA _) ?_;simp only[↓zP,zJ,seval,lt,gn];refine bR ?_;generalize hX:(HA.alloc _).set 3 _=HB;have m0:HB.get 0=some (.cells (yC g r0 r1 tv rv uv) false):=by subst hX;rw[aA.aD,if_neg (by decide),aA.aG,if_neg (by omega)];exact g0
 have m1':HB.get 1=some (.cells s.cs false):=by subst hX;rw[aA.aD,if_neg (by decide),aA.aG,if_neg (by omega)];exact g1
 have m2':HB.get 2=some (.cells (oC k n pv) false):=by subst hX;rw[aA.aD,if_neg (by decide),aA.aG,if_neg (by omega)];exact g2
 have m8:HB.get 3=some (.cells t.cs false):=by subst hX;rw[aA.aD,if_pos rfl]
 have mn:HB.next=4:=by subst hX;rw[aA.bC,aA.aS,gn]
 clear hX g0 g1 g2 gn;refine bY fun f' dQ=>?_;have w3:=Ks dQ f3;have w4:=Ks dQ f4;have w5:=Ks dQ f5;have w8:f' 8=.ref 3 0:=by subst dQ;simp only[zB,seval]
 have w9:f' 9=.int .i64 e:=by subst dQ;simp only[zB,seval]
 clear dQ f3 f4 f5 f;refine bQ ?_;simp only[↓zP,zJ,seval,w3,w4,w5,m0,m1',m2',oL l6,oL ls,oL l3];refine bZ (hB _) ?_;simp only[↓zP,zJ,seval,lt',mn];refine bR ?_;generalize hX:(HB.alloc _).set 4 _=HC;have g0:HC.get 0=some (.cells (yC g r0 r1 tv rv uv) false):=by subst hX;rw[aA.aD,if_neg (by decide),aA.aG,if_neg (by omega)];exact m0
 have g1:HC.get 1=some (.cells s.cs false):=by subst hX;rw[aA.aD,if_neg (by decide),aA.aG,if_neg (by omega)];exact m1'
 have g8:HC.get 3=some (.cells t.cs false):=by subst hX;rw[aA.aD,if_neg (by decide),aA.aG,if_neg (by omega)];exact m8
 have g10:HC.get 4=some (.cells (t'.cs++[.int .i64 e]) false):=by subst hX;rw[aA.aD,if_pos rfl]
 clear hX m0 m1' m2' m8 mn;refine bY fun f dQ=>?_;have f3:=Ks dQ w3;have f4:=Ks dQ w4;have f8:=Ks dQ w8;have f9:=Ks dQ w9;have f10:f 10=.ref 4 0:=by subst dQ;simp only[zB,seval]
 clear dQ w3 w4 w5 w8 w9 f';refine aJ fun K hK=>?_;refine Tx ?_;refine bZ (aVp _) ?_;simp only[↓zP,zJ,seval,f8,f9,f10,g8,g10,lt,lt',t6,tk,oL lt,Jj];refine bZ (S1 _) ?_;simp only[↓zP,zJ,seval,f3,f8,g0,g8,oL l6,oL lt];refine bZ (S2 _) ?_;by_cases he0:e=0
 . have hb:(e==0)=true:=Ca.2 he0;simp only[↓zP,zG,seval,f9,hb];apply hK;clear hK K;refine Tx ?_;refine Rx ?_;rfl
 have hb:(e==0)=false:=Bl.2 he0;simp only[↓zP,zJ,seval,f4,f8,f9,g1,g8,oL ls,oL lt,hb];refine bZ (S3 he0 _) ?_;refine Tz ?_;apply hK;clear hK K;refine Tx ?_;refine Rx ?_;rfl
end Go.Proofs.YtgggiembljfnhaaGreatDoor
