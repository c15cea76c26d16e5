/-
  Part of the proof of statement 5
-/
import Derived.Test.YtbndcmnnbiiobaaGreatDoorA14
import Derived.Test.YtbndcmnnbiiobaaGreatDoorA12
import Derived.Test.YtbndcmnnbiiobaaGreatDoorA13
import Derived.Test.YtbndcmnnbiiobaaGreatDoorA10
import Derived.Test.YtbndcmnnbiiobaaGreatDoorA07
set_option linter.unusedVariables false
set_option maxRecDepth 100000
set_option maxHeartbeats 16000000
namespace Go.Proofs.YtbndcmnnbiiobaaGreatDoor
open Go Go.Av Go.aG Go.mO
attribute [local congr] aU aO aP aN aY aR aQ aI aZ
attribute [local irreducible] FC bL eU
theorem mM (b:Bool) (A B:Prop):iW aD b A B=B:=rfl
theorem Xd (x:Int) (H:aA):Sg 292 [.int .i64 x] H (.ret (.int .i64 (vO x))) H:=by
 refine So bBe (by simp only[sf]) ?_ H;unfold aQj;dsimp only;unfold vO;by_cases h:x<0
 · have d1:=Al h;simp only[↓zP,zJ,Nat.reduceLT,Nat.reduceEqDiff,d1];refine Rx ?_;rw[if_pos h];rfl
 have d1:=Ae h;by_cases h2:x>0
 · have d2:=Al h2;simp only[↓zP,zJ,Nat.reduceLT,Nat.reduceEqDiff,d1,d2];refine Rx ?_;rw[if_neg h,if_pos h2];rfl
 have d2:=Ae h2;simp only[↓zP,zJ,Nat.reduceLT,Nat.reduceEqDiff,d1,d2];refine Rx ?_;rw[if_neg h,if_neg h2];rfl
theorem aDw (n c:aG.V) (H:aA):Sg 259 [.agg (bZ n),.agg (bZ c)] H (.ret (.int .i64 (aG.sX n c))) H:=by
 refine So bAx (by simp only[sf,cC]) ?_ H;unfold aQc;dsimp only;simp only[↓zP,zJ,Nat.reduceLT,Nat.reduceEqDiff];refine bG [] (fun i vs H'=>H'=((⟨0,.nil⟩:aA).alloc (.cells (bZ n) false)).alloc (.cells (bZ c) false)/\∀k,k<i->n.at k=0) 0 3 (by decide) (by decide) (by decide) ?_ ?_ ?_ ?_ ?_
 · simp only[zB];rfl
 · exact⟨rfl,fun k hk=>absurd hk (Ax _)⟩
 · rintro i f H1 h0 hi hk e1 ⟨rfl,hz⟩;simp only[↓zP,zJ,Nat.reduceLT,e1];exact tB (by omega)
 · rintro i f H1 h0 hi hk e1 ⟨rfl,hz⟩;have f2:f 2=.ref 0 0:=hk 2 rfl;have f3:f 3=.ref 1 0:=hk 3 rfl;have hi3:i+1<=3:=by omega
   refine aH ?_;by_cases hn:n.at i=0
   · have hb:(n.at i != 0)=false:=(by simp[hn]);simp only[↓zP,zJ,Nat.reduceLT,Nat.reduceEqDiff,e1,f2,aB,hi,aM,iM n hi,hi3,hb];refine⟨trivial,fun k hk=>?_⟩;by_cases ZS:k=i
     · subst ZS;exact hn
     exact hz k (by omega)
   have hb:(n.at i != 0)=true:=by simp[hn]
   have w:IntKind.i64.wrap (vO (n.at i)*vO (c.at i))=vO (n.at i)*vO (c.at i):=wrapN (B:=1*1) (by rw[Ha];exact Bv (Ns _) (Ns _)) (by decide)
   simp only[↓zP,zJ,Nat.reduceLT,Nat.reduceEqDiff,e1,f2,aB,hi,aM,iM n hi,hi3,hb];refine Dz ?_;simp only[↓zP,zJ,Nat.reduceLT,Nat.reduceEqDiff,Nat.reduceAdd,zD,reduceCtorEq,e1,f2,aB,hi,aM,iM n hi,hi3];refine eT (Xd (n.at i) _) ?_;simp only[↓zP,zJ,Nat.reduceLT,Nat.reduceEqDiff,Nat.reduceAdd,zD,reduceCtorEq,e1,f3,aB,hi,aM,iM c hi,hi3];refine eT (Xd (c.at i) _) ?_;simp only[↓zP,zJ,Nat.reduceLT,Nat.reduceEqDiff,Nat.reduceAdd,zD,reduceCtorEq,w];refine Rx ?_;rw[j9 n c hi hz hn,Int.mul_comm];rfl
 rintro f H1 hk ⟨rfl,hz⟩;simp only[↓zP];refine Rx ?_;rw[TF n c hz];rfl
def okV (n a b x:aG.V):Bool:= !(decide (aG.sX n (aG.aT (aG.sub b a) (aG.sub x a))<0)||(decide (aG.sX n (aG.aT (aG.sub b a) (aG.sub x a))=0)&&(decide (aG.dot (aG.sub x a) (aG.sub b a)<0)||decide (aG.dot (aG.sub x a) (aG.sub b a)>aG.dot (aG.sub b a) (aG.sub b a)))))
def FB (l:List aG.V) (n:aG.V) (d:Int) (a b:aG.V):Bool:=l.all fun x=> !decide (aG.dot n x=d)||okV n a b x
theorem aVc {l:List aG.V} {M B:Nat} (hl:∀v∈l,bM M v) (hM:M<=2^18) (hlen:l.length<2^30) {n a b:aG.V} {d:Int} (hq:bM B n) (hs:3*(B*M)<2^62) (ha:bM M a) (hb:bM M b) (H:aA):
 Sg 234 [.aV 0 3 (bF l),.agg (bZ n),.int .i64 d,.agg (bZ a),.agg (bZ b)] H (.ret (.bool (FB l n d a b))) H:=by
 have Qp:Nat.blt 0 2=true:=rfl;have hw:=fM hb ha;have hMM:(M+M)*(M+M)<=2^19*2^19:=Bv (by omega) (by omega);have sw:=xW hb ha (by omega);have dww:=qZ hw hw (by omega);refine So bAo (by simp only[sf,cE Qp,cC]) ?_ H;unfold aPt;dsimp only;refine bS ?_;simp only[↓zP,zJ,Nat.reduceLT,Nat.reduceEqDiff,Nat.reduceAdd];refine fL ?_;simp only[↓zP,zJ,Nat.reduceLT,Nat.reduceEqDiff,Nat.reduceAdd,oL (aM b),oL (aM a)];refine bK (sw _) ?_;simp only[↓zP,zJ,Nat.reduceLT,Nat.reduceEqDiff,Nat.reduceAdd,oL (aM (aG.sub b a))];refine bT ?_;have hMW:(M+M)*M<=2^19*2^18:=Bv (by omega) hM;generalize hwv:aG.sub b a=w at *;refine aJ fun K hK=>?_;simp only[↓zP,zG,Nat.reduceLT];refine bG [] (fun i vs H'=>H'.get 0=some (.cells (bZ n) false)/\H'.get 1=some (.cells (bZ a) false)/\H'.get 3=some (.cells (bZ w) false)/\4<=H'.next/\cN H'/\∀x∈l.take i,aG.dot n x=d->okV n a b x=true) 0 l.length (Bb _) (by omega) (by decide) ?_ ?_ ?_ ?_ ?_
 · simp only[zB];rfl
 · refine⟨by simp only[zI,Nat.reduceAdd,Nat.reduceEqDiff],by simp only[zI,Nat.reduceAdd,Nat.reduceEqDiff],by simp only[zI,Nat.reduceAdd,Nat.reduceEqDiff],by simp only[zI,Nat.reduceAdd,Nat.reduceLeDiff],?_,fun v hv=>by simp at hv⟩;exact((((((cN.nil 0).alloc _).alloc _).alloc _).alloc _).set (by simp) _)
 · rintro i f H1 h0 hi hk e1 ⟨g0,g1,g3,gn,hf,dB⟩;have f0:f 0=.aV 0 3 (bF l):=hk 0 rfl;simp only[↓zP,zJ,Nat.reduceLT,Nat.reduceEqDiff,e1,f0,aL];exact tB (by omega)
 · rintro i f H1 h0 hi hk e1 ⟨g0,g1,g3,gn,hf,dB⟩;have f0:f 0=.aV 0 3 (bF l):=hk 0 rfl;have f2:f 2=.int .i64 d:=hk 2 rfl;have f6:f 6=.ref 0 0:=hk 6 rfl;have f8:f 8=.ref 1 0:=hk 8 rfl;have f11:f 11=.ref 3 0:=hk 11 rfl;have hg:=bY hi;have hm:=Ai hi;have hx:=hl _ hm
   have sH:∀v,v∈l.take (i+1)->v∈l.take i\/v=l[i]:=fun v hv=>by
    rw[Ap,As] at hv
    rcases hv with h|h
    · exact .inl h
    simp[hi] at h;exact .inr h
   have aRv:aG.dot n l[i]=d->okV n a b l[i]=false->FB l n d a b=false:=fun h1 h2=>by unfold FB;rw[Hu];exact⟨l[i],hm,by simp[h1,h2]⟩
   generalize l[i]=x at *;have hd:=qZ hq hx hs
   have aKx:(aG.dot n x=d->okV n a b x=true)->∀v∈l.take (i+1),aG.dot n v=d->okV n a b v=true:=fun h v hv=>by
    rcases sH v hv with h1|rfl
    · exact dB v h1
    exact h
   refine aH ?_;refine aJ fun K2 cK=>?_;refine bS ?_;refine Dz ?_;simp only[↓zP,zJ,Nat.reduceLT,Nat.reduceEqDiff,Nat.reduceAdd,zD,reduceCtorEq,f0,f6,e1,g0,aB,aL,hi,hg,oL (aM n),oL (aM x)];refine eT (hd _) ?_;simp only[↓zP,zJ,Nat.reduceLT,Nat.reduceEqDiff,Nat.reduceAdd,zD,reduceCtorEq,f2];refine bT ?_;by_cases hc:aG.dot n x=d
   · have tR:(aG.dot n x != d)=false:=(by simp[hc]);have ht:=fM hx ha;have st:=xW hx ha (by omega);have cr:=My hw ht (by omega);have lf:=aDw n (aG.aT w (aG.sub x a));have dtw:=qZ ht hw (by omega)
     have aHk:okV n a b x= !(decide (aG.sX n (aG.aT w (aG.sub x a))<0)||(decide (aG.sX n (aG.aT w (aG.sub x a))=0)&&(decide (aG.dot (aG.sub x a) w<0)||decide (aG.dot (aG.sub x a) w>aG.dot w w)))):=by unfold okV;rw[hwv]
     simp only[↓zP,zG,tR];apply cK;clear cK K2;refine bS ?_;refine nG 1 (by decide) hf.at1 fun H2 n2 e2=>?_;have q1:=(e2 1).trans g1;simp only[↓zP,zJ,Nat.reduceLT,Nat.reduceEqDiff,Nat.reduceAdd,zD,reduceCtorEq,f0,f8,e1,q1,aB,aL,hi,hg,oL (aM x),oL (aM a)];refine eT (st _) ?_;generalize hto:aG.sub x a=t at *;simp only[↓zP,zJ,Nat.reduceLT,Nat.reduceEqDiff,Nat.reduceAdd,zD,oL (aM t)];generalize hX:(H2.set H1.next _).set H1.next _=H3;have y0:H3.get 0=some (.cells (bZ n) false):=(by subst hX;rw[aA.aC,if_neg (by omega),aA.aC,if_neg (by omega),e2];exact g0);have y1:H3.get 1=some (.cells (bZ a) false):=(by subst hX;rw[aA.aC,if_neg (by omega),aA.aC,if_neg (by omega),e2];exact g1);have y3:H3.get 3=some (.cells (bZ w) false):=(by subst hX;rw[aA.aC,if_neg (by omega),aA.aC,if_neg (by omega),e2];exact g3);have yr:H3.get H1.next=some (.cells (bZ t) false):=(by subst hX;rw[aA.aC,if_pos rfl]);have yn:4<=H3.next:=by subst hX;simp only[aA.aX];omega
     have yf:cN H3:=fun j hj=>by subst hX;simp only[aA.aX] at hj;rw[aA.aC,if_neg (by omega),aA.aC,if_neg (by omega),e2];exact hf j (by omega)
     clear hX;refine fL ?_;refine Dz ?_;simp only[↓zP,zJ,Nat.reduceLT,Nat.reduceEqDiff,Nat.reduceAdd,zD,reduceCtorEq,f6,f11,y0,y3,yr,oL (aM n),oL (aM w),oL (aM t)];refine eT (cr _) ?_;generalize aG.aT w t=cw at *;simp only[Nat.reduceAdd];refine eT (lf _) ?_;generalize aG.sX n cw=tn at *;simp only[↓zP,zJ,Nat.reduceLT,Nat.reduceEqDiff,Nat.reduceAdd,zD,reduceCtorEq];refine bT ?_;refine aJ fun K2 cK=>?_;refine Dz ?_
     have fin:∀(f':cU) (r:Bool),f' 63=.bool (!r)->okV n a b x=r->K2 f' [] H3:=by
      intro f' r v63 hr;apply cK;clear cK K2
      cases r with
      |true=>simp only[↓zP,zJ,v63];exact⟨y0,y1,y3,yn,yf,aKx fun _=>hr⟩
      |false=>simp only[↓zP,zJ,Nat.reduceLT,v63];refine Rx ?_;rw[aRv hc hr];rfl
     clear cK;by_cases c1:tn<0
     · have d1:=Al c1;simp only[↓zP,zJ,Nat.reduceLT,Nat.reduceEqDiff,Nat.reduceAdd,zD,reduceCtorEq,d1,mM];exact fin _ false (by simp only[zB];rfl) (by rw[aHk,d1];rfl)
     have d1:=Ae c1;by_cases c2:tn=0
     · have d2:(tn==0)=true:=(by simp[c2]);have d2':decide (tn=0)=true:=Al c2;simp only[↓zP,zJ,Nat.reduceLT,Nat.reduceEqDiff,Nat.reduceAdd,zD,reduceCtorEq,d1,d2,f11,y3,yr,oL (aM w),oL (aM t)];refine eT (dtw _) ?_;by_cases c3:aG.dot t w<0
       · have d3:=Al c3;simp only[↓zP,zJ,Nat.reduceLT,Nat.reduceEqDiff,Nat.reduceAdd,zD,reduceCtorEq,d3];exact fin _ false (by simp only[zB];rfl) (by rw[aHk,d1,d2',d3];rfl)
       have d3:=Ae c3;simp only[↓zP,zJ,Nat.reduceLT,Nat.reduceEqDiff,Nat.reduceAdd,zD,reduceCtorEq,d3,f11,y3,yr,oL (aM w),oL (aM t)];refine eT (dtw _) ?_;simp only[↓zP,zJ,Nat.reduceLT,Nat.reduceEqDiff,Nat.reduceAdd,zD,f11,y3,oL (aM w)];refine eT (dww _) ?_;simp only[↓zP,zJ,Nat.reduceLT,Nat.reduceEqDiff,Nat.reduceAdd,zD,reduceCtorEq];exact fin _ (!decide (aG.dot t w>aG.dot w w)) (by simp only[zB,Bool.not_not]) (by rw[aHk,d1,d2',d3];rfl)
     have d2:(tn==0)=false:=(by simp[c2]);have d2':decide (tn=0)=false:=Ae c2;simp only[↓zP,zJ,Nat.reduceLT,Nat.reduceEqDiff,Nat.reduceAdd,zD,reduceCtorEq,d1,d2,mM];exact fin _ true (by simp only[zB];rfl) (by rw[aHk,d1,d2'];rfl)
   have tR:(aG.dot n x != d)=true:=(by simp[hc]);simp only[↓zP,zG,tR];exact⟨g0,g1,g3,gn,hf,aKx fun h=>absurd h hc⟩
 rintro f H1 hk ⟨g0,g1,g3,gn,hf,dB⟩;rw[Ar] at dB
 have :FB l n d a b=true:=by
  unfold FB;rw[Ba];intro x hx;by_cases h:aG.dot n x=d
  · simp[dB x hx h]
  simp[h]
 show K f [] H1;apply hK;simp only[↓zP,zG,Nat.reduceLT];refine Rx ?_;rw[this];rfl
theorem aDy (tag:Nat) {l:List aG.V} {M B:Nat} (hl:∀v∈l,bM M v) (hM:M<=2^18) (hlen:l.length<2^30) {n a b:aG.V} {d:Int} (hq:bM B n) (hs:3*(B*M)<2^62) (ha:bM M a) (hb:bM M b) (H:aA):
 Sg 234 [.aV tag 3 (bF l),.agg (bZ n),.int .i64 d,.agg (bZ a),.agg (bZ b)] H (.ret (.bool (FB l n d a b))) H:=(aVc hl hM hlen hq hs ha hb H).yB tag
theorem lk {α:Type} (f:α->Bool) (z:α):∀l:List α,l.all f=(List.range l.length).all fun k=>f (l.getD k z):=fun l=>by
 rw[Du,Ba,Ba];constructor
 · intro h k hk;have hk:=Bi.1 hk;have :l.getD k z=l[k]:=by simp[List.getD,hk]
   rw[this];exact h _ (Ai hk)
 intro h x hx;obtain⟨k,hk,rfl⟩:=Cv hx;have :=h k (Bi.2 hk)
 rwa [show l.getD k z=l[k] by simp[List.getD,hk]] at this
theorem aJr {l:List aG.V} {n:aG.V} {d:Int} (a b:Nat):FB l n d (l.getD a V0) (l.getD b V0)=NG n (fun i=>l.getD i V0) (jP (fun i=>l.getD i V0) l.length n d) a b:=by unfold FB NG jP;rw[List.all_filter,lk _ V0];rfl
theorem ZH {on:List Nat} (hs:on.Pairwise (· < ·)) {p:Nat->Bool} {b:Nat} (h:on.find? p=some b):b∈on/\p b=true/\∀k∈on,k<b->p k=false:=by
 obtain⟨h1,xs,bs,rfl,h2⟩:=List.find?_eq_some_iff_append.1 h;refine⟨by simp,h1,fun k hk hkb=>?_⟩
 rcases As.1 hk with hk|hk
 · simpa using h2 k hk
 rcases Aq.1 hk with rfl|hk
 · omega
 rw[List.pairwise_append] at hs;have :=(Cr.1 hs.2.1).1 k hk;omega
theorem um {l:List aG.V} {M B:Nat} (hl:∀v∈l,bM M v) (hM:M<=2^18) (hlen:l.length<=64) {n:aG.V} {d:Int} (hq:bM B n) (hs:3*(B*M)<2^62)
 {L:List Nat} (hP:Poly (fun i=>l.getD i V0) l.length n d L) (H:aA):
 Sg 203 [.aV 0 3 (bF l),.agg (bZ n),.int .i64 d] H (.ret (.aV 0 1 (zH L))) H:=by
 have Qp:Nat.blt 0 2=true:=rfl;refine dH fit dQ bAa (Af rfl) (by simp only[sf,cE Qp,cC]) ?_ H;have hPn:=fun k (hk:k∈L)=>hP.Si hk;obtain⟨s0,r,m,YF,W,hL⟩:=hP.ex
 have uG:∀i,i<m->iter (vB n (fun i=>l.getD i V0) (jP (fun i=>l.getD i V0) l.length n d)) i s0∈L:=fun i hi=>by rw[hL];exact Bf.2 ⟨i,Bi.2 hi,rfl⟩
 have Tz:=Pq (fun i=>l.getD i V0) l.length n d
 have bJz:m<=l.length:=by have h1:=W.le;have h2:=Dj (fun k=>decide (aG.dot n (l.getD k V0)=d)) (List.range l.length);rw[Bs] at h2;exact Br h1 h2
 unfold aPg;dsimp only;have cG:∀k (h:k<l.length),l.getD k V0=l[k]:=fun k h=>by simp[List.getD,h]
 have hs0:s0<l.length/\aG.dot n (l.getD s0 V0)=d:=dN.1 (show s0∈jP (fun i=>l.getD i V0) l.length n d by rw[YF];simp)
 have aHf:∀k,k<s0->k<l.length->aG.dot n (l.getD k V0)≠d:=fun k h1 h2 h3=>by
  have :k∈jP (fun i=>l.getD i V0) l.length n d:=dN.2 ⟨h2,h3⟩;rw[YF] at this Tz
  rcases Aq.1 this with h|h
  · omega
  have :=(Cr.1 Tz).1 k h;omega
 refine bS ?_;simp only[↓zP,zJ,seval];refine fL ?_;simp only[↓zP,zG,seval];refine fL ?_;simp only[↓zP,zG,seval];refine bT ?_;refine aJ fun K hK=>?_;simp only[↓zP,zG,seval];refine bG [8] (fun i vs H'=>H'=((⟨0,.nil⟩:aA).alloc (.cells (bZ n) false))/\vs=[.int .i64 (if i<=s0 then -1 else(s0:Int))]) 0 (s0+1) (Bb _) (by omega) (by decide) ?_ ?_ ?_ ?_ ?_
 · simp only[zB,seval]
 · exact⟨rfl,by simp only[sm,zB,seval];rw[if_pos (Bb _)]⟩
 · rintro i f H1 h0 hi hk e1 ⟨rfl,hv⟩;simp only[zM] at hv;have f0:f 0=.aV 0 3 (bF l):=hk 0 rfl;have d1:decide ((i:Int)<(l.length:Int))=decide (i<l.length):=by rw[Az];omega
   by_cases h1:i<=s0
   · rw[if_pos h1] at hv;have YB:decide ((i:Int)<(l.length:Int))=true:=Al (by omega);have d2:decide ((-1:Int)<0)=true:=rfl;simp only[↓zP,zG,seval,e1,f0,aL,YB,hv];exact⟨trivial,trivial,Ao AV.bool (Al (by omega)).symm⟩
   rw[if_neg h1] at hv;have d2:decide ((s0:Int)<0)=false:=Ae (by omega);by_cases hx:i<l.length
   · have YB:decide ((i:Int)<(l.length:Int))=true:=Al (by omega);simp only[↓zP,zG,seval,e1,f0,aL,YB,hv,d2];exact⟨trivial,trivial,Ao AV.bool (Ae (by omega)).symm⟩
   have YB:decide ((i:Int)<(l.length:Int))=false:=Ae (by omega);simp only[↓zP,zG,seval,e1,f0,aL,YB];exact⟨trivial,trivial,Ao AV.bool (Ae (by omega)).symm⟩
 · rintro i f H1 h0 hi hk e1 ⟨rfl,hv⟩;simp only[zM] at hv;have f0:f 0=.aV 0 3 (bF l):=hk 0 rfl;have f2:f 2=.int .i64 d:=hk 2 rfl;have f4:f 4=.ref 0 0:=hk 4 rfl;have BN:i<l.length:=by omega
   have hg:=bY BN;have hd:=qZ hq (hl _ (Ai BN)) hs;have hbi:=aHf i;rw[cG i BN] at hbi;have hsi:i=s0->aG.dot n l[i]=d:=fun h=>by rw[<-cG i BN,h];exact hs0.2
   generalize l[i]=x at *;refine aH ?_;refine bS ?_;refine Dz ?_;simp only[↓zP,zJ,seval,zD,f0,f4,e1,aB,aL,BN,hg,oL (aM n),oL (aM x)];refine eT (hd _) ?_;simp only[↓zP,zJ,seval,zD,f2];refine bT ?_;by_cases hc:i=s0
   · have tR:(aG.dot n x==d)=true:=(by simp[hsi hc]);simp only[↓zP,zJ,seval,tR,e1];exact⟨trivial,by rw[if_neg (by omega),hc]⟩
   have tR:(aG.dot n x==d)=false:=(by simp[hbi (by omega) BN]);simp only[↓zP,zJ,seval,tR,hv];exact⟨trivial,by rw[if_pos (by omega),if_pos (by omega)]⟩
 rintro f H1 hk ⟨rfl,hv⟩;simp only[zM] at hv;rw[if_neg (by omega)] at hv;have f0:f 0=.aV 0 3 (bF l):=hk 0 rfl;have fd2:f 2=.int .i64 d:=hk 2 rfl;have f4:f 4=.ref 0 0:=hk 4 rfl;have f7:f 7=.aS:=hk 7 rfl;show K f [] _;apply hK;clear hK K;refine bS ?_;simp only[↓zP,zG,seval,hv];refine bT ?_;refine aJ fun K hK=>?_;generalize Wc:jP (fun i=>l.getD i V0) l.length n d=on at *;generalize aBe:iter (vB n (fun i=>l.getD i V0) on)=it at *
 have eQ:∀k∈on,k<l.length:=fun k hk=>by rw[<-Wc] at hk;exact(dN.1 hk).1
 refine aH ?_;refine fK [7,8] (fun M' vs H'=>∃i,i<m/\M'=m -i/\∃v,vs=[v,.int .i64 (it i s0:Nat)]/\H'.get 0=some (.cells (bZ n) false)/\1<=H'.next/\Own H' 1 v (zH ((List.range i).map fun i=>it i s0))) m (by rfl) ?_ ?_
 · exact⟨0,W.pos,rfl,.aS,by simp only[sm,zB,seval,f7,hv];rw[<-aBe];rfl,by simp only[zI,seval],by simp only[zI,seval],.nil _ _⟩
 rintro M' f2 H2 dA ⟨i,hi,rfl,v,nJ,g0,gn,ho⟩;simp only[zM] at nJ;obtain⟨v7,v8⟩:=nJ;have k0:f2 0=.aV 0 3 (bF l):=by rw[dA 0 rfl];simp only[zB,seval];exact f0
 have k2:f2 2=.int .i64 d:=by rw[dA 2 rfl];simp only[zB,seval];exact fd2
 have k4:f2 4=.ref 0 0:=by rw[dA 4 rfl];simp only[zB,seval];exact f4
 have k10:f2 10=.int .i64 s0:=dA 10 rfl;have hle:i<=l.length:=by omega
 have d1:decide ((i:Int)<=(l.length:Int))=true:=Al (by omega);have BN:((List.range i).map fun i=>it i s0).length=i:=by simp
 refine aJ fun K2 cK=>?_
 have key:∀f':cU,f' 0=.aV 0 3 (bF l)->f' 2=.int .i64 d->f' 4=.ref 0 0->f' 10=.int .i64 s0->f' 7=v->f' 8=.int .i64 (it i s0:Nat)->K2 f' [] H2:=by
  intro f3 w0 w2 w4 w10 w7 w8;apply cK;clear cK K2;obtain⟨hoa,hSa⟩:=W.side i;have Tv:=hSa.1;rw[aBe] at hoa Tv;have xG:vB n (fun i=>l.getD i V0) on (it i s0)=it (i+1) s0:=by rw[<-aBe];rfl
  have Me:=hPn _ (uG i hi);rw[xG] at Me;unfold aG.Si at Me;obtain⟨_,hp1,hp2⟩:=ZH Tz Me;have hal:=eQ _ hoa;have wD:=eQ _ Tv;have oz:aG.dot n (l.getD (it (i+1) s0) V0)=d:=by rw[<-Wc] at Tv;exact(dN.1 Tv).2
  have bFk:∀k,k<l.length->aG.dot n (l.getD k V0)=d->k∈on:=fun k h1 h2=>by rw[<-Wc];exact dN.2 ⟨h1,h2⟩
  have SK:i+1=m->it (i+1) s0=s0:=fun h=>by rw[h,<-aBe];exact W.back
  have bEy:i+1<m->it (i+1) s0≠s0:=fun h=>by rw[<-aBe];exact W.first (i+1) (by omega) h
  have hrs:(List.range (i+1)).map (fun i=>it i s0)=(List.range i).map (fun i=>it i s0)++[it i s0]:=by rw[Fj,Ch];rfl
  generalize ha:it i s0=a at *;generalize hb:it (i+1) s0=b at *;generalize hX:(List.range i).map (fun i=>it i s0)=X at *;obtain⟨H5,z1,z2,z3,z4,z5⟩:=Has.push (.inr ho) (ys:=[[AV.int .i64 (a:Nat)]]) (bytes:=8) rfl (by rw[dP,BN,Ah,Ay];omega);have y0:=(z4 0 (by omega) (by rw[g0];simp)).trans g0;have yo:Own H5 1 (.aV (H2.next+2) 1 (zH (X++[a]))) (zH (X++[a])):=.inr ⟨H2.next,rfl,by omega,z3⟩;have hna:=hl _ (Ai hal);refine aH ?_;refine bS ?_;simp only[↓zP,zJ,seval,w7,w8];rw[eL];simp only[z1,bP,seval];refine bT ?_;rw[show zH X++[[AV.int .i64 (a:Int)]]=zH (X++[a]) from by simp[zH]];refine bS ?_;simp only[↓zP,zG,seval];refine bT ?_;refine aJ fun K2 cK=>?_;simp only[↓zP,zJ,seval];refine bG [11] (fun k vs H'=>H'=H5/\vs=[.int .i64 (if k<=b then -1 else(b:Int))]) 0 (b+1) (Bb _) (by omega) (by decide) ?_ ?_ ?_ ?_ ?_
  · simp only[zB,seval]
  · exact⟨rfl,by simp only[sm,zB,seval];rw[if_pos (Bb _)]⟩
  · rintro k f5 H6 h0 hkb WY e5 ⟨rfl,YI⟩;simp only[zM] at YI;have u0:f5 0=.aV 0 3 (bF l):=by rw[WY 0 rfl];simp only[zB,seval];exact w0
    by_cases h1:k<=b
    · rw[if_pos h1] at YI;have YB:decide ((k:Int)<(l.length:Int))=true:=Al (by omega);have d2:decide ((-1:Int)<0)=true:=rfl;simp only[↓zP,zG,seval,e5,u0,aL,YB,YI];exact⟨trivial,trivial,Ao AV.bool (Al (by omega)).symm⟩
    rw[if_neg h1] at YI;have d2:decide ((b:Int)<0)=false:=Ae (by omega);by_cases hx:k<l.length
    · have YB:decide ((k:Int)<(l.length:Int))=true:=Al (by omega);simp only[↓zP,zG,seval,e5,u0,aL,YB,YI,d2];exact⟨trivial,trivial,Ao AV.bool (Ae (by omega)).symm⟩
    have YB:decide ((k:Int)<(l.length:Int))=false:=Ae (by omega);simp only[↓zP,zG,seval,e5,u0,aL,YB];exact⟨trivial,trivial,Ao AV.bool (Ae (by omega)).symm⟩
  · rintro k f5 H6 h0 hkb WY e5 ⟨rfl,YI⟩;simp only[zM] at YI;have u0:f5 0=.aV 0 3 (bF l):=by rw[WY 0 rfl];simp only[zB,seval];exact w0
    have u2:f5 2=.int .i64 d:=(by rw[WY 2 rfl];simp only[zB,seval];exact w2);have u4:f5 4=.ref 0 0:=(by rw[WY 4 rfl];simp only[zB,seval];exact w4);have u8:f5 8=.int .i64 (a:Nat):=(by rw[WY 8 rfl];simp only[zB,seval];exact w8);have yG:k<l.length:=(by omega);have WX:=bY yG;have hga:=bY hal;have hnk:=hl _ (Ai yG);have hd:=qZ hq hnk hs;have SP:=aDy 0 hl hM (by omega) hq hs (d:=d) hna hnk;rw[if_pos (show k<=b by omega)] at YI
    have hpk:(decide (k≠a)&&NG n (fun i=>l.getD i V0) on a k)=decide (k=b)\/k∉on:=by
     by_cases VK:k∈on
     · left;by_cases pe:k=b
       · subst pe;rw[hp1];simp
       rw[hp2 k VK (by omega)];simp[pe]
     exact .inr VK
    have hVR:FB l n d l[a] l[k]=NG n (fun i=>l.getD i V0) on a k:=by rw[<-cG a hal,<-cG k yG,aJr,Wc]
    have hdk:aG.dot n l[k]=d->k∈on:=fun h=>bFk k yG (by rw[cG k yG];exact h);have bEr:k∈on->aG.dot n l[k]=d:=fun h=>by rw[<-Wc] at h;have :=(dN.1 h).2;rwa [cG k yG] at this
    generalize l[k]=x at *;generalize l[a]=y at *;refine aH ?_;refine aJ fun K3 EB=>?_;refine Dz ?_
    have no:∀f6:cU,f6 65=.bool false->f6 11=.int .i64 (-1)->k≠b->K3 f6 [] H6:=by intro f6 v65 v11 aHg;apply EB;simp only[↓zP,zJ,seval,v65];exact⟨trivial,by rw[v11,if_pos (show k+1<=b by omega)]⟩
    by_cases Mi:k=a
    · have tR:(((k:Nat):Int) != ((a:Nat):Int))=false:=by rw[Mi];simp
      have aHg:k≠b:=fun h=>by rw[<-h,Mi] at hp1;simp at hp1
      simp only[↓zP,zJ,seval,zD,e5,u8,tR];exact no _ (by simp only[zB,seval]) (by simp only[zB,seval];exact YI) aHg
    have tR:(((k:Nat):Int) != ((a:Nat):Int))=true:=(by rw[El];omega);simp only[↓zP,zJ,seval,zD,e5,u0,u4,u8,y0,tR,aB,aL,yG,WX,oL (aM n),oL (aM x)];refine eT (hd _) ?_;simp only[↓zP,zJ,seval,zD,u2];by_cases fw:aG.dot n x=d
    · have AL:(aG.dot n x==d)=true:=(by simp[fw]);have VK:=hdk fw
      have bFu:FB l n d y x=decide (k=b):=by
       rcases hpk with h|h
       · rw[hVR];simpa [Mi] using h
       exact absurd VK h
      rw[AL];apply EB;clear EB K3 no;refine CU true (by simp only[zB,seval]) (fun _=>?_) (fun h=>by cases h);refine bS ?_;refine Dz ?_;simp only[↓zP,zJ,seval,zD,e5,u0,u2,u4,u8,y0,aB,aL,yG,hal,WX,hga,oL (aM n),oL (aM x),oL (aM y)];refine eT (SP _) ?_;rw[bFu];simp only[↓zP,zJ,seval,zD];refine bT ?_;by_cases pe:k=b
      · have d3:=Al pe;simp only[↓zP,zJ,seval,d3,e5];exact⟨trivial,by rw[if_neg (by omega),pe]⟩
      have d3:=Ae pe;simp only[↓zP,zJ,seval,d3,YI];exact⟨trivial,by rw[if_pos (show k+1<=b by omega)]⟩
    have AL:(aG.dot n x==d)=false:=(by simp[fw]);have aHg:k≠b:=fun h=>fw (bEr (by rw[h];exact Tv));rw[AL];exact no _ (by simp only[zB,seval]) (by simp only[zB,seval];exact YI) aHg
  rintro f5 H6 WY ⟨rfl,YI⟩;simp only[zM] at YI;rw[if_neg (by omega)] at YI;have u10:f5 10=.int .i64 s0:=by rw[WY 10 rfl];simp only[zB,seval];exact w10
  have u7:f5 7=.aV (H2.next+2) 1 (zH (X++[a])):=WY 7 rfl;show K2 f5 [] _;apply cK;clear cK K2;by_cases him:i+1=m
  · have AL:(((b:Nat):Int)==((s0:Nat):Int))=true:=by rw[SK him];simp
    simp only[↓zP,zG,seval,YI,u10,AL];apply hK;clear hK K;simp only[↓zP,zG,seval,u7];refine Rx ?_;have hLe:L=X++[a]:=(by rw[hL,<-him];exact hrs);refine⟨.aV (H2.next+2) 1 (zH (X++[a])),0,rfl,fun nw=>?_⟩;rw[hLe];have DI:=FZ (X++[a]);simp[fT,jR,DI,HE]
  have AL:(((b:Nat):Int)==((s0:Nat):Int))=false:=by have :=bEy (by omega);rw[Ca];omega
  have d3:decide (((b:Nat):Int)<0)=false:=Ae (by omega);simp only[↓zP,zJ,seval,YI,u10,AL,d3];exact⟨m -(i+1),by omega,i+1,by omega,rfl,_,by rw[u7,hb],y0,by omega,by rw[hrs];exact yo⟩
 rcases ho with ⟨e1,e2⟩|⟨k,e1,e2,e3⟩
 · have hi0:i=0:=by
    have :=Ao List.length e2;rw[dP,BN] at this;simpa using this
   subst hi0;rw[e1] at v7;have YB:decide ((0:Int)<=(l.length:Int))=true:=Al (by omega);simp only[↓zP,zG,seval,v7,k0,aL];refine⟨fun _=>?_,fun h=>absurd (Int.natCast_nonneg _) h⟩;refine key _ ?_ ?_ ?_ ?_ ?_ ?_
   · simp only[zB,seval];exact k0
   · simp only[zB,seval];exact k2
   · simp only[zB,seval];exact k4
   · simp only[zB,seval];exact k10
   · simp only[zB,seval];rw[v7,e1]
   simp only[zB,seval];exact v8
 rw[e1] at v7;simp only[↓zP,zG,seval,v7,k0,aL,dP,BN,d1];refine key _ ?_ ?_ ?_ ?_ ?_ ?_
 · simp only[zB,seval];exact k0
 · simp only[zB,seval];exact k2
 · simp only[zB,seval];exact k4
 · simp only[zB,seval];exact k10
 · simp only[zB,seval];rw[v7,e1]
 simp only[zB,seval];exact v8
theorem Xc (tag:Nat) {l:List aG.V} {M B:Nat} (hl:∀v∈l,bM M v) (hM:M<=2^18) (hlen:l.length<=64) {n:aG.V} {d:Int} (hq:bM B n) (hs:3*(B*M)<2^62)
 {L:List Nat} (hP:Poly (fun i=>l.getD i V0) l.length n d L) (H:aA):
 Sg 203 [.aV tag 3 (bF l),.agg (bZ n),.int .i64 d] H (.ret (.aV 0 1 (zH L))) H:=(um hl hM hlen hq hs hP H).yB tag
theorem BR {q x:aG.V×Int}:∀{S:List (aG.V×Int)},x∈uZ q S↔x=q\/x∈S
 |[]=>by simp[uZ]
 |s::r=>by
  unfold uZ;split
  · simp
  rw[Aq,BR,Aq];constructor
  · rintro(h|h|h)
    · exact .inr (.inl h)
    · exact .inl h
    exact .inr (.inr h)
  rintro(h|h|h)
  · exact .inr (.inl h)
  · exact .inl h
  exact .inr (.inr h)
theorem Wi {q:aG.V×Int}:∀{S:List (aG.V×Int)},(S.Pairwise fun a b=>gW a.1 b.1)->(∀s∈S,s.1≠q.1)->(uZ q S).Pairwise fun a b=>gW a.1 b.1
 |[],_,_=>by simp[uZ]
 |s::r,h,bN=>by
  rw[Cr] at h;unfold uZ
  cases hv:uV q.1 s.1 with
  |true=>
   have hq:=CR.1 hv;rw[if_pos rfl,Cr];refine⟨fun x hx=>?_,Cr.2 h⟩
   rcases Aq.1 hx with rfl|hx
   · exact hq
   exact gW.trans hq (h.1 x hx)
  |false=>
   rw[if_neg (by decide),Cr]
   have hsq:gW s.1 q.1:=by
    rcases gW.total (bN s Au) with h1|h1
    · exact h1
    rw[CR.2 h1] at hv;cases hv
   refine⟨fun x hx=>?_,Wi h.2 fun x hx=>bN x (Aw _ hx)⟩
   rcases BR.1 hx with rfl|hx
   · exact hsq
   exact h.1 x hx
structure HR (l:List aG.V) (K:List (aG.V×Int)):Prop where
 TD:K.Pairwise fun a b=>gW a.1 b.1
 is:∀q∈K,qD (fun i=>l.getD i V0) l.length q.1 q.2
theorem HR.nodup {l:List aG.V} {K:List (aG.V×Int)} (h:HR l K):K.Nodup:=Hv (fun {a b} (h:gW a.1 b.1) (e:a=b)=>gW.qh b.1 (by rw[e] at h;exact h)) h.TD
theorem HR.len {l:List aG.V} {K:List (aG.V×Int)} (h:HR l K) (hl:l.length<=64):K.length<2^20:=by have h1:=DF (N:=l.length) (p:=fun i=>l.getD i V0) h.nodup h.is;have h2:l.length*(l.length*(l.length*2))<=64*(64*(64*2)):=Bv hl (Bv hl (Bv hl (Ak _)));omega
theorem HR.ins {l:List aG.V} {K:List (aG.V×Int)} (h:HR l K) {q:aG.V×Int} (hq:qD (fun i=>l.getD i V0) l.length q.1 q.2) (hk:(K.any fun x=>decide (x.1=q.1))=false):HR l (uZ q K) where
 TD:=Wi h.TD fun s hs e=>by rw[Fo] at hk;exact hk s hs (by simpa using e)
 is:=fun x hx=>by
  rcases BR.1 hx with rfl|hx
  · exact hq
  exact h.is x hx
theorem HR.known {l:List aG.V} {K:List (aG.V×Int)} (h:HR l K) {q:aG.V×Int} (hk:(K.any fun x=>decide (x.1=q.1))=true) (hq:qD (fun i=>l.getD i V0) l.length q.1 q.2):q∈K:=by
 obtain⟨x,hx,e⟩:=Cz.1 hk;have e:=Ea e;have VM:=h.is x hx;rw[e] at VM;have :=VM.uniq hq;have :x=q:=Prod.ext e this
 rwa [<-this]
def FK (L:aG.V×Int->List Nat) (H:aA) (v:AV) (K:List (aG.V×Int)):Prop:=
 (K=[]/\v=.aS)\/(K≠[]/\∃k,v=.aV (k+2) 5 (K.map (cQ L))/\k<H.next/\H.get k=some .tok)
theorem FK.aBz {L:aG.V×Int->List Nat} {H H':aA} {v:AV} {K:List (aG.V×Int)} (h:FK L H v K) (hn:H.next<=H'.next) (hk:∀k,k<H.next->H.get k=some .tok->H'.get k=some .tok):FK L H' v K:=by
 rcases h with h|⟨h,k,rfl,h1,h2⟩
 · exact .inl h
 exact .inr ⟨h,k,rfl,by omega,hk k h1 h2⟩
theorem FK.sound {L:aG.V×Int->List Nat} {H:aA} {v:AV} {K:List (aG.V×Int)} (h:FK L H v K) {f:FuncId} {rest:List AV} {H1 H2:aA} {out:Out} (hS:Sg f (AI L K::rest) H1 out H2):Sg f (v::rest) H1 out H2:=by
 rcases h with ⟨h1,rfl⟩|⟨h1,k,rfl,_,_⟩
 · rcases iV L K with ⟨_,e⟩|⟨h2,_⟩
   · rwa [e] at hS
   exact absurd h1 h2
 rcases iV L K with ⟨h2,_⟩|⟨_,e⟩
 · exact absurd h2 h1
 rw[e] at hS;exact hS.yB (k+2)
theorem FK.froze {L:aG.V×Int->List Nat} {f:FuncId} {args:List AV} (ha:bU args=true) {K:List (aG.V×Int)} (h:∃out H',(∃v,out=.ret v/\FK L H' v K)/\Sg f args ⟨0,.nil⟩ out H') (H:aA):Sg f args H (.ret (AI L K)) H:=by
 obtain⟨out,H',⟨v,rfl,hr⟩,hS⟩:=h;refine hS.frame dQ ha (tk:=none) (fun k' rS=>by cases rS) (n:=0) H ?_
 rcases hr with ⟨rfl,rfl⟩|⟨h1,k,rfl,_,_⟩
 · rfl
 have hf:dJ (K.map (cQ L))=true:=dF (qP L) _
 rcases iV L K with ⟨h2,_⟩|⟨_,e⟩
 · exact absurd h2 h1
 rw[e];simp[Out.av,fT,jR,hf,HE]
theorem NB {l:List aG.V} {M:Nat} (hl:∀v∈l,bM M v) (hM:M<=2^18) (hlen:l.length<=64) {S:List (aG.V×Int)} {L:aG.V×Int->List Nat} (hS:wS l S L):
 ∃out H',(∃v,out=.ret v/\FK L H' v S)/\Sg 152 [.aV 0 3 (bF l)] ⟨0,.nil⟩ out H':=by
 have Qp:Nat.blt 0 2=true:=rfl;refine gA fit aLu (Af rfl) ?_;unfold aFq;dsimp only;have cG:∀k (h:k<l.length),l.getD k V0=l[k]:=fun k h=>by simp[List.getD,h]
 simp only[↓zP,zG,seval];refine bG [3] (fun i vs H'=>cN H'/\∃v K,vs=[v]/\FK L H' v K/\HR l K/\iE (fun i=>l.getD i V0) l.length i 0 0 K) 0 l.length (Bb _) (by omega) (by decide) ?_ ?_ ?_ ?_ ?_
 · simp only[zB,seval]
 · refine⟨.nil 0,.aS,[],by simp only[sm,zB,seval],.inl ⟨rfl,rfl⟩,⟨.nil,fun q hq=>by cases hq⟩,.zero⟩
 · rintro i f H1 h0 hi hk e1 ⟨hf,w,K,hv,hR,hK,hT⟩;have f0:f 0=.aV 0 3 (bF l):=hk 0 rfl;simp only[↓zP,zG,seval,e1,f0,aL];exact tB (by omega)
 · rintro i f H1 h0 hi hk e1 ⟨hf,w,K,hv,hR,hK,hT⟩;simp only[zM] at hv;have f0:f 0=.aV 0 3 (bF l):=hk 0 rfl;have w1:IntKind.i64.wrap ((i:Int)+1)=((i+1:Nat):Int):=by rw[wrap_i64 (by omega) (by omega)];rfl
   refine aH ?_;simp only[↓zP,zJ,seval,e1,w1];refine bG [3] (fun j vs H'=>cN H'/\∃v K,vs=[v]/\FK L H' v K/\HR l K/\iE (fun i=>l.getD i V0) l.length i j 0 K) (i+1) l.length (by omega) (by omega) (by decide) ?_ ?_ ?_ ?_ ?_
   · simp only[zB,seval]
   · exact⟨hf,w,K,by simp only[sm,zB,seval,hv],hR,hK,hT.j0⟩
   · rintro j f2 H2 h0 hj dA e2 ⟨hf2,w2,K2,nJ,hR2,cK,hT2⟩;have k0:f2 0=.aV 0 3 (bF l):=(by rw[dA 0 rfl];simp only[zB,seval];exact f0);simp only[↓zP,zG,seval,e2,k0,aL];exact tB (by omega)
   · rintro j f2 H2 AE hj dA e2 ⟨hf2,w2,K2,nJ,hR2,cK,hT2⟩;simp only[zM] at nJ;have k0:f2 0=.aV 0 3 (bF l):=(by rw[dA 0 rfl];simp only[zB,seval];exact f0);have k4:f2 4=.int .i64 i:=(by rw[dA 4 rfl];simp only[zB,seval];exact e1);have wj2:IntKind.i64.wrap ((j:Int)+1)=((j+1:Nat):Int):=(by rw[wrap_i64 (by omega) (by omega)];rfl);refine aH ?_;simp only[↓zP,zJ,seval,e2,wj2];refine bG [3] (fun k vs H'=>cN H'/\∃v K,vs=[v]/\FK L H' v K/\HR l K/\iE (fun i=>l.getD i V0) l.length i j k K) (j+1) l.length (by omega) (by omega) (by decide) ?_ ?_ ?_ ?_ ?_
     · simp only[zB,seval]
     · exact⟨hf2,w2,K2,by simp only[sm,zB,seval,nJ],hR2,cK,hT2.k0⟩
     · rintro k f3 H3 h0 yG kR e3 ⟨hf3,w3,K3,SU,hR3,EB,hT3⟩;have u0:f3 0=.aV 0 3 (bF l):=(by rw[kR 0 rfl];simp only[zB,seval];exact k0);simp only[↓zP,zG,seval,e3,u0,aL];exact tB (by omega)
     · rintro k f3 H3 hjk yG kR e3 ⟨hf3,w3,K3,SU,hR3,EB,hT3⟩;simp only[zM] at SU;have u0:f3 0=.aV 0 3 (bF l):=(by rw[kR 0 rfl];simp only[zB,seval];exact k0);have u4:f3 4=.int .i64 i:=(by rw[kR 4 rfl];simp only[zB,seval];exact k4);have u5:f3 5=.int .i64 j:=(by rw[kR 5 rfl];simp only[zB,seval];exact e2);have BN:i<l.length:=(by omega);have Mh:j<l.length:=(by omega);have gi:=bY BN;have gj:=bY Mh;have gk:=bY yG;have ni:=hl _ (Ai BN);have nj:=hl _ (Ai Mh);have nk:=hl _ (Ai yG);have hnm:=b9 ni nj nk hM;have hMM:(M+M)*(M+M)<=2^19*2^19:=Bv (by omega) (by omega);have hBM:2*((M+M)*(M+M))*M<=2^39*2^18:=Bv (by omega) hM;have aWx:bM (2*((M+M)*(M+M))) (gB (aG.aT (aG.sub l[j] l[i]) (aG.sub l[k] l[i]))):=tT (jX (fM nj ni) (fM nk ni))
       have nP:eS (fun i=>l.getD i V0) i j k=(gB (aG.aT (aG.sub l[j] l[i]) (aG.sub l[k] l[i])),aG.dot (gB (aG.aT (aG.sub l[j] l[i]) (aG.sub l[k] l[i]))) l[i]):=by simp only[eS,vec,cG i BN,cG j Mh,cG k yG]
       have hcd:∀q,q∈iA (fun i=>l.getD i V0) i j k↔(eS (fun i=>l.getD i V0) i j k).1≠V0/\(q=eS (fun i=>l.getD i V0) i j k\/q=(aG.neg (eS (fun i=>l.getD i V0) i j k).1,-(eS (fun i=>l.getD i V0) i j k).2)):=fun q=>by
        unfold iA;by_cases hz:(eS (fun i=>l.getD i V0) i j k).1=V0
        · rw[if_pos hz];exact⟨fun h=>(by cases h),fun h=>absurd hz h.1⟩
        rw[if_neg hz,Aq,Bq];exact⟨fun h=>⟨hz,h⟩,fun h=>h.2⟩
       rw[nP] at hcd;generalize gB (aG.aT (aG.sub l[j] l[i]) (aG.sub l[k] l[i]))=n0 at *;generalize hBv:2*((M+M)*(M+M))=B at *;have hp:∀k (h:k<l.length),l.getD k V0=l[k]:=cG;refine aH ?_;refine bS ?_;refine nG 1 (by decide) hf3.at1 fun H4 n4 e4=>?_;simp only[↓zP,zJ,seval,zD,u0,u4,u5,e3,aB,aL,BN,Mh,yG,gi,gj,gk,oL (aM l[i]),oL (aM l[j]),oL (aM l[k])];refine eT (hnm _) ?_;simp only[↓zP,zJ,seval,zD,oL (aM n0)];refine bT ?_;generalize hX:(H4.set H3.next _).set H3.next _=H5;have y7:H5.get H3.next=some (.cells (bZ n0) false):=(by subst hX;rw[aA.aC,if_pos rfl]);have yn:H3.next<H5.next:=by subst hX;simp only[aA.aX];omega
       have yf:cN H5:=fun j hj=>by subst hX;simp only[aA.aX] at hj;rw[aA.aC,if_neg (by omega),aA.aC,if_neg (by omega),e4];exact hf3 j (by omega)
       have yr:FK L H5 w3 K3:=by refine hR3.aBz (by omega) fun k h1 h2=>?_;subst hX;rw[aA.aC,if_neg (by omega),aA.aC,if_neg (by omega),e4];exact h2
       clear hX;simp only[↓zP,zJ,seval]
       let nn:Nat->aG.V:=fun t=>if t=1 then aG.neg n0 else n0
       have bFn:∀t,bM B (nn t):=fun t=>by
        simp only[nn];split
        · exact JQ aWx
        exact aWx
       have bFo:∀t,nn t=V0↔n0=V0:=fun t=>by
        simp only[nn];split
        · constructor
          · intro h;exact Fs fun hc=>UP hc h
          intro h;rw[h];rfl
        exact Iff.rfl
       have aWg:∀t,t<2->n0≠V0->(nn t,aG.dot (nn t) l[i])∈iA (fun i=>l.getD i V0) i j k:=fun t ht hz=>by
        rw[hcd];refine⟨hz,?_⟩
        match t,ht with
        |0,_=>exact .inl rfl
        |1,_=>exact .inr (by simp only[nn,if_true,pP])
       refine bG [3] (fun t vs H'=>H'.get H3.next=some (.cells (bZ (nn t)) false)/\H3.next<H'.next/\cN H'/\∃v K',vs=[v]/\FK L H' v K'/\HR l K'/\(∀q∈K3,q∈K')/\∀u,u<t->n0≠V0->qD (fun i=>l.getD i V0) l.length (nn u) (aG.dot (nn u) l[i])->(nn u,aG.dot (nn u) l[i])∈K') 0 2 (by decide) (by decide) (by decide) ?_ ?_ ?_ ?_ ?_
       · simp only[zB,seval]
       · exact⟨y7,yn,yf,w3,K3,by simp only[sm,zB,seval,SU],yr,EB,fun q hq=>hq,fun u hu=>absurd hu (Ax _)⟩
       · rintro t f6 H6 h0 ht hk6 e6 ⟨g7,gn,gf,w6,K6,hv6,hR6,hK6,BP,xC⟩;simp only[↓zP,zG,seval,e6];exact tB (by omega)
       · rintro t f6 H6 h0 ht hk6 e6 ⟨g7,gn,gf,w6,K6,hv6,hR6,hK6,BP,xC⟩;simp only[zM] at hv6;have v0:f6 0=.aV 0 3 (bF l):=(by rw[hk6 0 rfl];simp only[zB,seval];exact u0);have v4:f6 4=.int .i64 i:=(by rw[hk6 4 rfl];simp only[zB,seval];exact u4);have v7:f6 7=.ref H3.next 0:=hk6 7 rfl;have hnB:=bFn t;have hnV:=bFo t;have bEl:=aWg t ht
         have aBj:nn (t+1)=aG.sub V0 (nn t):=by
          match t,ht with
          |0,_=>simp[nn,aG.neg,aG.sub,V0]
          |1,_=>simp[nn,aG.neg,aG.sub,V0]
         have hd:=qZ hnB ni (by omega)
         have aRp:∀K':List (aG.V×Int),(∀q∈K6,q∈K')->(n0≠V0->qD (fun i=>l.getD i V0) l.length (nn t) (aG.dot (nn t) l[i])->(nn t,aG.dot (nn t) l[i])∈K')->∀u,u<t+1->n0≠V0->qD (fun i=>l.getD i V0) l.length (nn u) (aG.dot (nn u) l[i])->(nn u,aG.dot (nn u) l[i])∈K':=fun K' h1 h2 u hu hz hF=>by
          by_cases e:u=t
          · subst e;exact h2 hz hF
          exact h1 _ (xC u (by omega) hz hF)
         rw[aBj];have ex:=fun H=>XV 0 hl (by omega) (n:=nn t) (d:=aG.dot (nn t) l[i]) hnB (by omega) H
         have hF:n0≠V0->(EH l (nn t,aG.dot (nn t) l[i])=true↔qD (fun i=>l.getD i V0) l.length (nn t) (aG.dot (nn t) l[i])):=fun hz=>by
          rw[JU];constructor
          · rintro⟨h1,h2⟩;exact yW BN Mh yG (bEl hz) h1 h2
          intro h;exact⟨h.le,h.lt⟩
         have kn:=fun H=>hR6.sound (ug L K6 (by have :=hK6.len hlen;omega) (nn t) H);have hsb:=xW (a:=V0) (b:=nn t) (A:=0) (B:=B) ⟨by decide,by decide,by decide⟩ hnB (by omega);generalize nn t=n at *;generalize fx:aG.dot n l[i]=d at *;refine aH ?_;refine bS ?_;refine Dz ?_;simp only[↓zP,zJ,seval,zD,v0,v4,v7,g7,aB,aL,BN,gi,oL (aM l[i]),oL (aM n)];refine eT (hd _) ?_;simp only[↓zP,zJ,seval,zD];refine fL ?_;simp only[↓zP,zJ,seval,hv6,v7,g7,oL (aM n)];refine bK (kn _) ?_;simp only[↓zP,zG,seval];refine fL ?_;simp only[↓zP,zJ,seval,v7,g7,oL (aM n),IG];refine bT ?_;refine aJ fun K7 hK7=>?_
         have fin:∀(f7:cU) (H7:aA) (w':AV) (K':List (aG.V×Int)),f7 3=w'->FK L H7 w' K'->f7 7=.ref H3.next 0->H7.get H3.next=some (.cells (bZ n) false)->H3.next<H7.next->cN H7->HR l K'->(∀q∈K6,q∈K')->(n0≠V0->qD (fun i=>l.getD i V0) l.length n d->(n,d)∈K')->K7 f7 [] H7:=by
          intro f7 H7 w' K' a3 ar a7 ag an af aK as1 as2;apply hK7;clear hK7 K7;simp only[↓zP,zJ,seval,a7,ag,oL (aM n)];rw[show [AV.int .i64 0,.int .i64 0,.int .i64 0]=bZ V0 from rfl];refine bK (hsb _) ?_;simp only[↓zP,zJ,seval,a7,ag,oL (aM n),oL (aM (aG.sub V0 n))]
          refine⟨trivial,an,af.set an _,w',K',by rw[a3],ar.aBz (by simp) (fun k h1 h2=>by
           rw[aA.aC];split
           · rename_i e;subst e;rw[ag] at h2;cases h2
           exact h2),aK,fun q hq=>as1 q (BP q hq),aRp K' as1 as2⟩
         cases hkn:K6.any fun q=>decide (q.1=n) with
         |true=>simp only[↓zP,zJ,seval];exact fin _ H6 w6 K6 (by simp only[zB,seval];exact hv6) hR6 (by simp only[zB,seval];exact v7) g7 gn gf hK6 (fun q hq=>hq) (fun _ hFq=>hK6.known (q:=(n,d)) hkn hFq)
         |false=>
          by_cases hz:n=V0
          · have d1:=Al hz;simp only[↓zP,zJ,seval,d1];exact fin _ H6 w6 K6 (by simp only[zB,seval];exact hv6) hR6 (by simp only[zB,seval];exact v7) g7 gn gf hK6 (fun q hq=>hq) (fun h=>absurd (hnV.1 hz) h)
          have d1:=Ae hz;have Mm:n0≠V0:=fun h=>hz (hnV.2 h);simp only[↓zP,zJ,seval,d1,v0,v7,g7,oL (aM n)];refine bK (ex _) ?_
          cases Tv:EH l (n,d) with
          |false=>
           simp only[↓zP,zG,seval]
           exact fin _ H6 w6 K6 (by simp only[zB,seval];exact hv6) hR6 (by simp only[zB,seval];exact v7) g7 gn gf hK6 (fun q hq=>hq) (fun _ hFq=>by
            have :=(hF Mm).2 hFq
            rw[Tv] at this;cases this)
          |true=>
           have hFq:=(hF Mm).1 Tv;have hqS:(n,d)∈S:=(hS.fl.mem (n,d)).2 hFq;have bFx:=fun H=>Xc 0 hl hM hlen (d:=d) hnB (by omega) (hS.po (n,d) hqS) H;have bFc:=fun H=>hR6.sound (bx L K6 (hK6.len hlen) (n,d) H);simp only[↓zP,zG,seval];refine Dz ?_;simp only[↓zP,zJ,seval,zD,hv6,v0,v7,g7,oL (aM n)];refine eT (bFx _) ?_;simp only[↓zP,zJ,seval,zD,bZ];rw[show [AV.int .i64 n.x,.int .i64 n.y,.int .i64 n.z,.int .i64 d,.aV 0 1 (zH (L (n,d)))]=cQ L (n,d) from rfl];refine HP (by decide) (by simp only[sm,zB,seval]) (bFc _) (by simp) (fun x hx hp=>?_) ?_
           · have hx7:x.2=H3.next:=by
              simp only[Aq,Bx,Em] at hx
              rcases hx with rfl|rfl<;>rfl
             rw[hx7,aA.aF,if_neg (by omega)]
           simp only[↓zP,zJ,seval,zD];exact fin _ (H6.alloc .tok) _ (uZ (n,d) K6) (by simp only[zB,seval]) (.inr ⟨fun h=>by have :=PJ (n,d) K6;rw[h] at this;simp at this,H6.next,rfl,by simp,by rw[aA.aF,if_pos rfl]⟩) (by simp only[zB,seval];exact v7) (by rw[aA.aF,if_neg (by omega)];exact g7) (by simp only[aA.bJ];omega) (gf.alloc _) (hK6.ins hFq hkn) (fun q hq=>BR.2 (.inr hq)) (fun _ _=>BR.2 (.inl rfl))
       rintro f6 H6 hk6 ⟨g7,gn,gf,w6,K6,hv6,hR6,hK6,BP,xC⟩;simp only[↓zP,seval];refine⟨gf,w6,K6,hv6,hR6,hK6,hT3.step BP fun q hq hF=>?_⟩;obtain⟨hz,h⟩:=(hcd q).1 hq
       rcases h with rfl|rfl
       · exact xC 0 (by decide) hz hF
       have :=xC 1 (by decide) hz (by simp only[nn,if_true,pP];exact hF);simpa only[nn,if_true,pP] using this
     rintro f3 H3 kR ⟨hf3,w3,K3,SU,hR3,EB,hT3⟩;simp only[↓zP,seval];exact⟨hf3,w3,K3,SU,hR3,EB,hT3.kN⟩
   rintro f2 H2 dA ⟨hf2,w2,K2,nJ,hR2,cK,hT2⟩;simp only[↓zP,seval];exact⟨hf2,w2,K2,nJ,hR2,cK,hT2.jN⟩
 rintro f H1 hk ⟨hf,w,K,hv,hR,hK,hT⟩;simp only[zM] at hv;have :K=S:=pD.uniq ⟨hT.all hK.is,hK.TD⟩ hS.fl;subst this;simp only[↓zP,seval,hv];refine Rx ?_;exact⟨w,rfl,hR⟩
theorem QF (tag:Nat) {l:List aG.V} {M:Nat} (hl:∀v∈l,bM M v) (hM:M<=2^18) (hlen:l.length<=64) {S:List (aG.V×Int)} {L:aG.V×Int->List Nat} (hS:wS l S L) (H:aA):
 Sg 152 [.aV tag 3 (bF l)] H (.ret (AI L S)) H:=(FK.froze (by simp only[sf,cE (show Nat.blt 0 2=true from rfl)]) (NB hl hM hlen hS) H).yB tag
theorem XW (tag:Nat) {l:List aG.V} {M:Nat} (hl:∀v∈l,bM M v) (hM:M<=2^18) (hlen:l.length<=64) {S:List (aG.V×Int)} {L:aG.V×Int->List Nat} (hS:wS l S L) (bN:S≠[]) (H:aA):
 Sg 152 [.aV tag 3 (bF l)] H (.ret (.aV (H.next+2) 5 (S.map (cQ L)))) (H.alloc .tok):=by
 refine(CV dQ (by simp only[sf,cE (show Nat.blt 0 2=true from rfl)]) (by simpa using bN) (dF (qP L) S) ?_ H).yB tag;obtain⟨out,H',⟨v,h1,h2⟩,hS'⟩:=NB hl hM hlen hS;refine⟨out,H',⟨v,h1,?_⟩,hS'⟩
 rcases h2 with ⟨h,_⟩|⟨_,k,e,h3,h4⟩
 · exact absurd h bN
 exact .inr ⟨k,e,h3,h4⟩
def xK (x:aG.V):List aG.V->List aG.V
 |[]=>[x]
 |o::r=>if uV x o then x::o::r else if o=x then o::r else o::xK x r
theorem UG {x:aG.V}:∀{S:List aG.V} {i:Nat},(∀s∈S.take i,uV x s=false/\s≠x)->xK x S=S.take i++xK x (S.drop i)
 |[],i,_=>by simp
 |s::r,0,_=>by simp
 |s::r,i+1,h=>by have h1:=h s (by simp);have ih:=UG (x:=x) (S:=r) (i:=i) fun y hy=>h y (by simp[hy]);rw[xK,h1.1,if_neg (by decide),if_neg h1.2,Dn,Gx,Ei,<-ih]
theorem Wj (x:aG.V):∀S:List aG.V,(xK x S).length<=S.length+1
 |[]=>Ak _
 |s::r=>by
  have :=Wj x r;unfold xK;split
  · simp
  split
  · simp
  simp;omega
theorem PK {x y:aG.V}:∀{S:List aG.V},y∈xK x S↔y=x\/y∈S
 |[]=>by simp[xK]
 |s::r=>by
  unfold xK;split
  · simp
  split
  · rename_i h;subst h;simp
  rw[Aq,PK,Aq];constructor
  · rintro(h|h|h)
    · exact .inr (.inl h)
    · exact .inl h
    exact .inr (.inr h)
  rintro(h|h|h)
  · exact .inr (.inl h)
  · exact .inl h
  exact .inr (.inr h)
theorem Wl {x:aG.V}:∀{S:List aG.V},S.Pairwise gW->(xK x S).Pairwise gW
 |[],_=>by simp[xK]
 |s::r,h=>by
  have h':=Cr.1 h;unfold xK
  cases hv:uV x s with
  |true=>
   have hq:=CR.1 hv;rw[if_pos rfl,Cr];refine⟨fun y hy=>?_,h⟩
   rcases Aq.1 hy with rfl|hy
   · exact hq
   exact gW.trans hq (h'.1 y hy)
  |false=>
   rw[if_neg (by decide)];by_cases he:s=x
   · rw[if_pos he];exact h
   rw[if_neg he,Cr]
   have hsq:gW s x:=by
    rcases gW.total he with h1|h1
    · exact h1
    rw[CR.2 h1] at hv;cases hv
   refine⟨fun y hy=>?_,Wl h'.2⟩
   rcases PK.1 hy with rfl|hy
   · exact hsq
   exact h'.1 y hy
theorem aDz {l C:List aG.V} (hlen:l.length<=64) (hC:Ord l C) (H:aA):
 Sg 151 [.aV 0 3 (bF l)] H (.ret (jQ 3 (bF C))) H:=by
 have Qp:Nat.blt 0 2=true:=rfl;refine dH fit dQ aLt (Af rfl) (by simp only[sf,cE Qp]) ?_ H;unfold aFp;dsimp only;simp only[↓zP,zG,seval];refine bG [3] (fun i vs H'=>∃v X,vs=[v]/\Own H' 3 v (bF X)/\(X=[]->v=.aS)/\X.Pairwise gW/\(∀y,y∈X↔y∈l.take i)/\X.length<=i) 0 l.length (Bb _) (by omega) (by decide) ?_ ?_ ?_ ?_ ?_
 · simp only[zB,seval]
 · exact⟨.aS,[],by simp only[sm,zB,seval],.nil _ _,fun _=>rfl,.nil,fun y=>by simp,Ak _⟩
 · rintro i f H1 h0 hi hk e1 ⟨v,X,hv,ho,hn,hs,hm,hl⟩;have f0:f 0=.aV 0 3 (bF l):=hk 0 rfl;simp only[↓zP,zG,seval,e1,f0,aL];exact tB (by omega)
 · rintro i f H1 h0 hi hk e1 ⟨v,X,hv,ho,hn,hs,hm,hl⟩;simp only[zM] at hv;have f0:f 0=.aV 0 3 (bF l):=hk 0 rfl;have AJ:(bF l).getD i []=bZ l[i]:=dT hi;have sH:l.take (i+1)=l.take i++[l[i]]:=by rw[Ap];simp[hi]
   rw[sH];generalize l[i]=x at *;have dx:(bZ x).length=3:=rfl;refine aH ?_;refine aJ fun K hK=>?_;simp only[↓zP,zG,seval];apply hK;clear hK K;refine aJ fun K hK=>?_;simp only[↓zP,zG,seval];apply hK;clear hK K;refine aJ fun K hK=>?_;simp only[↓zP,zJ,seval]
   obtain⟨tg,hX3⟩:∃tg,∀j,j<X.length->f 3=.aV tg 3 (bF X):=by
    rcases ho with ⟨_,h2⟩|⟨k,rS,_,_⟩
    · exact⟨0,fun j h=>by rw[show X=[] by simpa [bF] using h2] at h;exact absurd h (Ax _)⟩
    exact⟨k+2,fun j h=>by rw[hv,rS]⟩
   have push:∀(HA:aA) (w:AV) (Y:List aG.V) (y:aG.V),Own HA 3 w (bF Y)->Y.length<2^21->
    ∃H5,dU HA 3 24 false w [bZ y]=some (.aV (HA.next+2) 3 (bF (Y++[y])),H5)/\Own H5 3 (.aV (HA.next+2) 3 (bF (Y++[y]))) (bF (Y++[y])):=fun HA w Y y ho hY=>by
    obtain⟨H5,z1,z2,z3,z4,z5⟩:=Has.push (.inr ho) (ys:=[bZ y]) (bytes:=24) rfl (by simp only[bF,Ad,Ah,Ay];omega);have e:bF (Y++[y])=bF Y++[bZ y]:=(by simp only[bF,Ch,By,Iw]);exact⟨H5,by rw[z1,e],by rw[e];exact .inr ⟨HA.next,rfl,by omega,z3⟩⟩
   refine bG [5,6] (fun k vs H'=>∃w Y put,vs=[w,.bool put]/\Own H' 3 w (bF Y)/\(Y=[]->w=.aS)/\Y.length<=k+1/\(if put then Y++X.drop k=xK x X/\∀o∈X.drop k,o≠x else Y=X.take k/\∀s∈X.take k,uV x s=false/\s≠x)) 0 X.length (Bb _) (by omega) (by decide) ?_ ?_ ?_ ?_ ?_
   · simp only[zB,seval]
   · exact⟨.aS,[],false,by simp only[sm,zB,seval],.nil _ _,fun _=>rfl,by simp,by simp⟩
   · rintro k g H2 WT rS hkk e2 ⟨w,Y,put,hw,hoY,hnY,hlY,hp⟩;have g3:g 3=v:=by rw[hkk 3 rfl];simp only[zB,seval];exact hv
     rcases ho with ⟨h1,h2⟩|⟨k',h1,_,_⟩
     · have hX0:X=[]:=(by simpa [bF] using h2);subst hX0;simp only[↓zP,zG,seval,e2,g3,h1];exact⟨trivial,trivial,Ao AV.bool (Az.2 (by simp at rS;simp[rS]))⟩
     simp only[↓zP,zG,seval,e2,g3,h1,aL];exact tB (by omega)
   · rintro k g H2 WT rS hkk e2 ⟨w,Y,put,hw,hoY,hnY,hlY,hp⟩;simp only[zM] at hw;have g0:g 0=.aV 0 3 (bF l):=(by rw[hkk 0 rfl];simp only[zB,seval];exact f0);have g4:g 4=.int .i64 i:=(by rw[hkk 4 rfl];simp only[zB,seval];exact e1);have g3:g 3=.aV tg 3 (bF X):=(by rw[hkk 3 rfl];simp only[zB,seval];exact hX3 k rS);have WX:(bF X).getD k []=bZ X[k]:=dT rS;have dk:(bZ X[k]).length=3:=rfl;have hlX:(bF X).length=X.length:=aL _;have wO:(bF l).length=l.length:=aL _;have gw:(bZ x).take 3=bZ x:=rfl;have aHl:(bZ X[k]).take 3=bZ X[k]:=rfl;have gg:=Sz x X[k];have hXs:X.length<=64:=(by omega);have hdr:X.drop k=X[k]::X.drop (k+1):=Dm rS;have sH:X.take (k+1)=X.take k++[X[k]]:=by rw[Ap];simp[rS]
     have hDs:∀d∈X.drop (k+1),gW X[k] d:=by have :=hs.drop (i:=k);rw[hdr] at this;exact(Cr.1 this).1
     have hnp:(∀s∈X.take k,uV x s=false/\s≠x)->xK x X=X.take k++xK x (X[k]::X.drop (k+1)):=fun h=>by
      have :=UG h
      rwa [hdr] at this
     rw[hdr] at hp;rw[sH];have hTl:(X.take k).length<=k:=(by rw[Cb];exact Nat.min_le_left _ _);generalize X[k]=o at *;generalize X.take k=T at *;generalize X.drop (k+1)=D at *;refine aH ?_;refine bS ?_;refine Dz ?_;simp only[↓zP,zJ,seval,zD,g0,g3,g4,e2,aB,hlX,wO,hi,rS,AJ,WX,dx,dk,gw,aHl];refine eT (gg _) ?_;simp only[↓zP,zJ,seval,zD];refine bT ?_;refine aJ fun K1 hK1=>?_
     have key:∀(f':cU) (HA:aA) (w:AV) (Y:List aG.V) (NT:Bool),f' 5=w->f' 6=.bool NT->f' 0=.aV 0 3 (bF l)->f' 3=.aV tg 3 (bF X)->f' 4=.int .i64 i->f' 7=.int .i64 k->Own HA 3 w (bF Y)->(Y=[]->w=.aS)->Y.length<=k+1->
      (if NT then((o≠x/\Y++o::D=xK x X)\/(o=x/\Y++D=xK x X))/\∀d∈D,d≠x else Y=T/\∀s∈T++[o],uV x s=false/\s≠x)->K1 f' [] HA:=by
      intro f' HA w Y NT v5 v6 v0 v3 v4 v7 hY hYn hYl eK;apply hK1;clear hK1 K1;refine bS ?_;refine Dz ?_;simp only[↓zP,zJ,seval,zD,v0,v3,v4,v7,aB,hlX,wO,hi,rS,AJ,WX,dx,dk,gw,aHl,lY];refine bT ?_;by_cases hox:o=x
      · cases NT with
        |false=>simp only[Bj,Cm] at eK;exact absurd hox (eK.2 o (by simp)).2
        |true=>
         simp only[if_true] at eK;simp only[↓zP,zJ,seval,Al hox];refine⟨w,Y,true,by simp only[seval,v5,v6],hY,hYn,by omega,?_⟩;simp only[if_true]
         rcases eK.1 with h|h
         · exact absurd hox h.1
         exact⟨h.2,eK.2⟩
      obtain⟨H5,z1,z2⟩:=push HA w Y o hY (by omega);simp only[↓zP,zJ,seval,Ae hox,v5,v3,v7,aB,hlX,rS,WX,dk,oL dk];rw[eL];simp only[z1,bP,seval];refine⟨_,Y++[o],NT,by simp only[seval,v6],z2,fun h=>by simp at h,by simp;omega,?_⟩
      cases NT with
      |true=>
       simp only[if_true] at eK ⊢
       rcases eK.1 with h|h
       · exact⟨by rw[<-h.2];simp,eK.2⟩
       exact absurd h.1 hox
      |false=>simp only[Bj,Cm] at eK ⊢;rw[eK.1];exact⟨rfl,eK.2⟩
     clear hK1;refine aJ fun K2 cK=>?_;refine Dz ?_
     cases put with
     |true=>
      simp only[if_true] at hp;simp only[↓zP,zJ,seval,zD,hw,mM];apply cK;clear cK K2;simp only[↓zP,zG,seval]
      exact key _ H2 w Y true (by simp only[zB,seval];exact hw.1) (by simp only[zB,seval];exact hw.2) (by simp only[zB,seval];exact g0) (by simp only[zB,seval];exact g3) (by simp only[zB,seval];exact g4) (by simp only[zB,seval];exact e2) hoY hnY hlY (by
       simp only[if_true]
       exact⟨.inl ⟨hp.2 o (by simp),hp.1⟩,fun d hd=>hp.2 d (by simp[hd])⟩)
     |false=>
      simp only[Bj,Cm] at hp;obtain⟨hYT,dB⟩:=hp;have hX':=hnp dB
      cases hb:uV x o with
      |true=>have eQ:=CR.1 hb;obtain⟨H5,z1,z2⟩:=push H2 w Y x hoY (by omega);simp only[↓zP,zJ,seval,zD,hw];apply cK;clear cK K2;simp only[↓zP,zJ,seval,hw,g0,g4,aB,wO,hi,AJ,dx,oL dx];rw[eL];simp only[z1,bP,seval];refine key _ H5 _ (Y++[x]) true (by simp only[zB,seval]) (by simp only[zB,seval]) (by simp only[zB,seval];exact g0) (by simp only[zB,seval];exact g3) (by simp only[zB,seval];exact g4) (by simp only[zB,seval];exact e2) z2 (fun h=>by simp at h) (by simp[hYT];omega) ?_;simp only[if_true];refine⟨.inl ⟨fun h=>gW.qh _ (h▸eQ),?_⟩,fun d hd h=>gW.qh _ (h▸gW.trans eQ (hDs d hd))⟩;rw[hX',hYT,xK,if_pos hb];simp
      |false=>
       by_cases xd:x=o
       · obtain⟨H5,z1,z2⟩:=push H2 w Y x hoY (by omega);simp only[↓zP,zJ,seval,zD,hw,g0,g3,g4,e2,aB,hlX,rS,WX,dk,aHl,wO,hi,AJ,dx,gw,lY,Al xd];apply cK;clear cK K2;simp only[↓zP,zJ,seval,hw,g0,g4,aB,wO,hi,AJ,dx,oL dx];rw[eL];simp only[z1,bP,seval];refine key _ H5 _ (Y++[x]) true (by simp only[zB,seval]) (by simp only[zB,seval]) (by simp only[zB,seval];exact g0) (by simp only[zB,seval];exact g3) (by simp only[zB,seval];exact g4) (by simp only[zB,seval];exact e2) z2 (fun h=>by simp at h) (by simp[hYT];omega) ?_;simp only[if_true];refine⟨.inr ⟨xd.symm,?_⟩,fun d hd h=>gW.qh _ (h▸xd▸hDs d hd)⟩;rw[hX',hYT,xK,hb,if_neg (by decide),if_pos xd.symm,xd];simp
       simp only[↓zP,zJ,seval,zD,hw,g0,g3,g4,e2,aB,hlX,rS,WX,dk,aHl,wO,hi,AJ,dx,oL dx,lY,Ae xd];apply cK;clear cK K2;simp only[↓zP,zG,seval];refine key _ H2 w Y false (by simp only[zB,seval];exact hw.1) (by simp only[zB,seval];exact hw.2) (by simp only[zB,seval];exact g0) (by simp only[zB,seval];exact g3) (by simp only[zB,seval];exact g4) (by simp only[zB,seval];exact e2) hoY hnY hlY ?_;simp only[Bj,Cm];refine⟨hYT,fun s EG=>?_⟩
       rcases As.1 EG with h|h
       · exact dB s h
       rw[Bq] at h;subst h;exact⟨hb,fun h=>xd h.symm⟩
   rintro g H2 hkk ⟨w,Y,put,hw,hoY,hnY,hlY,hp⟩;simp only[zM] at hw;have g0:g 0=.aV 0 3 (bF l):=(by rw[hkk 0 rfl];simp only[zB,seval];exact f0);have g4:g 4=.int .i64 i:=(by rw[hkk 4 rfl];simp only[zB,seval];exact e1);have wO:(bF l).length=l.length:=aL _;have gw:(bZ x).take 3=bZ x:=rfl;rw[Kb,Bz,Ar] at hp
   have done:∀(HA:aA) (w':AV) (Y':List aG.V),Own HA 3 w' (bF Y')->(Y'=[]->w'=.aS)->Y'=xK x X->∃v X',[w']=[v]/\Own HA 3 v (bF X')/\(X'=[]->v=.aS)/\X'.Pairwise gW/\(∀y,y∈X'↔y∈l.take i++[x])/\X'.length<=i+1:=fun HA w' Y' h1 h2 h3=>⟨w',Y',rfl,h1,h2,h3▸Wl hs,fun y=>by rw[h3,PK,As,Bq,hm];exact Or.comm,by have :=Wj x X;rw[h3];omega⟩
   simp only[fW];apply hK;clear hK K
   cases put with
   |true=>simp only[if_true] at hp;simp only[↓zP,zJ,seval,hw];exact done H2 w Y hoY hnY hp.1
   |false=>simp only[Bj,Cm] at hp;obtain⟨H5,z1,z2⟩:=push H2 w Y x hoY (by omega);simp only[↓zP,zJ,seval,hw,g0,g4,aB,wO,hi,AJ,dx,oL dx];rw[eL];simp only[z1,bP,seval];refine done H5 _ _ z2 (fun h=>by simp at h) ?_;have :=UG (x:=x) (S:=X) (i:=X.length) (by rw[Ar];exact hp.2);rw[this,Ar,Kb,hp.1];rfl
 rintro f H1 hk ⟨v,X,hv,ho,hn,hs,hm,hl⟩;simp only[zM] at hv;rw[Ar] at hm;have hXC:X=C:=Ord.uniq ⟨hs,hm⟩ hC;subst hXC;simp only[↓zP,seval,hv];refine Rx ?_;refine⟨v,0,rfl,?_⟩
 rcases ho with ⟨rfl,h2⟩|⟨k,rfl,_,_⟩
 · rw[show X=[] by simpa [bF] using h2];exact fun _=>rfl
 have bN:X≠[]:=fun h=>by cases hn h
 have DI:dJ (bF X)=true:=by have :=cE Qp X;simpa [AV.free] using this
 have AM:jQ 3 (bF X)=.aV 0 3 (bF X):=by simp[jQ,bF,bN]
 intro nw;rw[AM];simp[fT,jR,DI,HE]
theorem cc (tag:Nat) {l C:List aG.V} (hlen:l.length<=64) (hC:Ord l C) (H:aA):
 Sg 151 [.aV tag 3 (bF l)] H (.ret (jQ 3 (bF C))) H:=(aDz hlen hC H).yB tag
theorem Xe (H:aA):Sg 151 [.aS] H (.ret .aS) H:=by
 refine So aLt (by simp only[sf]) ?_ H;unfold aFp;dsimp only;simp only[↓zP,zG,seval];refine bG [3] (fun i vs H'=>vs=[.aS]) 0 0 (Bb _) (by omega) (by decide) ?_ ?_ ?_ ?_ ?_
 · simp only[zB,seval]
 · simp only[sm,zB,seval]
 · rintro i f H1 h0 hi hk e1 hv;have f0:f 0=.aS:=hk 0 rfl;simp only[↓zP,zG,seval,e1,f0];exact tB (by omega)
 · rintro i f H1 h0 hi hk;exact absurd hi (Ax _)
 rintro f H1 hk hv;simp only[zM] at hv;simp only[↓zP,seval,hv];refine Rx ?_;rfl
theorem NA (H:aA):Sg 152 [.aS] H (.ret .aS) H:=by
 refine So aLu (by simp only[sf]) ?_ H;unfold aFq;dsimp only;simp only[↓zP,zG,seval];refine bG [3] (fun i vs H'=>vs=[.aS]) 0 0 (Bb _) (by omega) (by decide) ?_ ?_ ?_ ?_ ?_
 · simp only[zB,seval]
 · simp only[sm,zB,seval]
 · rintro i f H1 h0 hi hk e1 hv;have f0:f 0=.aS:=hk 0 rfl;simp only[↓zP,zG,seval,e1,f0];exact tB (by omega)
 · rintro i f H1 h0 hi hk;exact absurd hi (Ax _)
 rintro f H1 hk hv;simp only[zM] at hv;simp only[↓zP,seval,hv];refine Rx ?_;rfl
theorem aUv {l C:List aG.V} (hlen:l.length<2^30) (hC:Ord l C) {S:List (aG.V×Int)} {L:aG.V×Int->List Nat} (hS:wS C S L) (H:aA):
 Sg 93 [.aV 0 3 (bF l)] H (.ret (.agg [(iD l C S L).1,.int .i64 (iD l C S L).2])) H:=by
 have Qp:Nat.blt 0 2=true:=rfl;refine dH fit dQ bBv (Af rfl) (by simp only[sf,cE Qp]) ?_ H;unfold W93;dsimp only;refine bS ?_;simp only[↓zP,zG,seval];refine fL ?_;simp only[↓zP,zJ,seval,aL];refine⟨fun h=>?_,fun hle=>?_⟩
 · have ZN:64<l.length:=by omega
   refine Rx ?_;rw[show iD l C S L=(.aS,2) from if_pos ZN];exact⟨_,2,rfl,fun nw=>rfl⟩
 have ZN:¬(64<l.length):=by omega
 refine fL ?_;simp only[↓zP,zG,seval];refine bG [] (fun i _ H=>(∀v∈l.take i,ib v=true)/\H.get 0=some (.cells [.aS,.int .i64 0] false)/\1<=H.next) 0 l.length (Bb _) (by omega) (by decide) ?_ ?_ ?_ ?_ ?_
 · simp only[zB,seval]
 · exact⟨fun v hv=>by simp at hv,by simp only[zI,seval],by simp only[zI,seval]⟩
 · rintro i f H1 h0 hi hk e1 ⟨gD,g0,hn⟩;have f0:f 0=.aV 0 3 (bF l):=hk 0 rfl;simp only[↓zP,zG,seval,e1,f0,aL];exact tB (by omega)
 · rintro i f H1 h0 hi hk e1 ⟨gD,g0,hn⟩;have f0:f 0=.aV 0 3 (bF l):=hk 0 rfl;have f2:f 2=.ref 0 0:=hk 2 rfl;have hg:=bY hi;have uG:=Ai hi
   have hx:∀v,v∈l.take (i+1)->v∈l.take i\/v=l[i]:=fun v hv=>by
    rw[Ap,As] at hv
    rcases hv with h|h
    · exact .inl h
    simp[hi] at h;exact .inr h
   generalize l[i]=x at *;refine aH ?_;refine bS ?_;simp only[↓zP,zG,seval];refine bT ?_;refine bG [] (fun j _ H=>(∀c,c<j->¬(x.at c>262144)/\¬(x.at c< -262144))/\H.get 0=some (.cells [.aS,.int .i64 0] false)/\1<=H.next) 0 3 (Bb _) (by decide) (by decide) ?_ ?_ ?_ ?_ ?_
   · simp only[zB,seval]
   · exact⟨fun c hc=>absurd hc (Ax _),g0,hn⟩
   · rintro j g H2 WT hj dA e2 hJ;simp only[↓zP,zG,seval,e2];exact tB (by omega)
   · rintro j g H2 WT hj dA e2 ⟨hc,AA,Mj⟩;have u0:g 0=.aV 0 3 (bF l):=(by rw[dA 0 rfl];simp only[zB,seval];exact f0);have u2:g 2=.ref 0 0:=(by rw[dA 2 rfl];simp only[zB,seval];exact f2);have u3:g 3=.int .i64 i:=(by rw[dA 3 rfl];simp only[zB,seval];exact e1);have EF:j<=2:=by omega
     have GC:(x.at j>262144\/x.at j< -262144)->l.all ib=false:=fun h=>by rw[<-Gg,Ba];intro ha;have :=ha x uG;simp only[ib,Ba,Bi,Bh] at this;have :=this j hj;omega
     refine aH ?_;have Nc:1<=(List.drop j (bZ x)).length:=(by rw[Dy,aM];omega);have we:(List.drop j (bZ x)).getD 0 aD=.int .i64 (x.at j):=(by rw[<-iM x hj];simp[List.getD]);refine aJ fun K2 cK=>?_;by_cases c1:x.at j>262144
     · have d1:=Al c1;simp only[↓zP,zJ,seval,e2,u0,u3,aB,aL,hi,hg,hj,Nc,we,d1];apply cK;clear cK K2;simp only[↓zP,zJ,seval,u2,AA];refine⟨rfl,_,by simp only[↓zP,zR,seval,u2];rfl,?_⟩;rw[show iD l C S L=(.aS,1) from (if_neg ZN).trans (if_pos (GC (by omega)))];exact⟨_,2,rfl,fun nw=>rfl⟩
     have d1:=Ae c1;by_cases c2:x.at j< -262144
     · have d2:=Al c2;simp only[↓zP,zJ,seval,e2,u0,u3,aB,aL,hi,hg,hj,Nc,we,d1,d2];apply cK;clear cK K2;simp only[↓zP,zJ,seval,u2,AA];refine⟨rfl,_,by simp only[↓zP,zR,seval,u2];rfl,?_⟩;rw[show iD l C S L=(.aS,1) from (if_neg ZN).trans (if_pos (GC (by omega)))];exact⟨_,2,rfl,fun nw=>rfl⟩
     have d2:=Ae c2;simp only[↓zP,zJ,seval,e2,u0,u3,aB,aL,hi,hg,hj,Nc,we,d1,d2];apply cK;clear cK K2;simp only[↓zP,zG,seval];refine⟨fun c h=>?_,AA,Mj⟩;by_cases hcj:c=j
     · subst hcj;exact⟨c1,c2⟩
     exact hc c (by omega)
   rintro f2 H2 dA ⟨hc,AA,Mj⟩;simp only[↓zP,seval];refine⟨fun v hv=>?_,AA,Mj⟩
   rcases hx v hv with h|rfl
   · exact gD v h
   simp only[ib,Ba,Bi,Bh];exact fun c h=>hc c h
 rintro f H1 hk ⟨gD,g0,hn⟩;rw[Ar] at gD;have dB:l.all ib=true:=Ba.2 gD;have f0:f 0=.aV 0 3 (bF l):=hk 0 rfl;have a2:f 2=.ref 0 0:=hk 2 rfl;simp only[↓zP,seval];refine bT ?_;have hNr:∀v∈C,bM (2^18) v:=fun v hv=>PH.1 (gD v ((hC.mem v).1 hv))
 have hCl:C.length<=64:=by have :=uK C l (Hv (fun {a b} (h:gW a b) (e:a=b)=>gW.qh b (by rw[e] at h;exact h)) hC.TD) fun v hv=>(hC.mem v).1 hv;omega
 have nP:∀H,Sg 152 [jQ 3 (bF C)] H (.ret (AI L S)) H:=fun H=>by
  by_cases hc:C=[]
  · subst hc
    have hSn:S=[]:=Fu.2 fun q hq=>by obtain⟨i,j,k,_,_,h,_⟩:=fU ((hS.fl.mem q).1 hq);exact absurd h (Ax _)
    subst hSn;exact NA H
  rw[show jQ 3 (bF C)=.aV 0 3 (bF C) from if_neg (by simpa [bF] using hc)];exact QF 0 hNr (Ak _) hCl hS H
 have SP:∀H,Sg 151 [.aV 0 3 (bF l)] H (.ret (jQ 3 (bF C))) H:=cc 0 (by omega) hC;refine bS ?_;simp only[↓zP,zG,seval,f0];refine bK (SP _) ?_;simp only[↓zP,zG,seval];refine fL ?_;simp only[↓zP,zG,seval];refine bK (nP _) ?_;simp only[↓zP,zG,seval];refine bT ?_;by_cases vz:S=[]
 · have hO:iD l C S L=(.aS,120):=(if_neg ZN).trans ((if_neg (by rw[dB];decide)).trans (if_pos (by rw[vz];decide)));refine aJ fun K hK=>?_;rw[show AI L S=.aS by rw[vz];rfl];simp only[↓zP,zJ,seval,a2,g0];refine⟨rfl,_,by simp only[↓zP,zR,seval,a2];rfl,?_⟩;rw[hO];exact⟨_,2,rfl,fun nw=>rfl⟩
 have hS4:¬S.length<4:=by have :=hS.fl.four (OO hC.TD) vz;omega
 have DI:AI L S=.aV 0 5 (S.map (cQ L)):=by
  rcases iV L S with ⟨h,_⟩|⟨_,h⟩
  · exact absurd h vz
  exact h
 have hCe:bF C≠[]:=fun h=>vz (Fu.2 fun q hq=>by
  obtain⟨i,j,k,_,_,h',_⟩:=fU ((hS.fl.mem q).1 hq);have :C.length=0:=by rw[<-aL,h];rfl
  omega)
 rw[show jQ 3 (bF C)=.aV 0 3 (bF C) from if_neg hCe,DI];have Tp:((S.length:Int)==0)=false:=Ca.2 fun h=>vz (Cs (by omega));refine bS ?_;simp only[↓zP,zG,seval,Ad,Tp];refine bT ?_;by_cases IU:64<S.length
 · have hO:iD l C S L=(.aS,2):=(if_neg ZN).trans ((if_neg (by rw[dB];decide)).trans ((if_neg hS4).trans (if_pos IU)));refine aJ fun K hK=>?_;simp only[↓zP,zJ,seval,a2,g0,Ad];refine⟨fun _=>?_,fun h=>absurd IU (by omega)⟩;refine⟨rfl,_,by simp only[↓zP,zR,seval,a2];rfl,?_⟩;rw[hO];exact⟨_,2,rfl,fun nw=>rfl⟩
 refine bS ?_;simp only[↓zP,zJ,seval,Ad];refine⟨fun h=>absurd h (by omega),fun _=>?_⟩;refine bT ?_;have hO:iD l C S L=(jQ 3 (bF (gQ C S L)),0):=(if_neg ZN).trans ((if_neg (by rw[dB];decide)).trans ((if_neg hS4).trans (if_neg IU)));rw[hO];refine bS ?_;simp only[↓zP,zJ,seval];refine bT ?_;refine aJ fun K hK=>?_;simp only[↓zP,zG,seval];have UR:¬(0=H1.next):=by omega
 generalize hX:(H1.alloc _).set H1.next _=H4;have y0:H4.get 0=some (.cells [.aS,.int .i64 0] false):=by subst hX;rw[aA.aC,if_neg UR,aA.aF,if_neg UR];exact g0
 have yb:H4.get H1.next=some (.cells [.aS,.int .i64 0] false):=by subst hX;rw[aA.aC,if_pos rfl]
 have yn:H4.next=H1.next+1:=by subst hX;simp only[aA.aX,aA.bJ]
 clear hX;generalize H1.next=ob at *;have fu:(S.map (cQ L)).length=S.length:=Ad ..;refine bG [] (fun i _ H'=>H'.get 0=some (.cells [.aS,.int .i64 0] false)/\ob<H'.next/\∃v,H'.get ob=some (.cells [v,.int .i64 0] false)/\Own H' 3 v (bF (((List.range i).filter (gG S L)).map fun k=>C.getD k V0))/\(((List.range i).filter (gG S L)).map (fun k=>C.getD k V0)=[]->v=.aS)) 0 C.length (Bb _) (by omega) (by decide) ?_ ?_ ?_ ?_ ?_
 · simp only[zB,seval]
 · exact⟨y0,by omega,.aS,yb,.nil _ _,fun _=>rfl⟩
 · rintro i f2 H2 h0 hi dA e2 _;have u5:f2 5=.aV 0 3 (bF C):=dA 5 rfl;simp only[↓zP,zG,seval,e2,u5,aL];exact tB (by omega)
 · rintro i f2 H2 h0 hi dA e2 ⟨q0,qn,v,qv,qo,qe⟩;have u5:f2 5=.aV 0 3 (bF C):=dA 5 rfl;have u6:f2 6=.aV 0 5 (S.map (cQ L)):=dA 6 rfl;have u7:f2 7=.ref ob 0:=dA 7 rfl;refine aH ?_;refine bS ?_;simp only[↓zP,zG,seval];refine bT ?_;refine aJ fun K hK=>?_;simp only[↓zP,zG,seval];refine bG [9] (fun k vs H'=>H'=H2/\vs=[.bool ((S.take k).any fun q=>(L q).contains i)]) 0 S.length (Bb _) (by omega) (by decide) ?_ ?_ ?_ ?_ ?_
   · simp only[zB,seval]
   · exact⟨rfl,by simp only[sm,zB,seval];rfl⟩
   · rintro k g H3 h0 rS kR e3 _;have w6:g 6=.aV 0 5 (S.map (cQ L)):=(by rw[kR 6 rfl];simp only[zB,seval];exact u6);simp only[↓zP,zG,seval,e3,w6,fu];exact tB (by omega)
   · rintro k g H3 h0 rS kR e3 ⟨rfl,hv⟩;simp only[zM] at hv;have w6:g 6=.aV 0 5 (S.map (cQ L)):=(by rw[kR 6 rfl];simp only[zB,seval];exact u6);have w8:g 8=.int .i64 i:=(by rw[kR 8 rfl];simp only[zB,seval];exact e2);have hgq:(S.map (cQ L)).getD k []=cQ L S[k]:=dT rS
     have sH:((S.take (k+1)).any fun q=>(L q).contains i)=(((S.take k).any fun q=>(L q).contains i)||(L S[k]).contains i):=by rw[Ap,Jn];simp[rS]
     have hqS:=Ai rS;rw[sH];generalize S[k]=q at *;generalize ((S.take k).any fun q=>(L q).contains i)=b0 at *
     have vw:(L q).length<2^30:=by obtain⟨s,r,m,e,W,h⟩:=(hS.po _ hqS).ex;rw[h,Ad,Bs];have h1:=W.le;have h2:=Dj (fun k=>decide (aG.dot q.1 (C.getD k V0)=q.2)) (List.range C.length);rw[Bs] at h2;have h3:(jP (fun i=>C.getD i V0) C.length q.1 q.2).length<=C.length:=h2;omega
     have d5:(cQ L q).length=5:=rfl;have d4:(List.drop 4 (cQ L q)).getD 0 aD=.aV 0 1 (zH (L q)):=rfl;have dl4:1<=(List.drop 4 (cQ L q)).length:=Ak _;refine aH ?_;refine bS ?_;simp only[↓zP,zG,seval];refine bT ?_;refine bG [9] (fun c vs H'=>H'=H3/\vs=[.bool (b0||((L q).take c).contains i)]) 0 (L q).length (Bb _) (by omega) (by decide) ?_ ?_ ?_ ?_ ?_
     · simp only[zB,seval]
     · exact⟨rfl,by simp only[sm,zB,seval,hv];simp⟩
     · rintro c g2 H4 h0 hc Qn e4 ⟨rfl,_⟩;have x6:g2 6=.aV 0 5 (S.map (cQ L)):=(by rw[Qn 6 rfl];simp only[zB,seval];exact w6);have x10:g2 10=.int .i64 k:=(by rw[Qn 10 rfl];simp only[zB,seval];exact e3);simp only[↓zP,zG,seval,e4,x6,x10,aB,fu,rS,hgq,d4,dl4,dP];exact tB (by omega)
     · rintro c g2 H4 h0 hc Qn e4 ⟨rfl,YH⟩;simp only[zM] at YH;have x6:g2 6=.aV 0 5 (S.map (cQ L)):=(by rw[Qn 6 rfl];simp only[zB,seval];exact w6);have x10:g2 10=.int .i64 k:=(by rw[Qn 10 rfl];simp only[zB,seval];exact e3);have x8:g2 8=.int .i64 i:=(by rw[Qn 8 rfl];simp only[zB,seval];exact w8);have hgp:=uM hc
       have htc:((L q).take (c+1)).contains i=(((L q).take c).contains i||(L q)[c]==i):=by
        rw[Du];simp only[Dt,List.contains_iff_mem,Dc,Ap,Ab hc,Ec,As,Bq];constructor
        · rintro(h|h)
          · exact .inl h
          exact .inr h.symm
        rintro(h|h)
        · exact .inl h
        exact .inr h.symm
       rw[htc,<-Bool.or_assoc];generalize (L q)[c]=p at *;generalize (b0||((L q).take c).contains i)=b1 at *;have YG:((p:Int)==(i:Int))=(p==i):=(by rw[Du,Dc,Dc];omega);refine aH ?_
       cases b1 with
       |true=>simp only[↓zP,zJ,seval,YH];exact⟨trivial,rfl⟩
       |false=>simp only[↓zP,zJ,seval,YH,x6,x10,x8,e4,aB,fu,rS,hgq,d4,dl4,dP,hc,hgp,YG];exact⟨trivial,rfl⟩
     rintro g2 H4 Qn ⟨rfl,YH⟩;rw[Ar] at YH;simp only[↓zP,seval];exact⟨trivial,YH⟩
   rintro g H3 kR ⟨rfl,hv⟩;rw[Ar] at hv;simp only[zM] at hv;have hP:(S.any fun q=>(L q).contains i)=gG S L i:=rfl;rw[hP] at hv;have w5:g 5=.aV 0 3 (bF C):=(by rw[kR 5 rfl];simp only[zB,seval];exact u5);have w7:g 7=.ref ob 0:=(by rw[kR 7 rfl];simp only[zB,seval];exact u7);have w8:g 8=.int .i64 i:=(by rw[kR 8 rfl];simp only[zB,seval];exact e2);have hg:=bY hi;have AJ:C.getD i V0=C[i]:=by simp[List.getD,hi]
   have aBa:((List.range (i+1)).filter (gG S L)).map (fun k=>C.getD k V0)=((List.range i).filter (gG S L)).map (fun k=>C.getD k V0)++(if gG S L i then [C[i]] else []):=by
    rw[Fj,Jr,Ch];congr 1;simp only[Ka,Kk];split
    · rw[By,AJ];rfl
    rfl
   have tS:(((List.range i).filter (gG S L)).map fun k=>C.getD k V0).length<=64:=by rw[Ad];have :=Dj (gG S L) (List.range i);rw[Bs] at this;omega
   simp only[↓zP,seval];apply hK;clear hK K;rw[aBa];generalize ((List.range i).filter (gG S L)).map (fun k=>C.getD k V0)=els at *;generalize C[i]=x at *
   cases hu:gG S L i with
   |false=>rw[hu] at hv;simp only[↓zP,zJ,seval,hv];exact⟨q0,qn,v,qv,qo,qe⟩
   |true=>
    rw[hu] at hv;simp only[↓zP,zG,seval,hv];obtain⟨H5,z1,z2,z3,z4,z5⟩:=Has.push (.inr qo) (ys:=[bZ x]) (bytes:=24) rfl (by rw[aL,Ah,Ay];omega);refine Dz ?_;have w2:=(z4 ob (by omega) (by rw[qv];simp)).trans qv;simp only[↓zP,zJ,seval,zD,w5,w7,w8,qv,aB,aL,hi,hg,oL (aM x)];rw[eL];simp only[z1,bP,zJ,seval,zD,w2];refine⟨by omega,(if_neg (by omega)).trans ((z4 0 (by omega) (by rw[q0];simp)).trans q0),by omega,_,rfl,?_,fun h=>?_⟩
    · rw[show bF (els++[x])=bF els++[bZ x] from by simp[bF]];exact .inr ⟨H3.next,rfl,by simp only[aA.aX];omega,by rw[aA.aC,if_neg (by omega)];exact z3⟩
    simp at h
 rintro f2 H2 dA ⟨q0,qn,v,qv,qo,qe⟩;have u2:f2 2=.ref 0 0:=by rw[dA 2 rfl];simp only[zB,seval];exact a2
 have u7:f2 7=.ref ob 0:=dA 7 rfl;simp only[↓zP,seval];apply hK;clear hK K;have hL:((List.range C.length).filter (gG S L)).map (fun k=>C.getD k V0)=gQ C S L:=rfl;rw[hL] at qo qe;simp only[↓zP,zJ,seval,u2,u7,qv,q0];refine⟨rfl,_,by simp only[↓zP,zR,seval,u2];rfl,?_⟩;refine⟨_,2,rfl,fun nw=>?_⟩
 rcases qo with ⟨rfl,h⟩|⟨k,rfl,h1,h2⟩
 · rw[h];rfl
 have bN:¬bF (gQ C S L)=[]:=fun h=>by have :=qe (by simpa [bF] using h);cases this
 rw[show jQ 3 (bF (gQ C S L))=.aV 0 3 (bF (gQ C S L)) from if_neg bN];have DI:dJ (bF (gQ C S L))=true:=dF cC _;simp[fT,Pb,jR,DI,HE,pY,AV.free]
theorem aDo (tag:Nat) {l C:List aG.V} (hlen:l.length<2^30) (hC:Ord l C) {S:List (aG.V×Int)} {L:aG.V×Int->List Nat} (hS:wS C S L) (H:aA):
 Sg 93 [.aV tag 3 (bF l)] H (.ret (.agg [(iD l C S L).1,.int .i64 (iD l C S L).2])) H:=(aUv hlen hC hS H).yB tag
theorem th (H:aA):Sg 93 [.aS] H (.ret (.agg [.aS,.int .i64 120])) H:=by
 refine So bBv (by simp only[sf]) ?_ H;unfold W93;dsimp only;refine bS ?_;simp only[↓zP,zG,Nat.reduceLT];refine fL ?_;simp only[↓zP,zJ,Nat.reduceLT,Nat.reduceEqDiff,Nat.reduceAdd];refine⟨fun h=>absurd h (by decide),fun _=>?_⟩;refine bT ?_;refine aJ fun K hK=>?_;simp only[↓zP,zG,Nat.reduceLT];refine bG [] (fun i _ H=>H.get 0=some (.cells [.aS,.int .i64 0] false)) 0 0 (Bb _) (by omega) (by decide) ?_ ?_ ?_ ?_ ?_
 · simp only[zB];rfl
 · simp only[zI]
 · rintro i f H1 h0 hi hk e1 g0;have f0:f 0=.aS:=hk 0 rfl;simp only[↓zP,zJ,Nat.reduceLT,Nat.reduceEqDiff,e1,f0];exact tB (by omega)
 · rintro i f H1 h0 hi hk;exact absurd hi (Ax _)
 rintro f H1 hk g0;have f0:f 0=.aS:=hk 0 rfl;have f2:f 2=.ref 0 0:=hk 2 rfl;simp only[↓zP];apply hK;clear hK K;refine bS ?_;simp only[↓zP,zG,Nat.reduceLT,f0];refine bK (Xe _) ?_;simp only[↓zP,zG,Nat.reduceLT];refine fL ?_;simp only[↓zP,zG,Nat.reduceLT];refine bK (NA _) ?_;simp only[↓zP,zG,Nat.reduceLT];refine bT ?_;refine aJ fun K hK=>?_;simp only[↓zP,zJ,Nat.reduceLT,Nat.reduceEqDiff,Nat.reduceAdd,f2,g0];refine⟨rfl,_,by simp only[↓zP,zR,Nat.reduceEqDiff,Nat.reduceAdd,f2,g0];rfl,?_⟩;rfl
theorem aJk {a b:List aG.V} (ha:a.length<2^30) (hb:b.length<2^30) (H:aA):
 Sg 94 [.aV 0 3 (bF a),.aV 0 3 (bF b)] H (.ret (.bool (decide (a=b)))) H:=by
 have Qp:Nat.blt 0 2=true:=rfl;refine So bIr (by simp only[sf,cE Qp]) ?_ H;unfold W94;dsimp only;refine bS ?_;simp only[↓zP,zG,Nat.reduceLT];refine bT ?_;refine aJ fun K hK=>?_;by_cases hl:a.length=b.length
 · have hd:((a.length:Int) != (b.length:Int))=false:=by simp[hl]
   simp only[↓zP,zJ,Nat.reduceLT,Nat.reduceEqDiff,aL,hd];apply hK;clear hK K;refine aJ fun K hK=>?_;simp only[↓zP,zG,Nat.reduceLT];refine bG [] (fun i _ H=>a.take i=b.take i) 0 a.length (Bb _) (by omega) (by decide) ?_ ?_ ?_ ?_ ?_
   · simp only[zB];rfl
   · rfl
   · rintro i f H1 h0 hi hk e1 _;have f0:f 0=.aV 0 3 (bF a):=hk 0 rfl;simp only[↓zP,zJ,Nat.reduceLT,Nat.reduceEqDiff,e1,f0,aL];exact tB (by omega)
   · rintro i f H1 h0 hi hk e1 hJ;have f0:f 0=.aV 0 3 (bF a):=hk 0 rfl;have f1:f 1=.aV 0 3 (bF b):=hk 1 rfl;have hib:i<b.length:=(by omega);have g1:=bY hi;have g2:=bY hib;have d1:(bZ a[i]).take 3=bZ a[i]:=rfl;have d2:(bZ b[i]).take 3=bZ b[i]:=rfl;refine aH ?_;refine bS ?_;refine Dz ?_;simp only[↓zP,zJ,Nat.reduceLT,Nat.reduceEqDiff,Nat.reduceAdd,zD,reduceCtorEq,e1,f0,f1,aB,aL,hi,hib,g1,g2,oL (aM a[i]),oL (aM b[i]),lY];refine bT ?_;by_cases he:a[i]=b[i]
     · simp only[↓zP,zJ,Al he];rw[Ap,Ap,hJ,Ab hi,Ab hib,he]
     simp only[↓zP,zJ,Nat.reduceLT,Ae he];refine Rx ?_;rw[Ae fun h=>he (by subst h;rfl)];rfl
   rintro f H1 hk hJ;rw[Ar,hl,Ar] at hJ;simp only[↓zP];apply hK;clear hK K;simp only[↓zP,zG,Nat.reduceLT];refine Rx ?_;rw[Al hJ];rfl
 have hd:((a.length:Int) != (b.length:Int))=true:=El.2 (by omega);simp only[↓zP,zJ,Nat.reduceLT,Nat.reduceEqDiff,aL,hd];refine Rx ?_;rw[Ae fun h=>hl (by rw[h])];rfl
theorem aDq (t1 t2:Nat) {a b:List aG.V} (ha:a.length<2^30) (hb:b.length<2^30) (H:aA):
 Sg 94 [.aV t1 3 (bF a),.aV t2 3 (bF b)] H (.ret (.bool (decide (a=b)))) H:=((aJk ha hb H).yB t1).aJu t2
theorem RW {tag:Nat} (ht:Nat.blt tag 2=true) {l C:List aG.V} (hlen:l.length<2^30) (hC:Ord l C) {S:List (aG.V×Int)} {L:aG.V×Int->List Nat} (hS:wS C S L) (H:aA):
 Sg 45 [.agg [.aV tag 3 (bF l)]] H (.ret (.int .i64 (OS l C S L))) H:=by
 refine So bBi (by simp only[sf,cE ht]) ?_ H;unfold W45;dsimp only;have hH:=fun H=>aDo tag hlen hC hS H;unfold OS;have h0:=UC (l:=l) (C:=C) (S:=S) (L:=L);generalize iD l C S L=o at *;obtain⟨ov,oc⟩:=o;dsimp only at hH h0 ⊢;refine bS ?_;simp only[↓zP,zJ,Nat.reduceLT];refine fL ?_;simp only[↓zP,zJ,Nat.reduceLT,Nat.reduceEqDiff];refine bK (hH _) ?_;simp only[↓zP,zJ,Nat.reduceLT,Nat.reduceEqDiff,Nat.reduceAdd];refine bT ?_;by_cases hc:oc=0
 · subst hc;obtain⟨hSn,rfl,aWt⟩:=h0 rfl;have bN:=PD hS hSn;have kY:jQ 3 (bF (gQ C S L))=.aV 0 3 (bF (gQ C S L)):=if_neg (by simpa [bF] using bN);rw[kY]
   have wO:(gQ C S L).length<2^30:=by have hCl:C.length<=l.length:=uK C l (Hv (fun {a b} (h:gW a b) (e:a=b)=>gW.qh b (by rw[e] at h;exact h)) hC.TD) fun v hv=>(hC.mem v).1 hv;have :=Dj (gG S L) (List.range C.length);rw[Bs] at this;simp only[gQ,Ad];omega
   have hb:((0:Int)==0)=true:=rfl;have hE:=fun H=>aDq 0 tag wO hlen H;refine aJ fun K hK=>?_;simp only[↓zP,zJ,Nat.reduceLT,Nat.reduceEqDiff,Nat.reduceAdd,Nat.reduceLeDiff,hb];refine bK (hE _) ?_;by_cases he:gQ C S L=l
   · have hd:=Al he;simp only[↓zP,zJ,Nat.reduceLT,Nat.reduceEqDiff,hd];apply hK;clear hK K;simp only[↓zP,zJ,Nat.reduceLT,Nat.reduceEqDiff,Nat.reduceAdd];refine Rx ?_;rw[if_neg (fun h=>h.2 he)];rfl
   have hd:=Ae he;simp only[↓zP,zJ,Nat.reduceLT,Nat.reduceEqDiff,hd];refine Rx ?_;rw[if_pos ⟨trivial,he⟩];rfl
 have hb:(oc==0)=false:=Ca.2 hc;refine bS ?_;simp only[↓zP,zJ,Nat.reduceLT,Nat.reduceEqDiff,Nat.reduceAdd,hb];refine bT ?_;simp only[↓zP,zJ,Nat.reduceLT,Nat.reduceEqDiff,Nat.reduceAdd];refine Rx ?_;rw[if_neg (fun h=>hc h.1)];rfl
theorem QI (H:aA):Sg 45 [.agg [.aS]] H (.ret (.int .i64 120)) H:=by
 refine So bBi (by simp only[sf]) ?_ H;unfold W45;dsimp only;refine bS ?_;simp only[↓zP,zJ,seval];refine fL ?_;simp only[↓zP,zJ,seval];refine bK (th _) ?_;simp only[↓zP,zJ,seval];refine bT ?_;have hb:((120:Int)==0)=false:=by decide
 refine bS ?_;simp only[↓zP,zJ,seval,hb];refine bT ?_;simp only[↓zP,zJ,seval];refine Rx ?_;rfl
theorem QH {p:AV×List aG.V} (h:mP p) (hlen:p.2.length<2^30) (H:aA):Sg 45 [.agg [p.1]] H (.ret (.int .i64 (oX p.2))) H:=by
 rcases h with ⟨h1,h2⟩|h1
 · rw[h1,h2,IE];exact QI H
 rw[h1];exact RW rfl hlen (xY _) (nO (xY _).TD) H
theorem bg (tag:Nat) {l:List aG.V} {M:Nat} (hl:∀v∈l,bM M v) (hM:M<=2^18) (hlen:l.length<=64) {S:List (aG.V×Int)} {L:aG.V×Int->List Nat} (hS:wS l S L) (ht:Nat.blt tag 2=true) (H:aA):
 Sg 95 [.agg [.aV tag 3 (bF l)]] H (.ret (AI L S)) H:=by
 refine Sp bBw (by simp only[sf,cE ht]) (by simp only[LY]) ?_ H;unfold W95;dsimp only;have hF:=fun H=>QF tag hl hM hlen hS H;simp only[↓zP,zJ,seval];refine bK (hF _) ?_;simp only[↓zP,zG,seval];refine Rx ?_;rfl
theorem XQ (tag:Nat) {l:List aG.V} {M:Nat} (hl:∀v∈l,bM M v) (hM:M<=2^18) (hlen:l.length<=64) {S:List (aG.V×Int)} {L:aG.V×Int->List Nat} (hS:wS l S L) (bN:S≠[]) (ht:Nat.blt tag 2=true) (H:aA):
 Sg 95 [.agg [.aV tag 3 (bF l)]] H (.ret (.aV (H.next+2) 5 (S.map (cQ L)))) (H.alloc .tok):=by
 refine CV dQ (by simp only[sf,cE ht]) (by simpa using bN) (dF (qP L) S) ?_ H;refine gA fit bBw (Af rfl) ?_;unfold W95;dsimp only;have hF:=fun H=>XW tag hl hM hlen hS bN H;simp only[↓zP,zJ,seval];refine bK (hF _) ?_;simp only[↓zP,zJ,seval];refine Rx ?_;exact⟨_,rfl,.inr ⟨_,rfl,by simp,by rw[aA.aF,if_pos (by simp)]⟩⟩
def FN (on:List Nat) (m a b:Nat):Bool:=(List.range m).any fun i=>(on.getD i 0==a&&on.getD ((i+1)%on.length) 0==b)||(on.getD i 0==b&&on.getD ((i+1)%on.length) 0==a)
def Qw (S:List (aG.V×Int)) (L:aG.V×Int->List Nat) (a b:Nat):Bool:=S.any fun q=>FN (L q) (L q).length a b
def GP (S:List (aG.V×Int)) (L:aG.V×Int->List Nat) (a j:Nat):List (Int×Int):=((List.range j).filter fun b=>decide (a<b)&&Qw S L a b).map fun b:Nat=>(((a:Nat):Int),((b:Nat):Int))
def Qr (S:List (aG.V×Int)) (L:aG.V×Int->List Nat) (N i:Nat):List (Int×Int):=(List.range i).flatMap fun a=>GP S L a N
theorem XM (S:List (aG.V×Int)) (L:aG.V×Int->List Nat) (a j:Nat):(GP S L a j).length<=j:=by
 rw[GP,Ad];have :=Dj (fun b=>decide (a<b)&&Qw S L a b) (List.range j)
 rwa [Bs] at this
theorem jt (S:List (aG.V×Int)) (L:aG.V×Int->List Nat) (N i:Nat):(Qr S L N i).length<=i*N:=by
 have :=mA (fun a=>GP S L a N) N (fun a=>XM S L a N) (List.range i)
 rwa [Bs] at this
theorem aDl (S:List (aG.V×Int)) (L:aG.V×Int->List Nat) (a:Nat):GP S L a (a+1)=[]:=by
 have :((List.range (a+1)).filter fun b=>decide (a<b)&&Qw S L a b)=[]:=by rw[List.filter_eq_nil_iff];intro b hb;rw[Bi] at hb;rw[Ae (by omega)];simp
 rw[GP,this];rfl
theorem aUu {S:List (aG.V×Int)} {L:aG.V×Int->List Nat} {a j:Nat} (h:a<j):GP S L a (j+1)=GP S L a j++(if Qw S L a j then [((a:Int),(j:Int))] else []):=by simp only[GP];rw[Fj,Jr,Ch,Ka,Kk,Al h,Cq];cases Qw S L a j<;>rfl
theorem bDg (S:List (aG.V×Int)) (L:aG.V×Int->List Nat) (N i:Nat):Qr S L N (i+1)=Qr S L N i++GP S L i N:=by simp only[Qr];rw[Fj,Fa];simp
theorem aQq (on:List Nat) (m a b:Nat):FN on (m+1) a b=(FN on m a b||((on.getD m 0==a&&on.getD ((m+1)%on.length) 0==b)||(on.getD m 0==b&&on.getD ((m+1)%on.length) 0==a))):=by simp only[FN];rw[Fj,Jn];simp
theorem td {tag:Nat} (ht:Nat.blt tag 2=true) {l:List aG.V} {M:Nat} (hl:∀v∈l,bM M v) (hM:M<=2^18) (hlen:l.length<=64) {S:List (aG.V×Int)} {L:aG.V×Int->List Nat} (hS:wS l S L) (IU:S.length<=64) (H:aA):
 Sg 154 [.agg [.aV tag 3 (bF l)]] H (.ret (jQ 2 ((Qr S L l.length l.length).map pC))) H:=by
 refine dH fit dQ aYv (Af rfl) (by simp only[sf,cE ht]) ?_ H;unfold aOc;dsimp only;have hF:=fun H=>bg tag hl hM hlen hS ht H;have hLw:=kd hS hlen;simp only[↓zP,zJ,seval];refine bK (hF _) ?_;simp only[↓zP,zG,seval];have eQ:(bF l).length=l.length:=aL _;refine bG [3] (fun i vs H'=>H'.get 0=some (.cells [.aV tag 3 (bF l)] false)/\1<=H'.next/\∃v,vs=[v]/\Own H' 2 v ((Qr S L l.length i).map pC)/\(Qr S L l.length i=[]->v=.aS)) 0 l.length (Bb _) (by omega) (by decide) ?_ ?_ ?_ ?_ ?_
 · simp only[zB,seval]
 · exact⟨by simp only[zI,seval],by simp only[zI,seval],.aS,by simp only[sm,zB,seval],.nil _ _,fun _=>rfl⟩
 · rintro i f H1 h0 hi hk e1 ⟨g0,_⟩;have f1:f 1=.ref 0 0:=hk 1 rfl;simp only[↓zP,zJ,seval,e1,f1,g0,eQ];exact tB (by omega)
 · rintro i f H1 h0 hi hk e1 ⟨g0,gn,v,hv,ho,hn⟩;simp only[zM] at hv;have f1:f 1=.ref 0 0:=hk 1 rfl;have f4:f 4=AI L S:=hk 4 rfl;have wi:IntKind.i64.wrap ((i:Int)+1)=((i+1:Nat):Int):=(wrap_i64 (by omega) (by omega)).trans (by omega);refine aH ?_;simp only[↓zP,zJ,seval,e1,wi];refine bG [3] (fun j vs H'=>H'.get 0=some (.cells [.aV tag 3 (bF l)] false)/\1<=H'.next/\∃v,vs=[v]/\Own H' 2 v ((Qr S L l.length i++GP S L i j).map pC)/\(Qr S L l.length i++GP S L i j=[]->v=.aS)) (i+1) l.length (by omega) (by omega) (by decide) ?_ ?_ ?_ ?_ ?_
   · simp only[zB,seval]
   · exact⟨g0,gn,v,by simp only[sm,zB,seval,hv],by rw[aDl,Bz];exact ho,by rw[aDl,Bz];exact hn⟩
   · rintro j f2 H2 h0 hj dA e2 ⟨AA,_⟩;have u1:f2 1=.ref 0 0:=(by rw[dA 1 rfl];simp only[zB,seval];exact f1);simp only[↓zP,zJ,seval,e2,u1,AA,eQ];exact tB (by omega)
   · rintro j f2 H2 AE hj dA e2 ⟨AA,gn',v2,nJ,RO,DK⟩;simp only[zM] at nJ;have u4:f2 4=AI L S:=(by rw[dA 4 rfl];simp only[zB,seval];exact f4);have u5:f2 5=.int .i64 i:=by rw[dA 5 rfl];simp only[zB,seval];exact e1
     have hXl:(Qr S L l.length i++GP S L i j).length<2^20:=by have h1:=jt S L l.length i;have h2:=XM S L i j;have h3:i*l.length<=64*64:=Bv (by omega) hlen;rw[An];omega
     refine aH ?_;refine bS ?_;simp only[↓zP,zG,seval];refine bT ?_;refine aJ fun K hK=>?_;simp only[↓zP,zJ,seval];refine bG [7] (fun k vs H'=>H'=H2/\vs=[.bool ((S.take k).any fun q=>FN (L q) (L q).length i j)]) 0 S.length (Bb _) (by omega) (by decide) ?_ ?_ ?_ ?_ ?_
     · simp only[zB,seval]
     · exact⟨rfl,by simp only[sm,zB,seval];rfl⟩
     · rintro k f3 H3 h0 rS kR e3 _;have w4:f3 4=AI L S:=by rw[kR 4 rfl];simp only[zB,seval];exact u4
       rcases iV L S with ⟨h,e⟩|⟨h,e⟩
       · rw[e] at w4;subst h;simp only[↓zP,zG,seval,e3,w4];exact⟨trivial,trivial,Ao AV.bool (Az.2 (by simp at rS;simp[rS]))⟩
       rw[e] at w4;simp only[↓zP,zG,seval,e3,w4,Ad];exact tB (by omega)
     · rintro k f3 H3 h0 rS kR e3 ⟨rfl,SU⟩;simp only[zM] at SU
       have w4:f3 4=.aV 0 5 (S.map (cQ L)):=by
        rw[kR 4 rfl];simp only[zB,seval];rw[u4]
        rcases iV L S with ⟨h,e⟩|⟨h,e⟩
        · rw[h] at rS;exact absurd rS (Ax _)
        exact e
       have w5:f3 5=.int .i64 i:=(by rw[kR 5 rfl];simp only[zB,seval];exact u5);have w6:f3 6=.int .i64 j:=(by rw[kR 6 rfl];simp only[zB,seval];exact e2);have hgq:(S.map (cQ L)).getD k []=cQ L S[k]:=dT rS
       have sH:((S.take (k+1)).any fun q=>FN (L q) (L q).length i j)=(((S.take k).any fun q=>FN (L q) (L q).length i j)||FN (L S[k]) (L S[k]).length i j):=by rw[Ap,Jn];simp[rS]
       have fu:(S.map (cQ L)).length=S.length:=Ad ..;have vw:=hLw _ (Ai rS);rw[sH];generalize S[k]=q at *;generalize ((S.take k).any fun q=>FN (L q) (L q).length i j)=b0 at *;have d5:(cQ L q).length=5:=rfl;have d4:(List.drop 4 (cQ L q)).getD 0 aD=.aV 0 1 (zH (L q)):=rfl;have dl4:1<=(List.drop 4 (cQ L q)).length:=Ak _;refine aH ?_;refine bS ?_;simp only[↓zP,zG,seval,w4,e3,aB,fu,rS,hgq,d4,dl4];refine fL ?_;simp only[↓zP,zG,seval];refine bT ?_;generalize L q=on at *;refine bG [7] (fun c vs H'=>H'=H3/\vs=[.bool (b0||FN on c i j)]) 0 on.length (Bb _) (by omega) (by decide) ?_ ?_ ?_ ?_ ?_
       · simp only[zB,seval]
       · exact⟨rfl,by simp only[sm,zB,seval,SU];simp[FN]⟩
       · rintro c f4 H4 h0 hc Qn e4 _;have x9:f4 9=.aV 0 1 (zH on):=Qn 9 rfl;simp only[↓zP,zG,seval,e4,x9,dP];exact tB (by omega)
       · rintro c f4 H4 h0 hc Qn e4 ⟨rfl,YH⟩;simp only[zM] at YH;have x9:f4 9=.aV 0 1 (zH on):=Qn 9 rfl;have x5:f4 5=.int .i64 i:=(by rw[Qn 5 rfl];simp only[zB,seval];exact w5);have x6:f4 6=.int .i64 j:=(by rw[Qn 6 rfl];simp only[zB,seval];exact w6);have wj:IntKind.i64.wrap ((c:Int)+1)=((c+1:Nat):Int):=(wrap_i64 (by omega) (by omega)).trans (by omega);have nz:¬((on.length:Int)=0):=(by omega);have hm:(c+1)%on.length<on.length:=De _ (by omega);have tm:((c+1:Nat):Int).tmod (on.length:Int)=(((c+1)%on.length:Nat):Int):=rfl;have hgp:=uM hc;have hgb:=uM hm;have hbe:∀x y:Nat,((x:Int)==(y:Int))=(x==y):=fun x y=>by rw[Du,Dc,Dc];omega
         rw[aQq,<-Bool.or_assoc];rw[show on.getD c 0=on[c] by simp[List.getD,hc],show on.getD ((c+1)%on.length) 0=on[(c+1)%on.length] by simp[List.getD,hm]];generalize (b0||FN on c i j)=b1 at *;generalize on[c]=p at *;generalize on[(c+1)%on.length]=p' at *;have hA:=hbe p i;have hB:=hbe p' j;have hC:=hbe p j;have hD:=hbe p' i;generalize (p==i)=A at *;generalize (p'==j)=B at *;generalize (p==j)=C at *;generalize (p'==i)=D at *;refine aH ?_
         cases b1 with
         |true=>simp only[↓zP,zJ,seval,YH,mM];exact⟨trivial,rfl⟩
         |false=>
          cases A with
          |true=>
           cases B with
           |true=>simp only[↓zP,zJ,seval,YH,x9,x5,x6,e4,aB,dP,hc,hgp,hgb,wj,nz,tm,hm,hA,hB,mM];exact⟨trivial,rfl⟩
           |false=>
            cases C with
            |true=>simp only[↓zP,zJ,seval,YH,x9,x5,x6,e4,aB,dP,hc,hgp,hgb,wj,nz,tm,hm,hA,hB,hC,hD];exact⟨trivial,rfl⟩
            |false=>simp only[↓zP,zJ,seval,YH,x9,x5,x6,e4,aB,dP,hc,hgp,hgb,wj,nz,tm,hm,hA,hB,hC];exact⟨trivial,rfl⟩
          |false=>
           cases C with
           |true=>simp only[↓zP,zJ,seval,YH,x9,x5,x6,e4,aB,dP,hc,hgp,hgb,wj,nz,tm,hm,hA,hC,hD];exact⟨trivial,by simp⟩
           |false=>simp only[↓zP,zJ,seval,YH,x9,x5,x6,e4,aB,dP,hc,hgp,hA,hC];exact⟨trivial,rfl⟩
       rintro f4 H4 Qn ⟨rfl,YH⟩;simp only[↓zP,seval];exact⟨trivial,YH⟩
     rintro f3 H3 kR ⟨rfl,SU⟩;rw[Ar] at SU;simp only[zM] at SU;have hP:(S.any fun q=>FN (L q) (L q).length i j)=Qw S L i j:=rfl;rw[hP] at SU;have w5:f3 5=.int .i64 i:=(by rw[kR 5 rfl];simp only[zB,seval];exact u5);have w6:f3 6=.int .i64 j:=(by rw[kR 6 rfl];simp only[zB,seval];exact e2);have w3:f3 3=v2:=(by rw[kR 3 rfl];simp only[zB,seval];exact nJ);simp only[↓zP,seval];apply hK;clear hK K;rw[aUu (by omega),<-Cw];generalize Qr S L l.length i++GP S L i j=X at *
     cases hu:Qw S L i j with
     |false=>rw[hu] at SU;simp only[↓zP,zJ,seval,SU];exact⟨AA,gn',v2,by rw[w3],RO,DK⟩
     |true=>
      rw[hu] at SU;obtain⟨H5,z1,z2,z3,z4,z5⟩:=Has.push (.inr RO) (ys:=[pC ((i:Int),(j:Int))]) (bytes:=16) rfl (by rw[Ad,Ah,Ay];omega);have hpc:[AV.int .i64 (i:Int),.int .i64 (j:Int)]=pC ((i:Int),(j:Int)):=rfl;simp only[↓zP,zJ,seval,SU,w3,w5,w6,hpc,Pv];rw[eL];simp only[z1,bP,seval];refine⟨(z4 0 (by omega) (by rw[AA];simp)).trans AA,by omega,_,rfl,?_,fun h=>?_⟩
      · rw[Ch];exact .inr ⟨H3.next,rfl,by omega,z3⟩
      simp at h
   rintro f2 H2 dA ⟨AA,gn',v2,nJ,RO,DK⟩;simp only[zM] at nJ;simp only[↓zP,seval];rw[bDg];exact⟨AA,gn',v2,by rw[nJ],RO,DK⟩
 rintro f H1 hk ⟨g0,gn,v,hv,ho,hn⟩;simp only[zM] at hv;simp only[↓zP,seval,hv];refine Rx ?_;refine⟨v,0,rfl,?_⟩
 rcases ho with ⟨rfl,h2⟩|⟨k,rfl,_,_⟩
 · rw[h2];exact fun _=>rfl
 have bN:¬(Qr S L l.length l.length).map pC=[]:=fun h=>by cases hn (by simpa using h)
 have DI:dJ ((Qr S L l.length l.length).map pC)=true:=dF UZ _;intro nw;rw[show jQ 2 ((Qr S L l.length l.length).map pC)=.aV 0 2 ((Qr S L l.length l.length).map pC) from if_neg bN];simp[fT,jR,DI,HE]
theorem tu {tag:Nat} (ht:Nat.blt tag 2=true) {l:List aG.V} {M:Nat} (hl:∀v∈l,bM M v) (hM:M<=2^18) {E:List (Nat×Nat)} (hEl:E.length<=2^20) (hE0:E≠[]) (hE:∀p∈E,p.1<l.length/\p.2<l.length)
 (hS:∀H,Sg 154 [.agg [.aV tag 3 (bF l)]] H (.ret (jQ 2 ((E.map pN).map pC))) H) (H:aA):
 Sg 97 [.agg [.aV tag 3 (bF l)]] H (.ret (.aV 0 3 (bF (E.map (EN l))))) H:=by
 refine dH fit dQ bIt (Af rfl) (by simp only[sf,cE ht]) ?_ H;unfold W97;dsimp only;have cG:∀k (h:k<l.length),l.getD k V0=l[k]:=fun k h=>by simp[List.getD,h]
 rw[show jQ 2 ((E.map pN).map pC)=.aV 0 2 ((E.map pN).map pC) from if_neg (by simpa using hE0)] at hS;simp only[↓zP,zJ,seval];refine bK (hS _) ?_;simp only[↓zP,zG,seval];refine bG [3] (fun i vs H'=>∃v,vs=[v]/\Own H' 3 v (bF ((E.take i).map (EN l)))/\1<=H'.next/\H'.get 0=some (.cells [.aV tag 3 (bF l)] false)) 0 E.length (Bb _) (by omega) (by decide) ?_ ?_ ?_ ?_ ?_
 · simp only[zB,seval]
 · exact⟨.aS,by simp only[sm,zB,seval],.nil _ _,by simp only[zI,seval],by simp only[zI,seval]⟩
 · rintro i f H1 h0 hi hk e1 _;have f4:f 4=.aV 0 2 ((E.map pN).map pC):=hk 4 rfl;simp only[↓zP,zG,seval,e1,f4,Ad];exact tB (by omega)
 · rintro i f H1 h0 hi hk e1 ⟨v,hv,ho,hn,g0⟩;simp only[zM] at hv;have f1:f 1=.ref 0 0:=hk 1 rfl;have f4:f 4=.aV 0 2 ((E.map pN).map pC):=hk 4 rfl;have hg:((E.map pN).map pC).getD i []=pC (pN E[i]):=by rw[Dp];exact dT hi
   obtain⟨ha,hb⟩:=hE _ (Ai hi)
   have sH:(E.take (i+1)).map (EN l)=(E.take i).map (EN l)++[EN l E[i]]:=by rw[Ap,Ch];simp[hi]
   have htl:((E.take i).map (EN l)).length<=2^20:=(by simp;omega);have hEm:((E.map pN).map pC).length=E.length:=(by rw[Ad,Ad]);rw[sH];generalize (E.take i).map (EN l)=els at *;generalize E[i]=p at *;have ga:=bY ha;have gb:=bY hb;have na:=hl _ (Ai ha);have nb:=hl _ (Ai hb);have BP:aG.sub l[p.2] l[p.1]=EN l p:=(by simp only[EN,cG p.2 hb,cG p.1 ha]);have q0:(pC (pN p)).getD 0 aD=.int .i64 (p.1:Int):=rfl;have q1:(pC (pN p)).getD 1 aD=.int .i64 (p.2:Int):=rfl;have r1:(List.drop 1 (pC (pN p))).getD 0 aD=.int .i64 (p.2:Int):=rfl;have r2:1<=(List.drop 1 (pC (pN p))).length:=Ak _;have ta:(bZ l[p.1]).take 3=bZ l[p.1]:=rfl;have tb:(bZ l[p.2]).take 3=bZ l[p.2]:=rfl;obtain⟨H5,z1,z2,z3,z4,z5⟩:=Has.push (.inr ho) (ys:=[bZ (EN l p)]) (bytes:=24) rfl (by rw[aL,Ah,Ay];omega);refine aH ?_;refine Dz ?_;simp only[↓zP,zJ,seval,zD,f1,f4,e1,hv,g0,hEm,hi,hg,Pv,q0,r1,r2,jI,aB,aL,ha,hb,ga,gb,oL (aM l[p.1]),oL (aM l[p.2])];refine eT (xW nb na (by omega) _) ?_;rw[BP];simp only[↓zP,zJ,seval,zD,oL (aM (EN l p))];rw[eL];simp only[z1,bP,seval];rw[show bF (els++[EN l p])=bF els++[bZ (EN l p)] from by simp[bF]];exact⟨by omega,_,rfl,.inr ⟨H1.next,rfl,by omega,z3⟩,by omega,(z4 0 (by omega) (by rw[g0];simp)).trans g0⟩
 rintro f H1 hk ⟨v,hv,ho,hn,g0⟩;simp only[zM] at hv;rw[Ar] at ho;simp only[↓zP,seval,hv];refine Rx ?_;refine⟨v,0,rfl,fun nw=>?_⟩;have bN:bF (E.map (EN l))≠[]:=by simpa [bF] using hE0
 rcases ho with ⟨_,h⟩|⟨k,rfl,h1,h2⟩
 · exact absurd h bN
 have DI:dJ (bF (E.map (EN l)))=true:=dF cC _;simp[fT,jR,DI,HE]
theorem aCk {on:List Nat} {a b:Nat}:FN on on.length a b=true↔aG.Next on a b\/aG.Next on b a:=by
 have hg:∀(i x:Nat),i<on.length->(on.getD i 0=x↔on[i]?=some x):=fun i x h=>by simp[List.getD,h]
 simp only[FN,Cz,Bi,Dt,Am,Dc,aG.Next];constructor
 · rintro⟨i,hi,h⟩;have hm:(i+1)%on.length<on.length:=De _ (by omega)
   rcases h with ⟨h1,h2⟩|⟨h1,h2⟩
   · exact .inl ⟨i,hi,(hg i a hi).1 h1,(hg _ b hm).1 h2⟩
   exact .inr ⟨i,hi,(hg i b hi).1 h1,(hg _ a hm).1 h2⟩
 rintro(⟨i,hi,h1,h2⟩|⟨i,hi,h1,h2⟩)
 · have hm:(i+1)%on.length<on.length:=De _ (by omega);exact⟨i,hi,.inl ⟨(hg i a hi).2 h1,(hg _ b hm).2 h2⟩⟩
 have hm:(i+1)%on.length<on.length:=De _ (by omega);exact⟨i,hi,.inr ⟨(hg i b hi).2 h1,(hg _ a hm).2 h2⟩⟩
theorem iy {S:List (aG.V×Int)} {L:aG.V×Int->List Nat} {N:Nat} {x:Int×Int}:
 x∈Qr S L N N↔∃a b:Nat,a<b/\b<N/\Qw S L a b=true/\x=pN (a,b):=by
 simp only[Qr,GP,En,Bf,Ga,Bi,Am,Bh,pN];constructor
 · rintro⟨a,ha,b,⟨hb,EC,h⟩,rfl⟩;exact⟨a,b,EC,hb,h,rfl⟩
 rintro⟨a,b,EC,hb,h,rfl⟩;exact⟨a,by omega,b,⟨hb,EC,h⟩,rfl⟩
theorem Vm {l:List aG.V} (hl:l.Pairwise gW) {S:List (aG.V×Int)} {L:aG.V×Int->List Nat} (hS:wS l S L) {a b:Nat}:Qw S L a b=true↔∃q∈S,aG.Next (L q) a b:=by
 simp only[Qw,Cz,aCk];constructor
 · rintro⟨q,hq,h|h⟩
   · exact⟨q,hq,h⟩
   obtain⟨n',d',L',F',P',hN'⟩:=(hS.po q hq).back (OO hl) ((hS.fl.mem q).1 hq) h;have Tx:=(hS.fl.mem (n',d')).2 F';rw[P'.uniq (hS.po _ Tx)] at hN';exact⟨(n',d'),Tx,hN'⟩
 rintro⟨q,hq,h⟩;exact⟨q,hq,.inl h⟩
theorem QJ {tag:Nat} (ht:Nat.blt tag 2=true) {l:List aG.V} (h0:oX l=0) {M:Nat} (hn:∀v∈l,bM M v) (hM:M<=2^18):∃U:List aG.V,U.length<=2^20/\U≠[]/\(∀v,v∈U↔IsE l v)/\(∀v∈U,bM (M+M) v)/\
 (∀H,Sg 95 [.agg [.aV tag 3 (bF l)]] H (.ret (.aV (H.next+2) 5 ((iJ l).map (cQ (mV l))))) (H.alloc .tok))/\
 ∀H,Sg 97 [.agg [.aV tag 3 (bF l)]] H (.ret (.aV 0 3 (bF U))) H:=by
 obtain⟨hs,_,bN,IU,hlen,NN,_⟩:=vW h0;have hF:=nO hs;have p3:=td ht hn hM hlen hF IU
 have hE:∀x∈Qr (iJ l) (mV l) l.length l.length,∃a b:Nat,a<b/\(∃q∈iJ l,aG.Next (mV l q) a b)/\x=pN (a,b):=fun x hx=>by obtain⟨a,b,h1,h2,h3,rfl⟩:=iy.1 hx;exact⟨a,b,h1,(Vm hs hF).1 h3,rfl⟩
 have YF:∀q∈iJ l,∀a b,aG.Next (mV l q) a b->a<l.length/\b<l.length:=fun q hq a b h=>by have h1:=(hF.po q hq).mD.1 h;exact⟨(dN.1 h1.1).1,(dN.1 h1.2.1).1⟩
 have hE2:∀a b:Nat,a<b->(∃q∈iJ l,aG.Next (mV l q) a b)->pN (a,b)∈Qr (iJ l) (mV l) l.length l.length:=fun a b EC h=>by obtain⟨q,hq,hN⟩:=h;exact iy.2 ⟨a,b,EC,(YF q hq a b hN).2,(Vm hs hF).2 ⟨q,hq,hN⟩,rfl⟩
 have WU:(Qr (iJ l) (mV l) l.length l.length).length<=2^20:=by have :=jt (iJ l) (mV l) l.length l.length;have :l.length*l.length<=64*64:=Bv hlen hlen;omega
 have hE0:Qr (iJ l) (mV l) l.length l.length≠[]:=by
  have :=Og hs hF bN;obtain⟨x,r,h⟩:=Et this;have hx:x∈HG (iJ l) (mV l):=by rw[h];simp
  obtain⟨q,hq,a,b,hN,EC,rfl⟩:=(zA hF).1 hx;intro he;have :=hE2 a b EC ⟨q,hq,hN⟩;rw[he] at this;cases this
 generalize Qr (iJ l) (mV l) l.length l.length=E at *
 have Tt:E=(E.map fun x=>(x.1.toNat,x.2.toNat)).map pN:=by rw[Dp];refine(Hc E).symm.trans (Ef fun x hx=>?_);obtain⟨a,b,_,_,rfl⟩:=hE x hx;simp[pN]
 generalize hE':(E.map fun x=>(x.1.toNat,x.2.toNat))=E' at *
 have ZU:∀p:Nat×Nat,p∈E'↔(∃q∈iJ l,aG.Next (mV l q) p.1 p.2)/\p.1<p.2:=fun p=>by
  rw[<-hE',Bf];constructor
  · rintro⟨x,hx,rfl⟩;obtain⟨a,b,h1,h2,rfl⟩:=hE x hx;exact⟨by simpa [pN] using h2,by simpa [pN] using h1⟩
  rintro⟨h1,h2⟩;exact⟨pN p,hE2 p.1 p.2 h2 h1,by simp[pN]⟩
 refine⟨E'.map (EN l),?_,?_,?_,?_,fun H=>XQ tag hn hM hlen hF bN ht H,fun H=>tu ht hn hM (E:=E') ?_ ?_ ?_ ?_ H⟩
 · rw[Ad,<-hE',Ad];exact WU
 · intro e;rw[Ee,<-hE',Ee] at e;exact hE0 e
 · intro v;rw[Bf];constructor
   · rintro⟨p,hp,rfl⟩;obtain⟨⟨q,hq,h1⟩,h2⟩:=(ZU p).1 hp;have h3:=(hF.po q hq).mD.1 h1;exact⟨q,(hF.fl.mem q).1 hq,p.1,p.2,h3.2,h3.1,h2,rfl⟩
   rintro⟨q,hq,a,b,h1,h2,h3,rfl⟩;have Tx:=(hF.fl.mem q).2 hq;exact⟨(a,b),(ZU (a,b)).2 ⟨⟨q,Tx,(hF.po q Tx).mD.2 ⟨h2,h1⟩⟩,h3⟩,rfl⟩
 · intro v hv;obtain⟨p,hp,rfl⟩:=Bf.1 hv;obtain⟨⟨q,hq,h1⟩,h2⟩:=(ZU p).1 hp;obtain⟨b1,b2⟩:=YF q hq _ _ h1
   have hg:∀k,k<l.length->bM M (l.getD k V0):=fun k hk=>by have :l.getD k V0=l[k]:=(by simp[List.getD,hk]);rw[this];exact hn _ (Ai hk)
   exact fM (hg _ b2) (hg _ b1)
 · rw[<-hE',Ad];exact WU
 · intro e;rw[<-hE',Ee] at e;exact hE0 e
 · intro p hp;obtain⟨⟨q,hq,h1⟩,h2⟩:=(ZU p).1 hp;exact YF q hq _ _ h1
 rw[<-Tt];exact p3
theorem b8 {v:aG.V} {B:Nat} (hv:bM B v) (hB:B<2^62) (H:aA):Sg 98 [.agg (c3 fun i=>cI (v.at i))] H (.ret (.agg (bZ v))) H:=by
 refine Sp bIu (by simp only[sf,jW fun i _=>cH _]) (by simp only[sf,cC]) ?_ H;unfold W98;dsimp only;have hl:=fun i (hi:i<3)=>sM (c:=fun i=>cI (v.at i)) (fun i _=>dE _) hi;have l0:(c3 fun i=>cI (v.at i)).take 18=cI (v.at 0):=hl 0 (by decide);have l1:((c3 fun i=>cI (v.at i)).drop 18).take 18=cI (v.at 1):=hl 1 (by decide);have l2:((c3 fun i=>cI (v.at i)).drop 36).take 18=cI (v.at 2):=hl 2 (by decide);have h54:(c3 fun i=>cI (v.at i)).length=54:=fO fun _ _=>dE _
 have hs:∀i,∀H,Sg 43 [.agg (cI (v.at i))] H (.ret (.gP [.int .i64 (v.at i),.bool true])) H:=fun i=>by have :=bM.c hv i;exact Lx (by omega) (by omega)
 refine bS ?_;simp only[↓zP,zJ,seval];refine bT ?_;simp only[↓zP,zJ,seval,jI,h54,l0];refine bK (hs 0 _) ?_;simp only[↓zP,zJ,seval,h54,l1];refine bK (hs 1 _) ?_;simp only[↓zP,zJ,seval,h54,l2];refine bK (hs 2 _) ?_;simp only[↓zP,zJ,seval];refine Rx ?_;rfl
theorem aRc {a b Z:List AV} (ha:a.length=18) (hb:b.length=18) (hZ:Z.length=18):
 (if True/\36<=(a++Z).length/\True then some ((a++Z).take 18++b++(a++Z).drop 36) else none)=some (a++b):=by
 have hl:(a++Z).length=36:=by rw[An,ha,hZ]
 rw[if_pos ⟨trivial,by omega,trivial⟩,Db (by omega),Bk (by omega),Bl (by omega),Bz]
theorem Xf {tag:Nat} (ht:Nat.blt tag 2=true) {l:List aG.V} {M B:Nat} (hl:∀v∈l,bM M v) (hlen:l.length<2^30) {n:aG.V} (hn:bM B n) (hM:M<2^31) (hB:B<2^31) (hs:3*(B*M)<2^62) {x0:aG.V} {r:List aG.V} (hx:l=x0::r) (H:aA):
 Sg 153 [.agg [.aV tag 3 (bF l)],.agg (bZ n)] H (.ret (.agg (cI (xO n (aG.dot n x0) l)++cI (xD n (aG.dot n x0) l)))) H:=by
 have aAy:∀v∈l,∀H,Sg 204 [.agg (bZ n),.agg (bZ v)] H (.ret (.agg (cI (aG.dot n v)))) H:=fun v hv H=>aJh hn (hl v hv) hB hM hs H;refine Sp aYu (by simp only[sf,cE ht,cC]) (by simp only[AV.free,mL,dp];rfl) ?_ H;unfold aOb;dsimp only;have YJ:0<l.length:=by rw[hx];simp
 have aSv:l[0]=x0:=by subst hx;rfl
 have g0:=bY YJ;have Ow:=aAy _ (Ai YJ);have a0:asNat (.int .i64 0)=some 0:=rfl;have fS:∀z,(cI z).length=18:=fun z=>by simp[cI,cM,bW]
 have d3:∀v:aG.V,(bZ v).take 3=bZ v:=fun _=>rfl;refine bS ?_;simp only[↓zP,zJ,seval];refine bT ?_;generalize hX:(((aA.mk 0 .nil).alloc _).alloc _).alloc _=HA;have m0:HA.get 0=some (.cells [.aV tag 3 (bF l)] false):=by subst hX;simp only[zI,seval]
 have m1:HA.get 1=some (.cells (bZ n) false):=by subst hX;simp only[zI,seval]
 obtain⟨z,m2,lz⟩:∃z,HA.get 2=some (.cells z false)/\z.length=36:=⟨_,by subst hX;simp only[zI,seval];rfl,by simp[cM];rfl⟩;have mn:HA.next=3:=by subst hX;simp only[zI,seval]
 have mf:cN HA:=by subst hX;exact(((cN.nil 0).alloc _).alloc _).alloc _
 clear hX;refine bS ?_;refine nG 1 (by decide) mf.at1 fun H1 n1 e1=>?_;simp only[↓zP,zJ,seval,zD,m0,m1,mn,e1,a0,aL,YJ,g0,oL (aM l[0]),oL (aM n)];have yF:(AV.bool false::AV.bool false::wC zs).length=18:=by simp[cM];rfl
 refine eT (Ow _) ?_;rw[aSv];generalize hd:aG.dot n x0=d0 at *;rw[mn] at n1;simp only[↓zP,zJ,seval,zD,fS,yF,oL yF,n1,e1];refine bT ?_;have f3:cN H1:=fun j hj=>by rw[e1 j];exact mf j (by omega)
 generalize hX:(H1.set 3 _).set 3 _=HB;have b0:HB.get 0=some (.cells [.aV tag 3 (bF l)] false):=by subst hX;rw[aA.aC,if_neg (by decide),aA.aC,if_neg (by decide),e1];exact m0
 have b1:HB.get 1=some (.cells (bZ n) false):=by subst hX;rw[aA.aC,if_neg (by decide),aA.aC,if_neg (by decide),e1];exact m1
 have b2:HB.get 2=some (.cells z false):=by subst hX;rw[aA.aC,if_neg (by decide),aA.aC,if_neg (by decide),e1];exact m2
 have b3:HB.get 3=some (.cells (cI d0) false):=by subst hX;rw[aA.aC,if_pos rfl]
 have bn:HB.next=4:=by subst hX;simp only[aA.aX];omega
 have bf:cN HB:=by subst hX;exact(f3.set (by omega) _).set (by simp only[aA.aX];omega) _
 clear hX;have hT:∀a b:Int,(cI a++cI b).take 18=cI a:=fun a b=>by rw[Db (by rw[fS];exact Ak _),<-fS a,Ar]
 have hD:∀a b:Int,(cI a++cI b).drop 18=cI b:=fun a b=>by rw[<-fS a,List.drop_left]
 have ZM:∀a b:Int,(cI a++cI b).length=36:=fun a b=>by rw[An,fS,fS]
 refine bS ?_;simp only[↓zP,zJ,seval,b3,oL (fS d0)];rw[aRc (fS d0) (fS d0) yF];have z36:(AV.bool false::AV.bool false::AV.int .u32 0::AV.int .u32 0::AV.int .u32 0::AV.int .u32 0::AV.int .u32 0::AV.int .u32 0::AV.int .u32 0::AV.int .u32 0::AV.int .u32 0::AV.int .u32 0::AV.int .u32 0::AV.int .u32 0::AV.int .u32 0::AV.int .u32 0::AV.int .u32 0::AV.int .u32 0::AV.bool false::AV.bool false::wC zs).length=36:=by simp[cM];rfl
 generalize (AV.bool false::AV.bool false::AV.int .u32 0::AV.int .u32 0::AV.int .u32 0::AV.int .u32 0::AV.int .u32 0::AV.int .u32 0::AV.int .u32 0::AV.int .u32 0::AV.int .u32 0::AV.int .u32 0::AV.int .u32 0::AV.int .u32 0::AV.int .u32 0::AV.int .u32 0::AV.int .u32 0::AV.int .u32 0::AV.bool false::AV.bool false::wC zs)=Z36 at *;simp only[zJ,seval,ZM,oL z36,bn];refine bT ?_;generalize hX:((HB.alloc _).set 4 _)=HC;have p0:HC.get 0=some (.cells [.aV tag 3 (bF l)] false):=by subst hX;rw[aA.aC,if_neg (by decide),aA.aF,bn,if_neg (by decide)];exact b0
 have p1:HC.get 1=some (.cells (bZ n) false):=by subst hX;rw[aA.aC,if_neg (by decide),aA.aF,bn,if_neg (by decide)];exact b1
 have p2:HC.get 2=some (.cells z false):=by subst hX;rw[aA.aC,if_neg (by decide),aA.aF,bn,if_neg (by decide)];exact b2
 have p4:HC.get 4=some (.cells (cI d0++cI d0) false):=by subst hX;rw[aA.aC,if_pos rfl]
 have pn:HC.next=5:=by subst hX;simp only[aA.aX,aA.bJ];omega
 have pf:cN HC:=by subst hX;exact(bf.alloc _).set (by simp only[aA.bJ];omega) _
 clear hX;have lf1:xO n d0 (l.take 1)=d0:=by subst hx;simp[xO,hd]
 have hf1:xD n d0 (l.take 1)=d0:=by subst hx;simp[xD,hd]
 have aWn:d0.natAbs<=3*(B*M):=by
  have :=pO hn (hl x0 (by rw[hx];simp))
  rwa [hd] at this
 have w16:3*(B*M)<W^16:=by
  have :2^62<W^16:=by decide
  omega
 refine aJ fun K hK=>?_;refine bS ?_;simp only[↓zP,zG,seval];refine bT ?_;refine bG [] (fun i _ H'=>H'.get 0=some (.cells [.aV tag 3 (bF l)] false)/\H'.get 1=some (.cells (bZ n) false)/\H'.get 2=some (.cells z false)/\H'.get 4=some (.cells (cI (xO n d0 (l.take i))++cI (xD n d0 (l.take i))) false)/\5<=H'.next/\cN H'/\(xO n d0 (l.take i)).natAbs<=3*(B*M)/\(xD n d0 (l.take i)).natAbs<=3*(B*M)) 1 l.length (by omega) (by omega) (by decide) ?_ ?_ ?_ ?_ ?_
 · simp only[zB,seval]
 · rw[lf1,hf1];exact⟨p0,p1,p2,p4,by omega,pf,aWn,aWn⟩
 · rintro i f H2 h0 hi hk e2 ⟨q0,_⟩;have f2:f 2=.ref 0 0:=hk 2 rfl;simp only[↓zP,zJ,seval,e2,f2,q0,aL];exact tB (by omega)
 · rintro i f H2 h0 hi hk e2 ⟨q0,q1,q2,q4,qn,qf,c1,c2⟩;have f2:f 2=.ref 0 0:=hk 2 rfl;have f3':f 3=.ref 1 0:=hk 3 rfl;have f6:f 6=.ref 4 0:=hk 6 rfl;have hg:=bY hi;have uG:=Ai hi;have hdi:=aAy _ uG;have ZR:=pO hn (hl _ uG)
   have AK:xO n d0 (l.take (i+1))=if aG.dot n l[i]<xO n d0 (l.take i) then aG.dot n l[i] else xO n d0 (l.take i):=by unfold xO;rw[Ap,Gt];simp[hi]
   have o8:xD n d0 (l.take (i+1))=if aG.dot n l[i]>xD n d0 (l.take i) then aG.dot n l[i] else xD n d0 (l.take i):=by unfold xD;rw[Ap,Gt];simp[hi]
   rw[AK,o8];generalize xO n d0 (l.take i)=lo at *;generalize xD n d0 (l.take i)=oY at *;generalize l[i]=x at *;generalize aG.dot n x=d at *;refine aH ?_;refine bS ?_;refine nG 1 (by decide) qf.at1 fun H3 n3 e3=>?_;simp only[↓zP,zJ,seval,zD,f2,f3',e2,q0,q1,e3,aB,aL,hi,hg,oL (aM x),oL (aM n)];refine eT (hdi _) ?_;simp only[↓zP,zJ,seval,zD,fS,yF,oL yF,n3,e3];refine bT ?_;have f3:cN H3:=fun j hj=>by rw[e3 j];exact qf j (by omega)
   generalize hX:(H3.set H2.next _).set H2.next _=H4;have y0:H4.get 0=some (.cells [.aV tag 3 (bF l)] false):=(by subst hX;rw[aA.aC,if_neg (by omega),aA.aC,if_neg (by omega),e3];exact q0);have y1:H4.get 1=some (.cells (bZ n) false):=(by subst hX;rw[aA.aC,if_neg (by omega),aA.aC,if_neg (by omega),e3];exact q1);have y2:H4.get 2=some (.cells z false):=(by subst hX;rw[aA.aC,if_neg (by omega),aA.aC,if_neg (by omega),e3];exact q2);have y4:H4.get 4=some (.cells (cI lo++cI oY) false):=(by subst hX;rw[aA.aC,if_neg (by omega),aA.aC,if_neg (by omega),e3];exact q4);have y8:H4.get H2.next=some (.cells (cI d) false):=(by subst hX;rw[aA.aC,if_pos rfl]);have yn:5<=H4.next:=(by subst hX;simp only[aA.aX];omega);have yf:cN H4:=(by subst hX;exact(f3.set (by omega) _).set (by simp only[aA.aX];omega) _);clear hX e3 f3;have q8:H2.next<H4.next:=Cp fun h=>by have :=yf H2.next (by omega);rw[y8] at this;cases this
   clear n3;generalize H2.next=r8 at *
   have AB:∀y:Int,(decide (iH (some d) (some y)<0)=decide (d<y))/\(decide (iH (some d) (some y)>0)=decide (d>y)):=fun y=>by constructor<;>(rw[Az];simp only[iH];split<;>(try split)<;>omega)
   refine aJ fun K3 EB=>?_
   have key:∀(f':cU) (H':aA) (lo2:Int),f' 8=.ref r8 0->f' 6=.ref 4 0->H'.get r8=some (.cells (cI d) false)->H'.get 0=some (.cells [.aV tag 3 (bF l)] false)->H'.get 1=some (.cells (bZ n) false)->H'.get 2=some (.cells z false)->H'.get 4=some (.cells (cI lo2++cI oY) false)->5<=H'.next->cN H'->lo2=(if d<lo then d else lo)->K3 f' [] H':=by
    intro f' H' lo2 v8 v6 u8 u0 u1 u2 u4 un uf plo;apply EB;clear EB K3;have AL:(if d<lo then d else lo).natAbs<=3*(B*M):=(by split<;>omega);have hcm:=vM (x:=d) (y:=oY) (by omega) (by omega);have VL:4<H'.next:=(by omega);refine aJ fun K4 SJ=>?_;simp only[↓zP,zJ,seval,v8,v6,u8,u4,ZM,hD,oL (fS d),oL (fS oY)];refine bK (hcm _) ?_;by_cases c:d>oY
    · have d2:decide (iH (some d) (some oY)>0)=true:=(by rw[(AB oY).2];exact Al c);simp only[↓zP,zG,seval,d2];apply SJ;clear SJ K4;simp only[↓zP,zJ,seval,v8,v6,u8,u4,ZM,hT,oL (fS d),oL (ZM lo2 oY)];rw[if_pos c,<-plo];exact⟨u0,u1,u2,rfl,un,uf.set VL _,by rw[plo];exact AL,ZR⟩
    have d2:decide (iH (some d) (some oY)>0)=false:=(by rw[(AB oY).2];exact Ae c);simp only[↓zP,zG,seval,d2];apply SJ;clear SJ K4;simp only[↓zP,zG,seval];rw[if_neg c,<-plo];exact⟨u0,u1,u2,u4,un,uf,by rw[plo];exact AL,c2⟩
   have hcm:=vM (x:=d) (y:=lo) (by omega) (by omega);have VL:4<H4.next:=(by omega);clear EB;refine aJ fun K4 SJ=>?_;simp only[↓zP,zJ,seval,f6,y8,y4,ZM,hT,oL (fS d)];refine bK (hcm _) ?_;by_cases c:d<lo
   · have d2:decide (iH (some d) (some lo)<0)=true:=(by rw[(AB lo).1];exact Al c);simp only[↓zP,zG,seval,d2];apply SJ;clear SJ K4;simp only[↓zP,zJ,seval,f6,y8,y4,ZM,hD,oL (fS d)];refine key _ _ d (by simp only[zB,seval]) (by simp only[zB,seval];exact f6) ?_ ?_ ?_ ?_ ?_ ?_ (yf.set VL _) (if_pos c).symm
     · rw[aA.aC,if_neg (by omega)];exact y8
     · rw[aA.aC,if_neg (by omega)];exact y0
     · rw[aA.aC,if_neg (by omega)];exact y1
     · rw[aA.aC,if_neg (by omega)];exact y2
     · rw[aA.aC,if_pos rfl]
     simp only[aA.aX];exact yn
   have d2:decide (iH (some d) (some lo)<0)=false:=(by rw[(AB lo).1];exact Ae c);simp only[↓zP,zG,seval,d2];apply SJ;clear SJ K4;simp only[↓zP,zG,seval];exact key _ H4 lo (by simp only[zB,seval]) (by simp only[zB,seval];exact f6) y8 y0 y1 y2 y4 yn yf (if_neg c).symm
 rintro f H2 hk ⟨q0,q1,q2,q4,qn,qf,c1,c2⟩;have f4:f 4=.ref 2 0:=hk 4 rfl;have f6:f 6=.ref 4 0:=hk 6 rfl;rw[Ar] at q4;simp only[↓zP,seval];apply hK;clear hK K;simp only[↓zP,zJ,seval,f4,f6,q4,ZM,q2,lz,oL lz,oL (ZM (xO n d0 l) (xD n d0 l))];refine⟨rfl,_,by simp only[↓zP,zR,seval,f4,ZM,oL (ZM (xO n d0 l) (xD n d0 l))];rfl,?_⟩;rfl
theorem aJm {ta tb:Nat} (wz:Nat.blt ta 2=true) (xc:Nat.blt tb 2=true) {a b:List aG.V} {M B:Nat} (ha:∀v∈a,bM M v) (hb:∀v∈b,bM M v) (hal:a.length<2^30) (wD:b.length<2^30) (ha0:a≠[]) (Tp:b≠[]) {n:aG.V} (hn:bM B n) (hM:M<2^31) (hB:B<2^31) (hs:3*(B*M)<2^62) (H:aA):
 Sg 96 [.agg [.aV ta 3 (bF a)],.agg [.aV tb 3 (bF b)],.agg (bZ n)] H (.ret (.bool (decide (n≠V0)&&oF a b n))) H:=by
 obtain⟨xa,ra,YK⟩:=Et ha0;obtain⟨xb,rb,hxb⟩:=Et Tp;have hsa:=fun H=>Xf wz ha hal hn hM hB hs YK H;have hsb:=fun H=>Xf xc hb wD hn hM hB hs hxb H
 have Ze:oF a b n=(decide (xD n (aG.dot n xa) a<=xO n (aG.dot n xb) b)||decide (xD n (aG.dot n xb) b<=xO n (aG.dot n xa) a)):=by unfold oF;rw[YK,hxb];rfl
 refine So bIs (by simp only[sf,cE wz,cE xc,cC]) ?_ H;unfold W96;dsimp only;have hz:[AV.int .i64 0,AV.int .i64 0,AV.int .i64 0]=bZ V0:=rfl;have fS:∀z,(cI z).length=18:=fun z=>by simp[cI,cM,bW]
 have hT:∀a b:Int,(cI a++cI b).take 18=cI a:=fun a b=>by rw[Db (by rw[fS];exact Ak _),<-fS a,Ar]
 have hD:∀a b:Int,(cI a++cI b).drop 18=cI b:=fun a b=>by rw[<-fS a,List.drop_left]
 have ZM:∀a b:Int,(cI a++cI b).length=36:=fun a b=>by rw[An,fS,fS]
 have z36:(AV.bool false::AV.bool false::AV.int .u32 0::AV.int .u32 0::AV.int .u32 0::AV.int .u32 0::AV.int .u32 0::AV.int .u32 0::AV.int .u32 0::AV.int .u32 0::AV.int .u32 0::AV.int .u32 0::AV.int .u32 0::AV.int .u32 0::AV.int .u32 0::AV.int .u32 0::AV.int .u32 0::AV.int .u32 0::AV.bool false::AV.bool false::wC zs).length=36:=by simp[cM];rfl
 refine bS ?_;simp only[↓zP,zJ,seval];refine bT ?_;generalize hX:(((aA.mk 0 .nil).alloc _).alloc _).alloc _=HA;have m0:HA.get 0=some (.cells [.aV ta 3 (bF a)] false):=by subst hX;simp only[zI,seval]
 have m1:HA.get 1=some (.cells [.aV tb 3 (bF b)] false):=by subst hX;simp only[zI,seval]
 have m2:HA.get 2=some (.cells (bZ n) false):=by subst hX;simp only[zI,seval]
 have mn:HA.next=3:=by subst hX;simp only[zI,seval]
 clear hX;refine bS ?_;by_cases Wb:n=V0
 · simp only[↓zP,zJ,seval,m2,oL (aM n),hz,lY,Al Wb];refine Rx ?_;rw[Ae (fun h=>h Wb)];rfl
 simp only[↓zP,zJ,seval,m2,oL (aM n),hz,lY,Ae Wb];refine bT ?_;rw[Al Wb,Cq,Ze];refine bS ?_;simp only[↓zP,zJ,seval,m0,m2,oL (aM n)];refine bK (hsa _) ?_;simp only[↓zP,zJ,seval,mn,ZM];refine bT ?_
 have hBM:∀v,v∈a\/v∈b->(aG.dot n v).natAbs<=3*(B*M):=fun v hv=>by
  rcases hv with h|h
  · exact pO hn (ha v h)
  exact pO hn (hb v h)
 have da:=hBM xa (.inl (by rw[YK];simp));have db:=hBM xb (.inr (by rw[hxb];simp));have lan:=JM (n:=n) (l:=a) da fun v hv=>hBM v (.inl hv);have han:=IZ (n:=n) (l:=a) da fun v hv=>hBM v (.inl hv);have lbn:=JM (n:=n) (l:=b) db fun v hv=>hBM v (.inr hv);have hbn:=IZ (n:=n) (l:=b) db fun v hv=>hBM v (.inr hv);generalize xO n (aG.dot n xa) a=la at *;generalize xD n (aG.dot n xa) a=ua at *;generalize xO n (aG.dot n xb) b=lb at *;generalize xD n (aG.dot n xb) b=ub at *;generalize hX:(HA.alloc _).set 3 _=HB;have b1:HB.get 1=some (.cells [.aV tb 3 (bF b)] false):=by subst hX;rw[aA.aC,if_neg (by decide),aA.aF,mn,if_neg (by decide)];exact m1
 have b2:HB.get 2=some (.cells (bZ n) false):=by subst hX;rw[aA.aC,if_neg (by decide),aA.aF,mn,if_neg (by decide)];exact m2
 have b3:HB.get 3=some (.cells (cI la++cI ua) false):=by subst hX;rw[aA.aC,if_pos rfl]
 have bn:HB.next=4:=by subst hX;simp only[aA.aX,aA.bJ];omega
 clear hX;refine bS ?_;simp only[↓zP,zJ,seval,b1,b2,oL (aM n)];refine bK (hsb _) ?_;simp only[↓zP,zJ,seval,bn,ZM];refine bT ?_;generalize hX:(HB.alloc _).set 4 _=HC;have p3:HC.get 3=some (.cells (cI la++cI ua) false):=by subst hX;rw[aA.aC,if_neg (by decide),aA.aF,bn,if_neg (by decide)];exact b3
 have p4:HC.get 4=some (.cells (cI lb++cI ub) false):=by subst hX;rw[aA.aC,if_pos rfl]
 clear hX
 have w16:3*(B*M)<W^16:=by
  have :2^62<W^16:=by decide
  omega
 have wb:=vM (x:=ua) (y:=lb) (by omega) (by omega);have AB:=vM (x:=ub) (y:=la) (by omega) (by omega)
 have hle:∀x y:Int,decide (iH (some x) (some y)<=0)=decide (x<=y):=fun x y=>by rw[Az];simp only[iH];split<;>(try split)<;>omega
 refine aJ fun K hK=>?_;simp only[↓zP,zJ,seval,p3,p4,ZM,hT,hD,oL (fS _)];refine bK (wb _) ?_;by_cases c:ua<=lb
 · have d1:decide (iH (some ua) (some lb)<=0)=true:=by rw[hle];exact Al c
   simp only[↓zP,zG,seval,d1];apply hK;clear hK K;simp only[↓zP,seval];refine Rx ?_;rw[Al c];rfl
 have d1:decide (iH (some ua) (some lb)<=0)=false:=by rw[hle];exact Ae c
 simp only[↓zP,zJ,seval,d1,p3,p4,ZM,hT,hD,oL (fS _)];refine bK (AB _) ?_;simp only[↓zP,zG,seval,hle];apply hK;clear hK K;simp only[↓zP,seval];refine Rx ?_;rw[Ae c];rfl
theorem Ug {ta tb:Nat} (wz:Nat.blt ta 2=true) (xc:Nat.blt tb 2=true) {a b:List aG.V} (ha:oX a=0) (hb:oX b=0) (na:∀v∈a,bM (2^12) v) (nb:∀v∈b,bM (2^12) v) (H:aA):
 Sg 47 [.agg [.aV ta 3 (bF a)],.agg [.aV tb 3 (bF b)]] H (.ret (.bool (lX a b))) H:=by
 obtain⟨U,lU,zU,mU,nU,fa,ea⟩:=QJ wz ha na (by decide);obtain⟨W',lW,zW,mW,nW,fb,eb⟩:=QJ xc hb nb (by decide);obtain⟨sa,_,ha1,ha2,ha3,ha4,_⟩:=vW ha;obtain⟨sb,_,tR,AL,hb3,hb4,_⟩:=vW hb;have hFa:=nO sa;have hFb:=nO sb
 have Ze:∀n,bM (2^27) n->∀H,Sg 96 [.agg [.aV ta 3 (bF a)],.agg [.aV tb 3 (bF b)],.agg (bZ n)] H (.ret (.bool (decide (n≠V0)&&oF a b n))) H:=fun n hn H=>aJm wz xc na nb (by omega) (by omega) ha4 hb4 hn (by decide) (by decide) (by decide) H
 have kY:∀(T:List (List AV)),T=(iJ a).map (cQ (mV a))++(iJ b).map (cQ (mV b))->T.length<=128/\(∀i,i<T.length->∃n,(T.getD i []).take 3=bZ n/\(T.getD i []).length=5/\n≠V0/\IsD a b n/\bM (2^27) n)/\∀n d,(qD (fun i=>a.getD i V0) a.length n d\/qD (fun i=>b.getD i V0) b.length n d)->∃i,i<T.length/\(T.getD i []).take 3=bZ n:=by
  intro T hT
  have hm:∀x,x∈T->∃n,x.take 3=bZ n/\x.length=5/\n≠V0/\IsD a b n/\bM (2^27) n:=fun x hx=>by
   rw[hT,As] at hx
   rcases hx with hx|hx
   · obtain⟨q,hq,rfl⟩:=Bf.1 hx;have hF:=(hFa.fl.mem q).1 hq;exact⟨q.1,rfl,rfl,hF.fh.hn,.inl ⟨q.2,hF⟩,qQ na hF⟩
   obtain⟨q,hq,rfl⟩:=Bf.1 hx;have hF:=(hFb.fl.mem q).1 hq;exact⟨q.1,rfl,rfl,hF.fh.hn,.inr (.inl ⟨q.2,hF⟩),qQ nb hF⟩
  have hgm:∀x,x∈T->∃i,i<T.length/\T.getD i []=x:=fun x hx=>by obtain⟨i,hi,h⟩:=Cv hx;exact⟨i,hi,by simp[List.getD,hi,h]⟩
  refine⟨by rw[hT];simp;omega,fun i hi=>?_,fun n d h=>?_⟩
  · have :T.getD i []=T[i]:=by simp[List.getD,hi]
    rw[this];exact hm _ (Ai hi)
  rcases h with h|h
  · obtain⟨i,hi,e⟩:=hgm (cQ (mV a) (n,d)) (by rw[hT,As];exact .inl (Bf.2 ⟨_,(hFa.fl.mem (n,d)).2 h,rfl⟩));exact⟨i,hi,by rw[e];rfl⟩
  obtain⟨i,hi,e⟩:=hgm (cQ (mV b) (n,d)) (by rw[hT,As];exact .inr (Bf.2 ⟨_,(hFb.fl.mem (n,d)).2 h,rfl⟩));exact⟨i,hi,by rw[e];rfl⟩
 refine So bHm (by simp only[sf,cE wz,cE xc]) ?_ H;unfold W47;dsimp only;have hbe:((iJ b).map (cQ (mV b))).isEmpty=false:=by simpa using tR
 obtain⟨hTl,hTi,hTn⟩:=kY _ rfl;refine bS ?_;simp only[↓zP,zJ,seval];refine bT ?_;generalize hX:((aA.mk 0 .nil).alloc _).alloc _=HA;have m0:HA.get 0=some (.cells [.aV ta 3 (bF a)] false):=by subst hX;simp only[zI,seval]
 have m1:HA.get 1=some (.cells [.aV tb 3 (bF b)] false):=by subst hX;simp only[zI,seval]
 have mn:HA.next=2:=by subst hX;simp only[zI,seval]
 have mf:cN HA:=by subst hX;exact((cN.nil 0).alloc _).alloc _
 clear hX;refine bS ?_;simp only[↓zP,zJ,seval,m0];refine bK (fa _) ?_;simp only[↓zP,zG,seval];refine bT ?_;have oA:Own ((HA.alloc .tok).alloc .tok) 5 (.aV (HA.next+2) 5 ((iJ a).map (cQ (mV a)))) ((iJ a).map (cQ (mV a))):=.inr ⟨HA.next,rfl,by simp only[aA.bJ];omega,by rw[aA.aF,if_neg (by simp only[aA.bJ];omega),aA.aF,if_pos rfl]⟩;obtain⟨HB,z1,z2,z3,z4,z5⟩:=Has.push (.inr oA) (ys:=(iJ b).map (cQ (mV b))) (bytes:=56) hbe (by rw[An] at hTl;omega);have m0':((HA.alloc .tok).alloc .tok).get 0=some (.cells [.aV ta 3 (bF a)] false):=by rw[aA.aF,if_neg (by simp only[aA.bJ];omega),aA.aF,if_neg (by omega)];exact m0
 have m1':(HA.alloc .tok).get 1=some (.cells [.aV tb 3 (bF b)] false):=by rw[aA.aF,if_neg (by omega)];exact m1
 have bCp:((HA.alloc .tok).alloc .tok).get 1=some (.cells [.aV tb 3 (bF b)] false):=by rw[aA.aF,if_neg (by simp only[aA.bJ];omega)];exact m1'
 have b0:=(z4 0 (by simp only[aA.bJ];omega) (by rw[m0'];simp)).trans m0';have b1:=(z4 1 (by simp only[aA.bJ];omega) (by rw[bCp];simp)).trans bCp;have bf:=z5 ((mf.alloc _).alloc _);have bn:2<=HB.next:=by rw[z2];simp only[aA.bJ];omega
 generalize hHA:HA.alloc .tok=HA1 at *;refine bS ?_;simp only[↓zP,zJ,seval,m1'];refine bK (fb _) ?_;simp only[↓zP,zG,seval];rw[show ∀(h:aA) (x:List (List AV)) (t:Nat),dM h 5 (.aV t 5 x)=some x from fun _ _ _=>rfl];simp only[z1,bP,seval,zI];refine bT ?_;generalize (iJ a).map (cQ (mV a))++(iJ b).map (cQ (mV b))=T at *;generalize HA1.next+1+2=tg at *;clear z1 z2 z3 z4 z5 fa fb hbe oA;refine aJ fun K hK=>?_;refine bS ?_;simp only[↓zP,zG,seval];refine bT ?_;refine bG [] (fun i _ H'=>H'=HB/\∀j,j<i->∀n,(T.getD j []).take 3=bZ n->oF a b n=false) 0 T.length (Bb _) (by omega) (by decide) ?_ ?_ ?_ ?_ ?_
 · simp only[zB,seval]
 · exact⟨rfl,fun j hj=>absurd hj (Ax _)⟩
 · rintro i f H1 h0 hi hk e1 _;have f5:f 5=.aV tg 5 T:=hk 5 rfl;simp only[↓zP,zG,seval,e1,f5];exact tB (by omega)
 · rintro i f H1 h0 hi hk e1 ⟨rfl,vJ⟩;have f2:f 2=.ref 0 0:=hk 2 rfl;have f3:f 3=.ref 1 0:=hk 3 rfl;have f5:f 5=.aV tg 5 T:=hk 5 rfl;obtain⟨n,t3,t5,Wb,hD,hnn⟩:=hTi i hi;have hse:=Ze n hnn;rw[Al Wb,Cq] at hse;have t3':3<=(T.getD i []).length:=by omega
   refine aH ?_;refine bS ?_;refine Dz ?_;simp only[↓zP,zJ,seval,zD,f2,f3,f5,e1,b0,b1,aB,hi,t3,t5];refine eT (hse _) ?_;simp only[↓zP,zJ,seval,zD];refine bT ?_;by_cases hs:oF a b n=true
   · simp only[↓zP,zG,seval,hs];refine Rx ?_;rw[show lX a b=true from pM.2 ⟨n,hD,hs⟩];rfl
   have EG:oF a b n=false:=(by simpa using hs);simp only[↓zP,zG,seval,EG];refine⟨trivial,fun j hj n' Mj=>?_⟩;by_cases hji:j=i
   · subst hji
     have :n'=n:=by rw[t3] at Mj;obtain⟨x,y,z⟩:=n;obtain⟨x',y',z'⟩:=n';simp only[bZ,Hl,AV.int.injEq,Jx,Kq] at Mj;obtain⟨h1,h2,h3⟩:=Mj;subst h1;subst h2;subst h3;rfl
     rw[this];exact EG
   exact vJ j (by omega) n' Mj
 rintro f H1 hk ⟨rfl,vJ⟩;have f2:f 2=.ref 0 0:=hk 2 rfl;have f3:f 3=.ref 1 0:=hk 3 rfl;simp only[↓zP,seval];apply hK;clear hK K;refine bS ?_;simp only[↓zP,zJ,seval,f2,b0];refine bK (ea _) ?_;simp only[↓zP,zG,seval];refine fL ?_;simp only[↓zP,zJ,seval,f3,b1];refine bK (eb _) ?_;simp only[↓zP,zG,seval];refine bT ?_;refine aJ fun K hK=>?_;refine bS ?_;simp only[↓zP,zG,seval];refine bT ?_;have p9:∀i (h:i<U.length),(bF U).getD i []=bZ U[i]:=fun i h=>bY h;have hwl:∀i (h:i<W'.length),(bF W').getD i []=bZ W'[i]:=fun i h=>bY h;have hUl:(bF U).length=U.length:=aL _;have hWl:(bF W').length=W'.length:=aL _;refine bG [] (fun i _ H'=>H'.get 0=some (.cells [.aV ta 3 (bF a)] false)/\H'.get 1=some (.cells [.aV tb 3 (bF b)] false)/\2<=H'.next/\cN H'/\∀u∈U.take i,∀w∈W',(decide (aG.aT u w≠V0)&&oF a b (aG.aT u w))=false) 0 U.length (Bb _) (by omega) (by decide) ?_ ?_ ?_ ?_ ?_
 · simp only[zB,seval]
 · exact⟨b0,b1,bn,bf,fun u hu=>by simp at hu⟩
 · rintro i g H2 h0 hi dA e2 _;have g8:g 8=.aV 0 3 (bF U):=dA 8 rfl;simp only[↓zP,zG,seval,e2,g8,hUl];exact tB (by omega)
 · rintro i g H2 h0 hi dA e2 ⟨c0,c1,cn,cf,hnu⟩;have g2:g 2=.ref 0 0:=by rw[dA 2 rfl];simp only[zB,seval];exact f2
   have g3:g 3=.ref 1 0:=(by rw[dA 3 rfl];simp only[zB,seval];exact f3);have g8:g 8=.aV 0 3 (bF U):=dA 8 rfl;have g9:g 9=.aV 0 3 (bF W'):=dA 9 rfl;have hgu:=p9 i hi;have hum:=(mU _).1 (Ai hi);have nu:=nU _ (Ai hi)
   have sH:∀y,y∈U.take (i+1)->y∈U.take i\/y=U[i]:=fun y hy=>by
    rw[Ap,As] at hy
    rcases hy with h|h
    · exact .inl h
    simp[hi] at h;exact .inr h
   generalize U[i]=u at *;refine aH ?_;refine bS ?_;simp only[↓zP,zG,seval];refine bT ?_;refine bG [] (fun j _ H'=>H'.get 0=some (.cells [.aV ta 3 (bF a)] false)/\H'.get 1=some (.cells [.aV tb 3 (bF b)] false)/\2<=H'.next/\cN H'/\∀w∈W'.take j,(decide (aG.aT u w≠V0)&&oF a b (aG.aT u w))=false) 0 W'.length (Bb _) (by omega) (by decide) ?_ ?_ ?_ ?_ ?_
   · simp only[zB,seval]
   · exact⟨c0,c1,cn,cf,fun w hw=>by simp at hw⟩
   · rintro j g' H3 h0 hj kR e3 _;have g9':g' 9=.aV 0 3 (bF W'):=(by rw[kR 9 rfl];simp only[zB,seval];exact g9);simp only[↓zP,zG,seval,e3,g9',hWl];exact tB (by omega)
   · rintro j g' H3 h0 hj kR e3 ⟨d0,d1,dn,df,hnw⟩;have og:g' 2=.ref 0 0:=(by rw[kR 2 rfl];simp only[zB,seval];exact g2);have g3':g' 3=.ref 1 0:=(by rw[kR 3 rfl];simp only[zB,seval];exact g3);have g8':g' 8=.aV 0 3 (bF U):=(by rw[kR 8 rfl];simp only[zB,seval];exact g8);have g9':g' 9=.aV 0 3 (bF W'):=(by rw[kR 9 rfl];simp only[zB,seval];exact g9);have g10:g' 10=.int .i64 i:=(by rw[kR 10 rfl];simp only[zB,seval];exact e2);have hgw:=hwl j hj;have hwm:=(mW _).1 (Ai hj);have nw:=nW _ (Ai hj)
     have bGh:∀y,y∈W'.take (j+1)->y∈W'.take j\/y=W'[j]:=fun y hy=>by
      rw[Ap,As] at hy
      rcases hy with h|h
      · exact .inl h
      simp[hj] at h;exact .inr h
     generalize W'[j]=w at *;have ncr:=jX nu nw;have hcr:=s9 nu nw (by decide) (by decide);have hnr:=b8 ncr (by decide);have hse:=Ze (aG.aT u w) ncr
     have uF:(decide (aG.aT u w≠V0)&&oF a b (aG.aT u w))=true->lX a b=true:=fun h=>by rw[Am,Bh] at h;exact pM.2 ⟨_,.inr (.inr ⟨u,w,hum,hwm,rfl,h.1⟩),h.2⟩
     generalize hsv:(decide (aG.aT u w≠V0)&&oF a b (aG.aT u w))=sv at *;have d3:∀v:aG.V,(bZ v).take 3=bZ v:=fun _=>rfl;refine aH ?_;refine bS ?_;refine nG 1 (by decide) df.at1 fun H4 n4 e4=>?_;simp only[↓zP,zJ,seval,zD,g8',g9',g10,e3,aB,hUl,hWl,hi,hj,hgu,hgw,oL (aM u),oL (aM w)];refine eT (hcr _) ?_;simp only[seval];refine eT (hnr _) ?_;generalize hcv:aG.aT u w=cv at *;simp only[↓zP,zJ,seval,zD,n4,e4,oL (aM cv)];refine bT ?_;have q0:¬(0=H3.next):=(by omega);have q1:¬(1=H3.next):=(by omega);generalize hX:(H4.set H3.next _).set H3.next _=H5;have y0:H5.get 0=some (.cells [.aV ta 3 (bF a)] false):=(by subst hX;rw[aA.aC,if_neg q0,aA.aC,if_neg q0,e4];exact d0);have y1:H5.get 1=some (.cells [.aV tb 3 (bF b)] false):=(by subst hX;rw[aA.aC,if_neg q1,aA.aC,if_neg q1,e4];exact d1);have y2:H5.get H3.next=some (.cells (bZ cv) false):=(by subst hX;rw[aA.aC,if_pos rfl]);have yn:2<=H5.next:=by subst hX;simp only[aA.aX];omega
     have yf:cN H5:=fun j hj=>by subst hX;simp only[aA.aX] at hj;rw[aA.aC,if_neg (by omega),aA.aC,if_neg (by omega),e4];exact df j (by omega)
     clear hX;generalize H3.next=r5 at *;refine bS ?_;simp only[↓zP,zJ,seval,og,g3',y0,y1,y2,oL (aM cv)];refine bK (hse _) ?_;simp only[↓zP,zG,seval];refine bT ?_
     cases sv with
     |true=>simp only[↓zP,zG,seval];refine Rx ?_;rw[uF rfl];rfl
     |false=>
      simp only[↓zP,zG,seval];refine⟨y0,y1,yn,yf,fun y hy=>?_⟩
      rcases bGh y hy with h|rfl
      · exact hnw y h
      rw[hcv];exact hsv
   rintro g' H3 kR ⟨d0,d1,dn,df,hnw⟩;rw[Ar] at hnw;simp only[↓zP,zG,seval];refine⟨d0,d1,dn,df,fun y hy=>?_⟩
   rcases sH y hy with h|rfl
   · exact hnu y h
   exact hnw
 rintro g H2 dA ⟨c0,c1,cn,cf,hnu⟩;rw[Ar] at hnu;simp only[↓zP,seval];apply hK;clear hK K;simp only[↓zP,zG,seval];refine Rx ?_
 have :lX a b=false:=by
  rw[<-Gg,pM];rintro⟨n,hn,hs⟩
  rcases hn with ⟨d,h⟩|⟨d,h⟩|⟨u,w,hu,hw,rfl,Wb⟩
  · obtain⟨i,hi,e⟩:=hTn n d (.inl h);rw[vJ i hi n e] at hs;cases hs
  · obtain⟨i,hi,e⟩:=hTn n d (.inr h);rw[vJ i hi n e] at hs;cases hs
  have :=hnu u ((mU u).2 hu) w ((mW w).2 hw);rw[Al Wb,hs] at this;cases this
 rw[this];rfl
end Go.Proofs.YtbndcmnnbiiobaaGreatDoor
