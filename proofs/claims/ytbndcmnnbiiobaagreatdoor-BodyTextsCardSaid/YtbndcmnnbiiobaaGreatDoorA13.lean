/-
  Part of the proof of statement 5
-/
import Derived.Test.YtbndcmnnbiiobaaGreatDoorA12
import Derived.Test.YtbndcmnnbiiobaaGreatDoorA08
import Derived.Test.YtbndcmnnbiiobaaGreatDoorA07
import Derived.Test.YtbndcmnnbiiobaaGreatDoorA09
set_option linter.unusedVariables false
set_option maxRecDepth 100000
set_option maxHeartbeats 16000000
namespace Go.Proofs.YtbndcmnnbiiobaaGreatDoor
open Go Go.Av Go.aG
attribute [local congr] aU aO aP aN aY aR aQ aI aZ
attribute [local irreducible] FC bL eU
theorem TH {n:aG.V} {p:Nat->aG.V} {on:List Nat} {s m:Nat} (h:aG.Way n p on s m (vB n p on)) (i:Nat):Mu n p on (iter (vB n p on) i s)=some (iter (vB n p on) (i+1) s):=by obtain⟨ho,hS⟩:=h.side i;obtain⟨b,hb,_⟩:=XC h.H ho (hS.crn h.H ho) ⟨_,hS.1,hS.2.1⟩;show _=some ((aG.Mu n p on _).getD 0);rw[hb];rfl
theorem aKi {n:aG.V} {p:Nat->aG.V} {on:List Nat} {s m:Nat} (h:aG.Way n p on s m (vB n p on)):2<=m:=by
 rcases Hg 1 m with h1|h1
 · exact h1
 have hm:m=1:=by have :=h.pos;omega
 have hb:=h.back;rw[hm] at hb;exact absurd hb (h.side 0).2.2.1
theorem JV {H H':aA} {sz:Nat} {v:AV} {els:List (List AV)} (h:Own H sz v els) (hn:H.next<=H'.next) (hk:∀k,k<H.next->H.get k=some .tok->H'.get k=some .tok):Own H' sz v els:=by
 rcases h with ⟨rfl,rfl⟩|⟨k,rfl,h1,h2⟩
 · exact .inl ⟨rfl,rfl⟩
 exact .inr ⟨k,rfl,by omega,hk k h1 h2⟩
theorem Po (a b:List Nat):zH (a++b)=zH a++zH b:=by simp[zH]
theorem FZ (a:List Nat):dJ (zH a)=true:=dF (fun _=>by simp only[sf]) a
theorem QB {tag:Nat} (ht:Nat.blt tag 2=true) {l:List aG.V} {M:Nat} (hl:∀v∈l,bM M v) (hM:M<=2^18) (hlen:l.length<=64) {q:aG.V×Int} {B:Nat} (hq:bM B q.1) (hB:3*(B*M)<2^62)
 {L:List Nat} (hP:Poly (fun i=>l.getD i V0) l.length q.1 q.2 L) (H:aA):
 Sg 146 [.aV tag 3 (bF l),.agg (lK q)] H (.ret (.aV 0 1 (zH L))) H:=by
 refine dH fit dQ aYp (Af rfl) (by simp only[sf,cE ht,CE]) ?_ H;obtain⟨s0,r,m,YF,W,rfl⟩:=hP.ex;unfold aNw;dsimp only;have cG:∀k (h:k<l.length),l.getD k V0=l[k]:=fun k h=>by simp[List.getD,h]
 have p4:(lK q).length=4:=rfl;have p3:(lK q).take 3=bZ q.1:=rfl;have p1:(lK q).getD 3 aD=.int .i64 q.2:=rfl;refine bS ?_;simp only[↓zP,zJ,seval];refine fL ?_;simp only[↓zP,zJ,seval];refine bT ?_;refine aJ fun K hK=>?_;refine bS ?_;simp only[↓zP,zJ,seval];refine bT ?_;generalize Wc:jP (fun i=>l.getD i V0) l.length q.1 q.2=on at *;have h0:cN (((aA.mk 0 .nil |>.alloc (.cells [.aV tag 3 (bF l)] false)).alloc (.cells (lK q) false)).alloc (.cells [.aS] false)):=(((cN.nil 0).alloc _).alloc _).alloc _;refine bQ [] (fun i vs H'=>∃v,H'.get 2=some (.cells [v] false)/\Own H' 1 v (zH ((List.range i).filter fun k=>decide (aG.dot q.1 (l.getD k V0)=q.2)))/\H'.get 0=some (.cells [.aV tag 3 (bF l)] false)/\H'.get 1=some (.cells (lK q) false)/\3<=H'.next/\cN H') l.length (by omega) (by decide) ?_ ?_ ?_ ?_ ?_
 · simp only[zB,seval]
 · simp only[zB,seval,aL]
 · exact⟨.aS,by simp only[zI,seval],.nil _ _,by simp only[zI,seval],by simp only[zI,seval],by simp only[zI,seval],h0⟩
 · rintro i f H1 hi hk e1 ⟨v,g2,ho,g0,g1,hn,hf⟩;have hg:=bY hi;have AJ:=cG i hi;have hx:=hl _ (Ai hi)
   have aBa:(List.range (i+1)).filter (fun k=>decide (aG.dot q.1 (l.getD k V0)=q.2))=(List.range i).filter (fun k=>decide (aG.dot q.1 (l.getD k V0)=q.2))++(if aG.dot q.1 l[i]=q.2 then [i] else []):=by rw[Fj,Jr];congr 1;simp only[Ka,Kk,AJ,Bh]
   have tS:((List.range i).filter fun k=>decide (aG.dot q.1 (l.getD k V0)=q.2)).length<=64:=by have :=Dj (fun k=>decide (aG.dot q.1 (l.getD k V0)=q.2)) (List.range i);rw[Bs] at this;omega
   rw[aBa];generalize (List.range i).filter (fun k=>decide (aG.dot q.1 (l.getD k V0)=q.2))=on0 at *;generalize l[i]=x at *;have nx1:¬(1=H1.next):=(by omega);have xf:¬(2=H1.next):=(by omega);have UR:¬(0=H1.next):=(by omega);refine aH ?_;refine bS ?_;simp only[↓zP,zJ,seval,e1,hk 11 rfl,aB,aL,hi,hg,oL (aM x)];refine fL ?_;refine Dz ?_;simp only[↓zP,zJ,seval,zD,hk 3 rfl,nx1,g1,p4,p3,oL (aM x)];refine eT (IX hq hx hB _) ?_;simp only[↓zP,zJ,seval,zD,hk 3 rfl,nx1,g1,p4,p1];refine bT ?_;generalize hX:(H1.alloc _).set H1.next _=H4;have y0:H4.get 0=some (.cells [.aV tag 3 (bF l)] false):=(by subst hX;rw[aA.aC,if_neg UR,aA.aF,if_neg UR];exact g0);have y1:H4.get 1=some (.cells (lK q) false):=(by subst hX;rw[aA.aC,if_neg nx1,aA.aF,if_neg nx1];exact g1);have y2:H4.get 2=some (.cells [v] false):=(by subst hX;rw[aA.aC,if_neg xf,aA.aF,if_neg xf];exact g2);have yn:3<=H4.next:=(by subst hX;simp only[aA.aX,aA.bJ];omega);have yf:cN H4:=by subst hX;exact(hf.alloc _).set (by simp) _
   have yo:Own H4 1 v (zH on0):=by refine JV ho (by subst hX;simp only[aA.aX,aA.bJ];omega) fun k h1 h2=>?_;subst hX;rw[aA.aC,if_neg (by omega),aA.aF,if_neg (by omega)];exact h2
   by_cases hc:aG.dot q.1 x=q.2
   · have hb:(aG.dot q.1 x==q.2)=true:=Dc.2 hc;obtain⟨H5,z1,z2,z3,z4,z5⟩:=Has.push (.inr yo) (ys:=[[AV.int .i64 (i:Int)]]) (bytes:=8) rfl (by simp only[dP,Ah,Ay];omega);simp only[↓zP,zJ,seval,hb,hk 5 rfl,y2];rw[show dM H4 1 (.aV 1 1 [[.int .i64 (i:Int)]])=some [[.int .i64 (i:Int)]] from rfl];have w2:=(z4 2 (by omega) (by rw[y2];simp)).trans y2;simp only[z1,bP,zJ,seval,w2];rw[if_pos hc,Po];exact⟨_,rfl,.inr ⟨H4.next,rfl,by simp only[aA.aX];omega,by rw[aA.aC,if_neg (by omega)];exact z3⟩,(z4 0 (by omega) (by rw[y0];simp)).trans y0,(z4 1 (by omega) (by rw[y1];simp)).trans y1,by omega,(z5 yf).set (by omega) _⟩
   have hb:(aG.dot q.1 x==q.2)=false:=Ca.2 hc;simp only[↓zP,zG,seval,hb];rw[if_neg hc,Bz];exact⟨v,y2,yo,y0,y1,yn,yf⟩
 rintro f H1 hk ⟨v,g2,ho,g0,g1,hn,hf⟩;have e0:(List.range l.length).filter (fun k=>decide (aG.dot q.1 (l.getD k V0)=q.2))=on:=Wc;rw[e0] at ho;simp only[↓zP,seval];apply hK;clear hK K;have bN:zH on≠[]:=by rw[YF];simp[zH]
 rcases ho with ⟨_,h⟩|⟨tk,rfl,ht1,ht2⟩
 · exact absurd h bN
 have aLi:on.length<=64:=by have :=Dj (fun k=>decide (aG.dot q.1 (l.getD k V0)=q.2)) (List.range l.length);rw[e0,Bs] at this;omega
 have eQ:∀k∈on,k<l.length:=fun k hk=>by rw[<-Wc] at hk;exact(dN.1 hk).1
 have hg0:(zH on).getD 0 []=[AV.int .i64 (s0:Int)]:=by rw[YF];rfl
 have a0:asNat (.int .i64 0)=some 0:=rfl;have wF:0<(zH on).length:=by rw[YF];simp[zH]
 have nx:∀j,j<3->¬(j=H1.next):=fun j hj=>by omega
 have hs0:=eQ _ W.hs;refine bS ?_;simp only[↓zP,zJ,seval,hk 5 rfl,hk 2 rfl,hk 3 rfl];refine fL ?_;simp only[↓zP,zJ,seval,hk 5 rfl,g2,wF,hg0,a0];refine bT ?_;obtain⟨H2,hm,hS⟩:=jd (tag:=tag) hl hM hlen eQ aLi hs0 q hf (i1:=2) (i2:=0) (i3:=1) (by omega) (by omega) (by omega) g2 g0 g1;have e0':=TH W 0;change aG.Mu _ _ _ s0=_ at e0';rw[e0'] at hS;refine aJ fun K hK=>?_;refine bS ?_;simp only[↓zP,zJ,seval,hk 5 rfl,g2,wF,hg0,a0];refine Ny (fs:=[]) (cs:=[.ref 2 0,.ref 0 0,.ref 1 0]) (by decide) (by simp only[↓zP,zG,seval]) (by simp only[sm,zB,seval];rfl) hS ?_;simp only[↓zP,zG,seval];refine bT ?_;refine aH ?_
 refine fK [9,10] (fun M' vs H'=>∃i,i<m/\M'=m -i/\∃v,vs=[v,.int .i64 (iter (vB q.1 (fun i=>l.getD i V0) on) (i+1) s0:Nat)]/\Has H' 1 v (zH ((List.range (i+1)).map fun i=>iter (vB q.1 (fun i=>l.getD i V0) on) i s0))/\(0<i->v≠ .aV 1 1 (zH ((List.range (i+1)).map fun i=>iter (vB q.1 (fun i=>l.getD i V0) on) i s0)))/\
  H'.get 2=some (.cells [.aV (tk+2) 1 (zH on)] false)/\H'.get 0=some (.cells [.aV tag 3 (bF l)] false)/\H'.get 1=some (.cells (lK q) false)/\3<=H'.next/\cN H') m (by rfl) ?_ ?_
 · refine⟨0,W.pos,rfl,_,by simp only[sm,zB,seval];rfl,.inl rfl,fun h=>absurd h (Fe 0),(hm.same 2 (by omega)).trans g2,(hm.same 0 (by omega)).trans g0,(hm.same 1 (by omega)).trans g1,by have :=hm.le;omega,hm.free⟩
 clear hS hm H2 g2 g0 g1 hf hn ht1 ht2;rintro M' f2 H2 dA ⟨i,hi,rfl,v,hv,ho,aBh,g2,g0,g1,hn,hf⟩;simp only[zM] at hv;obtain⟨v9,v10⟩:=hv;refine aJ fun K2 cK=>?_;refine bS ?_;simp only[↓zP,zJ,seval,dA 5 rfl,hk 5 rfl,g2,wF,hg0,a0,v10];refine bT ?_;by_cases VJ:i+1=m
 · have hb:((iter (vB q.1 (fun i=>l.getD i V0) on) (i+1) s0:Int) != (s0:Int))=false:=by rw[VJ,W.back];simp
   have h2:=aKi W;simp only[↓zP,zG,seval,hb];apply hK;clear hK K cK K2;simp only[↓zP,zG,seval,v9];refine Rx ?_;rw[<-VJ];exact⟨v,0,rfl,fun nw=>ho.shut (by simp[zH]) (aBh (by omega)) (FZ _) nw⟩
 have hb:((iter (vB q.1 (fun i=>l.getD i V0) on) (i+1) s0:Int) != (s0:Int))=true:=by have :=W.first (i+1) (by omega) (by omega);simp only[El,ne_eq];omega
 simp only[↓zP,zG,seval,hb];apply cK;clear cK K2;obtain⟨ho1,hS1⟩:=W.side (i+1);have BN:=eQ _ ho1;have hnp:=TH W (i+1);have bKa:=W.le;have aWu:((List.range (i+1)).map fun i=>iter (vB q.1 (fun i=>l.getD i V0) on) i s0).length=i+1:=by simp
 have hrs:(List.range (i+1+1)).map (fun i=>iter (vB q.1 (fun i=>l.getD i V0) on) i s0)=(List.range (i+1)).map (fun i=>iter (vB q.1 (fun i=>l.getD i V0) on) i s0)++[iter (vB q.1 (fun i=>l.getD i V0) on) (i+1) s0]:=by rw[Fj (n:=i+1),Ch];rfl
 obtain⟨H5,z1,z2,z3,z4,z5⟩:=ho.push (ys:=[[AV.int .i64 (iter (vB q.1 (fun i=>l.getD i V0) on) (i+1) s0:Nat)]]) (bytes:=8) rfl (by rw[dP,aWu,Ah,Ay];omega);have w2:=(z4 2 (by omega) (by rw[g2];simp)).trans g2;have w0:=(z4 0 (by omega) (by rw[g0];simp)).trans g0;have w1:=(z4 1 (by omega) (by rw[g1];simp)).trans g1;obtain⟨H6,hm,hS⟩:=jd (tag:=tag) hl hM hlen eQ aLi BN q (z5 hf) (i1:=2) (i2:=0) (i3:=1) (by omega) (by omega) (by omega) w2 w0 w1;rw[hnp] at hS;refine bS ?_;refine aH ?_;simp only[↓zP,zJ,seval,v9,v10];rw[show ∀x:AV,dM H2 1 (.aV 1 1 [[x]])=some [[x]] from fun _=>rfl];simp only[z1,bP,seval];refine bT ?_;simp only[↓zP,zJ,seval,dA 8 rfl,v10];refine Ny (fs:=[]) (cs:=[.ref 2 0,.ref 0 0,.ref 1 0]) (by decide) (by rfl) (by rfl) hS ?_;simp only[↓zP,zG,seval];refine⟨m -(i+1),by omega,i+1,by omega,rfl,.aV (H2.next+2) 1 _,rfl,?_,fun _ h=>by injection h with h;omega,(hm.same 2 (by omega)).trans w2,(hm.same 0 (by omega)).trans w0,(hm.same 1 (by omega)).trans w1,by have :=hm.le;omega,hm.free⟩;rw[hrs,Po];exact .inr (.inr ⟨H2.next,rfl,by have :=hm.le;omega,(hm.same _ (by omega)).trans z3⟩)
def cQ (L:aG.V×Int->List Nat) (q:aG.V×Int):List AV:=[.int .i64 q.1.x,.int .i64 q.1.y,.int .i64 q.1.z,.int .i64 q.2,.aV 0 1 (zH (L q))]
theorem qP (L:aG.V×Int->List Nat) (q:aG.V×Int):bU (cQ L q)=true:=by simp only[cQ,bU,AV.free,FZ,Cq];rfl
structure wS (l:List aG.V) (S:List (aG.V×Int)) (L:aG.V×Int->List Nat):Prop where
 fl:pD (fun i=>l.getD i V0) l.length S
 po:∀q∈S,Poly (fun i=>l.getD i V0) l.length q.1 q.2 (L q)
theorem qQ {l:List aG.V} {M:Nat} (hl:∀v∈l,bM M v) {q:aG.V×Int} (h:qD (fun i=>l.getD i V0) l.length q.1 q.2):bM (2*((M+M)*(M+M))) q.1:=by
 obtain⟨i,j,k,h1,h2,h3,hc⟩:=fU h
 have hn:∀k,k<l.length->bM M (l.getD k V0):=fun k hk=>by
  have :l.getD k V0=l[k]:=by simp[List.getD,hk]
  rw[this];exact hl _ (Ai hk)
 have key:bM (2*((M+M)*(M+M))) (eS (fun i=>l.getD i V0) i j k).1:=
  tT (jX (fM (hn j (by omega)) (hn i (by omega))) (fM (hn k (by omega)) (hn i (by omega))))
 unfold iA at hc;split at hc
 · cases hc
 simp only[Aq,Bx,Em] at hc
 rcases hc with e|e
 · have e1:q.1=(eS (fun i=>l.getD i V0) i j k).1:=Ao Prod.fst e;rw[e1];exact key
 have e1:q.1=aG.neg (eS (fun i=>l.getD i V0) i j k).1:=Ao Prod.fst e;rw[e1];exact JQ key
theorem Vd {p:Nat->aG.V} {N:Nat} {S:List (aG.V×Int)} (h:pD p N S):S.Nodup:=Hv (fun {a b} (h:gW a.1 b.1) (e:a=b)=>gW.qh b.1 (by rw[e] at h;exact h)) h.TD
theorem KZ {tag:Nat} (ht:Nat.blt tag 2=true) {l:List aG.V} {M:Nat} (hl:∀v∈l,bM M v) (hM:M<=2^18) (hlen:l.length<=64) {S:List (aG.V×Int)} {L:aG.V×Int->List Nat} (hS:wS l S L) (bN:S≠[]) (H:aA):
 Sg 127 [.agg [.aV tag 3 (bF l)]] H (.ret (.aV (H.next+2) 5 (S.map (cQ L)))) (H.alloc .tok):=by
 refine CV dQ (by simp only[sf,cE ht]) (by simpa using bN) (dF (qP L) S) ?_ H;refine gA fit aYh (Af rfl) ?_;unfold aNp;dsimp only;refine bS ?_;simp only[↓zP,zJ,seval];refine fL ?_;simp only[↓zP,zG,seval];refine bT ?_
 have fu:S.length<=2^20:=by have h1:=DF (N:=l.length) (p:=fun i=>l.getD i V0) (Vd hS.fl) (fun q hq=>(hS.fl.mem q).1 hq);have h2:l.length*(l.length*(l.length*2))<=64*(64*(64*2)):=Bv hlen (Bv hlen (Bv hlen (Ak _)));omega
 have kY:jQ 4 (S.map lK)=.aV 0 4 (S.map lK):=if_neg (by simpa using bN);have nP:=Sr ht hl hM hlen hS.fl;rw[kY] at nP;refine aJ fun K hK=>?_;refine bS ?_;simp only[↓zP,zJ,seval];refine bK (nP _) ?_;simp only[↓zP,zG,seval];refine bT ?_;refine bQ [3] (fun i vs H'=>∃v,vs=[v]/\Own H' 5 v ((S.take i).map (cQ L))/\H'.get 0=some (.cells [.aV tag 3 (bF l)] false)/\1<=H'.next) S.length (by omega) (by decide) ?_ ?_ ?_ ?_ ?_
 · simp only[zB,seval]
 · simp only[zB,seval,Ad]
 · exact⟨.aS,by simp only[sm,zB,seval],.nil _ _,by simp only[zI,seval],by simp only[zI,seval]⟩
 · rintro i f H1 hi hk e1 ⟨v,hv,ho,g0,hn⟩;simp only[zM] at hv;have hg:(S.map lK).getD i []=lK S[i]:=dT hi;have hqS:=Ai hi;have hq:=qQ hl ((hS.fl.mem _).1 hqS);have Wd:=hS.po _ hqS
   have sH:(S.take (i+1)).map (cQ L)=(S.take i).map (cQ L)++[cQ L S[i]]:=by rw[Ap,Ch];simp[hi]
   rw[sH];have htl:((S.take i).map (cQ L)).length=i:=(by simp;omega);generalize S[i]=q at *;have hMM:(M+M)*(M+M)<=2^19*2^19:=Bv (by omega) (by omega);have aWd:2*((M+M)*(M+M))*M<=2^39*2^18:=Bv (by omega) (by omega);have p4:(lK q).length=4:=rfl;have p3:(lK q).take 3=bZ q.1:=rfl;have p1:(lK q).getD 3 aD=.int .i64 q.2:=rfl;have UR:¬(0=H1.next):=(by omega);have hpg:=QB ht hl hM hlen hq (by omega) Wd;have ho':=ho;refine aH ?_;refine bS ?_;simp only[↓zP,zJ,seval,e1,hk 8 rfl,aB,Ad,hi,hg,oL p4];refine bT ?_;generalize hX:(H1.alloc _).set H1.next _=H4;have u0:H4.get 0=some (.cells [.aV tag 3 (bF l)] false):=(by subst hX;rw[aA.aC,if_neg UR,aA.aF,if_neg UR];exact g0);have u1:H4.get H1.next=some (.cells (lK q) false):=(by subst hX;rw[aA.aC,if_pos rfl]);have un:H4.next=H1.next+1:=by subst hX;simp only[aA.aX,aA.bJ]
   have uo:Own H4 5 v ((S.take i).map (cQ L)):=by refine JV ho (by omega) fun k h1 h2=>?_;subst hX;rw[aA.aC,if_neg (by omega),aA.aF,if_neg (by omega)];exact h2
   clear hX;obtain⟨H5,z1,z2,z3,z4,z5⟩:=Has.push (.inr uo) (ys:=[cQ L q]) (bytes:=56) rfl (by rw[htl,Ah,Ay];omega);generalize H1.next=r1 at *;refine Dz ?_;simp only[↓zP,zJ,seval,zD,hk 1 rfl,hv,u0,u1,p4,p3,p1,oL p4];refine eT (hpg _) ?_;have bEv:[AV.int .i64 q.1.x,.int .i64 q.1.y,.int .i64 q.1.z,.int .i64 q.2,.aV 0 1 (zH (L q))]=cQ L q:=rfl;have tS:(cQ L q).length=5:=rfl;simp only[↓zP,zJ,seval,zD,u0,u1,bZ,bEv,tS];rw[show ∀x:List AV,dM H4 5 (.aV 1 5 [x])=some [x] from fun _=>rfl];simp only[z1,bP,seval];exact⟨by omega,_,rfl,.inr ⟨H4.next,rfl,by omega,z3⟩,(z4 0 (by omega) (by rw[u0];simp)).trans u0,by omega⟩
 rintro f H1 hk ⟨v,hv,ho,g0,hn⟩;simp only[zM] at hv;rw[Ar] at ho;simp only[↓zP,seval];apply hK;simp only[↓zP,zG,seval,hv];refine Rx ?_;exact⟨v,rfl,ho⟩
theorem Xs {tag:Nat} {l:List aG.V} (hlen:l.length<2^30) {id r:Nat} {o:Bool} (I:Nat->aA->Prop) (HJ:∀i H H',Over H H'->I i H->I i H')
 (eF:∀i (hi:i<l.length) H,I i H->∃H',sK Tryz.prog gv id [.agg (bZ l[i])] H (.ret (.bool true)) H'/\I (i+1) H') {H:aA} (hr:H.get r=some (.cells [.aV tag 3 (bF l)] o)) (h0:I 0 H):
 ∃H',I l.length H'/\Sg 227 [.yield id,.ref r 0] H (.ret (.gP [])) H':=by
 suffices h:∃out H',(out=.ret (.gP [])/\I l.length H')/\Sg 227 [.yield id,.ref r 0] H out H' by obtain⟨_,H',⟨rfl,hm⟩,hS⟩:=h;exact⟨H',hm,hS⟩
 refine gA fit aMb (Af rfl) ?_;unfold aFx;dsimp only;refine bS ?_;simp only[↓zP,zJ,seval,hr];refine bT ?_;refine bQ [] (fun i vs H'=>I i H') l.length (by omega) (by decide) ?_ ?_ ?_ ?_ ?_
 · simp only[zB,seval]
 · simp only[zB,seval,aL]
 · exact h0
 · rintro i f H1 hi hk e1 hI;have hg:=bY hi;have hs:=eF i hi;generalize l[i]=x at *;refine aH ?_;simp only[↓zP,zJ,seval,e1,hk 5 rfl,hk 0 rfl,aB,aL,hi,hg,oL (aM x)];obtain⟨H',hy,hI'⟩:=hs _ (HJ i _ _ (((Over.refl H1).alloc (.cells [.int .i64 0,.int .i64 0,.int .i64 0] false)).set (Ak _) (.cells (bZ x) false)) hI);refine FI (by decide) (by rfl) (by rfl) hy ?_;simp only[↓zP,zJ,seval];exact hI'
 rintro f H1 hk hI;refine⟨rfl,_,by simp only[zR,seval];rfl,?_⟩;exact⟨rfl,hI⟩
def LJ (H:aA) (lo:Nat) (v:AV) (l:List aG.V):Prop:=
 (l=[]/\v=.aS)\/∃nF,l≠[]/\v=.sl nF 3 0 l.length l.length/\H.get nF=some (.cells (bF l).flatten true)/\lo<=nF/\nF<H.next
theorem LJ.push {H:aA} {lo:Nat} {v:AV} {l:List aG.V} (h:LJ H lo v l) (AK:lo<=H.next) (hlen:l.length<2^20) (x:aG.V):
 ∃v' H',dU H 3 24 true v [bZ x]=some (v',H')/\LJ H' lo v' (l++[x])/\H'.next=H.next+1/\∀j,j<lo->H'.get j=H.get j:=by
 rcases h with ⟨rfl,rfl⟩|⟨nF,bN,rfl,hg,h1,h2⟩
 · refine⟨_,_,vE rfl (by simp),.inr ⟨H.next,by simp,rfl,by rw[aA.aF,if_pos rfl];rfl,AK,by simp⟩,by simp,fun j hj=>by rw[aA.aF,if_neg (by omega)]⟩
 have hl4:(bF l).flatten.length=l.length*3:=by rw[oR (sz:=3) (fun e he=>?_),aL];obtain⟨x,_,rfl⟩:=Bf.1 he;rfl
 refine⟨_,_,rL hg hl4 rfl (by simp only[Ah,Ay];omega) (by decide),.inr ⟨H.next,by simp,by simp,?_,AK,by simp⟩,by simp,fun j hj=>by rw[aA.aF,aA.aX,if_neg (by omega),aA.aC,if_neg (by omega)]⟩;rw[aA.aF,aA.aX,if_pos rfl];simp[bF]
theorem LJ.over {H H':aA} {lo:Nat} {v:AV} {l:List aG.V} (h:LJ H lo v l) (ho:Over H H'):LJ H' lo v l:=by
 rcases h with h|⟨nF,h0,h1,h2,h3,h4⟩
 · exact .inl h
 exact .inr ⟨nF,h0,h1,(ho.same _ h4).trans h2,h3,Cf h4 ho.le⟩
theorem TL {tag:Nat} {l:List aG.V} (hlen:l.length<=64) {r:Nat} {o:Bool} {H:aA} (wv:r<H.next) (hr:H.get r=some (.cells [.aV tag 3 (bF l)] o)):
 ∃H' v,Over H H'/\LJ H' H.next v l/\Sg 244 [.aS,.func (.func 227) [] [.ref r 0]] H (.ret v) H':=by
 suffices h:∃out H',(∃v,out=.ret v/\Over H H'/\LJ H' H.next v l)/\Sg 244 [.aS,.func (.func 227) [] [.ref r 0]] H out H' by obtain⟨_,H',⟨v,rfl,h1,h2⟩,hS⟩:=h;exact⟨H',v,h1,h2,hS⟩
 refine tD fit aMc (Af rfl) ?_;unfold aFy;dsimp only;refine bS ?_;simp only[↓zP,zJ,seval];refine bT ?_;refine aJ fun K hK=>?_;refine bS ?_;simp only[↓zP,zJ,seval];refine bT ?_
 have ER:nT 13 (jG (jG (jG (dW [.aS,.func (.func 227) [] [.ref r 0]]) 2 (.ref H.next 0)) 4 .aS) 6 (.func (.func 227) [] [.ref r 0])):=
  ((((xZ (Af rfl)).1.jG (by decide) _).jG (by decide) _).jG (by decide) _)
 have hf2:(jG (jG (jG (dW [.aS,.func (.func 227) [] [.ref r 0]]) 2 (.ref H.next 0)) 4 .aS) 6 (.func (.func 227) [] [.ref r 0])) 2=.ref H.next 0:=rfl;have hf6:(jG (jG (jG (dW [.aS,.func (.func 227) [] [.ref r 0]]) 2 (.ref H.next 0)) 4 .aS) 6 (.func (.func 227) [] [.ref r 0])) 6=.func (.func 227) [] [.ref r 0]:=rfl;generalize jG (jG (jG (dW [.aS,.func (.func 227) [] [.ref r 0]]) 2 (.ref H.next 0)) 4 .aS) 6 (.func (.func 227) [] [.ref r 0])=f at *;refine aH ?_;refine FH (by rw[jD];exact hf6) ?_;simp only[aA.bJ];generalize PA:LD.mk [7] _ _=key
 let I:Nat->aA->Prop:=fun i H'=>Over H H'/\H.next+3<=H'.next/\H'.get (H.next+1)=some .MO/\H'.get (H.next+2)=some (.loop key (LF 13 f) .ready)/\∃v,H'.get H.next=some (.cells [v] false)/\LJ H' (H.next+3) v (l.take i)
 have HJ:∀i H1 H2,Over H1 H2->I i H1->I i H2:=fun i H1 H2 ho ⟨w1,w2,w3,w4,v,w5,w6⟩=>⟨⟨Br w1.le ho.le,fun j hj=>(ho.same j (by omega)).trans (w1.same j hj)⟩,Br w2 ho.le,(ho.same _ (by omega)).trans w3,(ho.same _ (by omega)).trans w4,v,(ho.same _ (by omega)).trans w5,w6.over ho⟩
 have h0:I 0 (((H.alloc (.cells [.aS] false)).alloc .MO).alloc (.loop key (LF 13 f) .ready)):=
  ⟨(((Over.refl H).alloc _).alloc _).alloc _,by simp,by simp[aA.aF],by simp[aA.aF],.aS,by simp[aA.aF];omega,.inl ⟨by simp,rfl⟩⟩
 have eF:∀i (hi:i<l.length) H1,I i H1->∃H',sK Tryz.prog gv (H.next+1+1) [.agg (bZ l[i])] H1 (.ret (.bool true)) H'/\I (i+1) H':=by
  rintro i hi H1 ⟨w1,w2,w3,w4,v,w5,w6⟩;have sH:l.take (i+1)=l.take i++[l[i]]:=by rw[Ap];simp[hi]
  have htl:(l.take i).length=i:=by simp;omega
  generalize l[i]=x at *
  suffices h:∃H',TS Tryz.prog gv 13 key f (H.next+1+1) [.agg (bZ x)] H1 (.ret (.bool true)) H'/\I (i+1) H' by obtain⟨H',hr,hI⟩:=h;exact⟨H',YZ fit ER w4 (by rw[<-PA];rfl) hr,hI⟩
  have ov:Over H1 ((H1.alloc (.cells [.int .i64 0,.int .i64 0,.int .i64 0] false)).set H1.next (.cells (bZ x) false)):=((Over.refl H1).alloc _).set (Ak _) _;have gx:((H1.alloc (.cells [.int .i64 0,.int .i64 0,.int .i64 0] false)).set H1.next (.cells (bZ x) false)).get H1.next=some (.cells (bZ x) false):=by rw[aA.aC,if_pos rfl]
  have gn:((H1.alloc (.cells [.int .i64 0,.int .i64 0,.int .i64 0] false)).set H1.next (.cells (bZ x) false)).next=H1.next+1:=by simp
  have bEz:∀(HA:aA) (ob:dY),Over H1 HA->HA.get H1.next=some (.cells (bZ x) false)->HA.next=H1.next+1->∃v' Hp,dU (HA.set (H.next+1+1) ob) 3 24 true v [bZ x]=some (v',Hp)/\LJ Hp (H.next+3) v' (l.take (i+1))/\Hp.next=HA.next+1/\∀j,j<H.next+3->Hp.get j=(HA.set (H.next+1+1) ob).get j:=fun HA ob o1 o2 o3=>by
   have :LJ (HA.set (H.next+1+1) ob) (H.next+3) v (l.take i):=by
    rcases w6 with h|⟨nF,q0,q1,q2,q3,q4⟩
    · exact .inl h
    exact .inr ⟨nF,q0,q1,by rw[aA.aC,if_neg (by omega),o1.same _ q4];exact q2,q3,by rw[aA.aX];omega⟩
   obtain⟨v',Hp,h1,h2,h3,h4⟩:=this.push (by rw[aA.aX];omega) (by omega) x;exact⟨v',Hp,h1,by rw[sH];exact h2,h3,h4⟩
  have w4':=(ov.same (H.next+2) (by omega)).trans w4;have w5':=(ov.same H.next (by omega)).trans w5;have w3':=(ov.same (H.next+1) (by omega)).trans w3;have w1':Over H ((H1.alloc (.cells [.int .i64 0,.int .i64 0,.int .i64 0] false)).set H1.next (.cells (bZ x) false)):=⟨Br w1.le ov.le,fun j hj=>(ov.same j (by omega)).trans (w1.same j hj)⟩;obtain⟨v',Hp,p1,p2,p3,p4⟩:=bEz _ (.loop key (LF 13 f) .busy) ov gx gn
  obtain⟨sa,sb,sc,sd,se,rfl⟩:∃a b c d e,v'=.sl a b c d e:=by
   rcases p2 with ⟨h,_⟩|⟨nF,_,h,_⟩
   · rw[sH] at h;simp at h
   exact⟨_,_,_,_,_,h⟩
  refine⟨(Hp.set H.next (.cells [.sl sa sb sc sd se] false)).set (H.next+1+1) (.loop key (LF 13 f) .ready),?_,?_⟩
  · subst PA;unfold TS;dsimp only[List.zip,List.zipWith,tM,fD]
    have aHe:FC Tryz.prog gv 13 (.ops [⟨some 5,.alloc [.int .i64 0,.int .i64 0,.int .i64 0],none⟩,⟨none,.store 3 (.tmp 5) (.tmp 7),none⟩]) (jG f 7 (.agg (bZ x))) [] H1 (fun e f1 pQ H1'=>e=.normal/\f1=jG (jG f 7 (.agg (bZ x))) 5 (.ref H1.next 0)/\pQ=[]/\H1'=(H1.alloc (.cells [.int .i64 0,.int .i64 0,.int .i64 0] false)).set H1.next (.cells (bZ x) false)):=by simp only[↓zP,zJ,seval,oL (aM x)]
    refine jB (fun e f1 pQ H1' h=>?_) aHe;obtain⟨rfl,rfl,rfl,rfl⟩:=h;refine⟨rfl,_,_,w4',?_⟩;generalize (H1.alloc (.cells [.int .i64 0,.int .i64 0,.int .i64 0] false)).set H1.next (.cells (bZ x) false)=HA at *;refine aH ?_;have n1:¬(H.next=H.next+1+1):=(by omega);have n2:¬(H1.next=H.next+1+1):=(by omega);have pb:=(p4 H.next (by omega)).trans ((by rw[aA.aC,if_neg (by omega)]:_=HA.get H.next).trans w5');have pl:=(p4 (H.next+1+1) (by omega)).trans (by rw[aA.aC,if_pos rfl]);simp only[↓zP,zJ,seval,hf2,w5',gx,n1,n2,oL (aM x)];rw[eL];simp only[p1,bP,zJ,seval,pb];exact⟨rfl,rfl,_,_,by rw[aA.aC,if_neg (by omega)];exact pl,rfl⟩
  have pn:H1.next<=Hp.next:=by omega
  refine⟨⟨by simp only[aA.aX];have :=w1.le;omega,fun j hj=>?_⟩,by simp only[aA.aX];omega,?_,?_,.sl sa sb sc sd se,?_,?_⟩
  · rw[aA.aC,if_neg (by omega),aA.aC,if_neg (by omega),p4 j (by omega),aA.aC,if_neg (by omega)];exact w1'.same j hj
  · rw[aA.aC,if_neg (by omega),aA.aC,if_neg (by omega),p4 _ (by omega),aA.aC,if_neg (by omega)];exact w3'
  · rw[aA.aC,if_pos rfl]
  · rw[aA.aC,if_neg (by omega),aA.aC,if_pos rfl]
  rcases p2 with h|⟨nF,q0,q1,q2,q3,q4⟩
  · exact .inl h
  exact .inr ⟨nF,q0,q1,by rw[aA.aC,if_neg (by omega),aA.aC,if_neg (by omega)];exact q2,q3,by simp only[aA.aX];omega⟩
 obtain⟨He,⟨w1,w2,w3,w4,v,w5,w6⟩,hS⟩:=Xs (tag:=tag) (o:=o) (by omega) I HJ eF (r:=r) (by rw[aA.aF,if_neg (by simp;omega),aA.aF,if_neg (by simp;omega),aA.aF,if_neg (by omega)];exact hr) h0
 refine⟨_,He,_,_,_,hS,w4,fun Hf hf=>?_⟩;obtain⟨f1,f2⟩:=hf;show K f [.mark (H.next+1)] Hf;apply hK;clear hK K;have b0:Hf.get H.next=some (.cells [v] false):=by rw[f2,if_neg (by omega)];exact w5
 have b1:Hf.get (H.next+1)=some .MO:=by rw[f2,if_neg (by omega)];exact w3
 simp only[↓zP,zJ,seval,hf2,b0];rw[Ar] at w6;refine⟨b1,[v],rfl,v,rfl,⟨by rw[aA.aX,f1];exact w1.le,fun j hj=>by rw[aA.aC,if_neg (by omega),f2,if_neg (by omega)];exact w1.same j hj⟩,?_⟩
 rcases w6 with h|⟨nF,q0,q1,q2,q3,q4⟩
 · exact .inl h
 exact .inr ⟨nF,q0,q1,by rw[aA.aC,if_neg (by omega),f2,if_neg (by omega)];exact q2,by omega,by rw[aA.aX,f1];exact q4⟩
def aKd (p q:aG.V):Int:=orZ [uX p.x q.x,uX p.y q.y,uX p.z q.z]
theorem Nu (p q:aG.V):aKd p q<0↔gW p q:=CF (p,0) (q,0)
theorem ka (p q:aG.V) (H:aA):Sg 185 [.agg (bZ p),.agg (bZ q)] H (.ret (.int .i64 (aKd p q))) H:=by
 refine So aZk (by simp only[sf,cC]) ?_ H;unfold aOq;dsimp only;refine bS ?_;simp only[↓zP,zJ,seval];refine fL ?_;refine Dz ?_;simp only[↓zP,zJ,seval,zD,bZ,jI];refine eT (iQ p.x q.x _) ?_;simp only[↓zP,zJ,seval,zD,jI];refine eT (iQ p.y q.y _) ?_;simp only[↓zP,zJ,seval,zD,jI];refine eT (iQ p.z q.z _) ?_;simp only[↓zP,zJ,seval,zD];have SO:=ya [uX p.x q.x,uX p.y q.y,uX p.z q.z] (by simp);simp only[eA,sm] at SO;refine eT (SO _) ?_;simp only[↓zP,zJ,seval,zD];refine bT ?_;simp only[↓zP,seval]
 (refine Rx ?_;rfl)
def vV (q:aG.V):CX 3:=⟨[q.x,q.y,q.z],rfl⟩
def HF (x:CX 3):aG.V:=⟨x.1.getD 0 0,x.1.getD 1 0,x.1.getD 2 0⟩
theorem Uu (x:CX 3):vV (HF x)=x:=by
 obtain⟨l,hl⟩:=x
 match l,hl with
 |[a,b,c],_=>rfl
theorem ff (q:aG.V):WG (vV q)=bZ q:=rfl
theorem Um:∀S:List aG.V,(mG (S.map vV)).map (AV.int .i64)=(bF S).flatten
 |[]=>rfl
 |q::S=>by have :=Um S;simp only[mG,By,Cl,Ch,Bp,bF] at this ⊢;rw[this];rfl
theorem bJl:Go.Sort.SWO (Go.Proofs.ltOf fun x y:CX 3=>aKd (HF x) (HF y)) where
 irrefl x:=by simp only[Go.Proofs.ltOf,Nu,Cc];exact gW.qh _
 trans x y z h1 h2:=by simp only[Go.Proofs.ltOf,Nu,Bh] at *;exact gW.trans h1 h2
 ntrans x y z h1 h2:=by simp only[Go.Proofs.ltOf,Nu,Cc] at *;unfold gW at *;omega
theorem UW:tZ Tryz.prog 226:=⟨_,Tryz.func226,by kernel_rfl,by kernel_rfl⟩
theorem aEm (d:List (CX 3)) (hd:d.length<4611686018427387904):
 ∃d':List (CX 3),d'.Perm d/\(d'.Pairwise fun a b=>¬aKd (HF b) (HF a)<0)/\∀(H:aA) (id:Nat) (opn:Bool),H.get id=some (.cells ((mG d).map (AV.int .i64)) opn)->
  Sg 226 [.sl id 3 0 d.length d.length,.func (.func 185) [] []] H (.ret (.gP [])) (H.set id (.cells ((mG d').map (AV.int .i64)) opn)):=
 FM (fun _=>rfl) Tryz.aEl (by decide) Tryz.isAgg46 Tryz.sizeOf46 rfl UW (ka V0 V0 ⟨0,.nil⟩).1 bJl (fun x y=>by
  have :=ka (HF x) (HF y) ⟨0,.nil⟩
  rwa [<-ff,<-ff,Uu,Uu] at this) d hd
theorem kz {tag:Nat} (l:List aG.V) (H:aA):Sg 184 [.aV tag 3 (bF l)] H (.ret (.func (.func 227) [] [.ref H.next 0])) (H.alloc (.cells [.aV tag 3 (bF l)] false)):=by refine lQ aLy (Af rfl) ?_;unfold aFu;dsimp only;simp only[↓zP,zJ,seval];refine Rx ?_;exact⟨rfl,rfl⟩
theorem YO {tag:Nat} {l:List aG.V} (hlen:l.length<=64) {r:Nat} {o:Bool} {H:aA} (wv:r<H.next) (hr:H.get r=some (.cells [.aV tag 3 (bF l)] o)):
 ∃H' v,Over H H'/\LJ H' H.next v l/\Sg 225 [.func (.func 227) [] [.ref r 0]] H (.ret v) H':=by
 obtain⟨H',v,h1,h2,hS⟩:=TL hlen wv hr;refine⟨H',v,h1,h2,?_⟩;refine lQ aMa (Af rfl) ?_;unfold aFw;dsimp only;simp only[↓zP,zJ,seval];refine bK (hS) ?_;simp only[↓zP,zG,seval];refine Rx ?_;exact⟨rfl,rfl⟩
theorem Qv {tag:Nat} {l:List aG.V} (hlen:l.length<=64) {r:Nat} {o:Bool} {H:aA} (wv:r<H.next) (hr:H.get r=some (.cells [.aV tag 3 (bF l)] o)):
 ∃H' v S,S.Perm l/\(S.Pairwise fun a b=>¬gW b a)/\Over H H'/\LJ H' H.next v S/\Sg 183 [.func (.func 227) [] [.ref r 0],.func (.func 185) [] []] H (.ret v) H':=by
 obtain⟨H1,v,h1,h2,hS⟩:=YO hlen wv hr
 rcases h2 with ⟨rfl,rfl⟩|⟨nF,bN,rfl,hg,AK,hn⟩
 · refine⟨H1,.aS,[],.refl _,.nil,h1,.inl ⟨rfl,rfl⟩,?_⟩;refine lQ aBv (Af rfl) ?_;unfold yw;dsimp only;simp only[↓zP,zJ,seval];refine bK (hS) ?_;simp only[↓zP,zJ,seval];refine bK (lR Tryz.aEl rfl UW 185 _) ?_;simp only[↓zP,zG,seval];refine Rx ?_;exact⟨rfl,rfl⟩
 obtain⟨d',q1,q2,q3⟩:=aEm (l.map vV) (by simp only[Ad];omega);have hgr:H1.get nF=some (.cells ((mG (l.map vV)).map (AV.int .i64)) true):=by rw[hg,Um]
 have hc:=q3 H1 nF true hgr;rw[Ad] at hc;have rR:d'=(d'.map HF).map vV:=by rw[Dp];exact(Ef (g:=id) (fun x _=>Uu x)).trans (Hc d') |>.symm
 rw[rR,Um] at hc
 have hp:(d'.map HF).Perm l:=by
  have h1:=q1.map HF
  rwa [Dp,show(HF∘vV)=id from rfl,Hc] at h1
 have hl:=hp.length_eq;refine⟨H1.set nF (.cells (bF (d'.map HF)).flatten true),.sl nF 3 0 (d'.map HF).length (d'.map HF).length,d'.map HF,hp,?_,⟨by rw[aA.aX];exact h1.le,fun j hj=>?_⟩,.inr ⟨nF,fun h=>bN (Cs (by rw[<-hl,h];rfl)),rfl,?_,AK,by rw[aA.aX];exact hn⟩,?_⟩
 · rw[Iv];exact q2.imp fun h h2=>h ((Nu _ _).2 h2)
 · rw[aA.aC,if_neg (by omega)];exact h1.same j hj
 · rw[aA.aC,if_pos rfl]
 rw[hl];refine lQ aBv (Af rfl) ?_;unfold yw;dsimp only;simp only[↓zP,zJ,seval];refine bK (hS) ?_;simp only[↓zP,zJ,seval];refine bK (hc) ?_;simp only[↓zP,zG,seval];refine Rx ?_;exact⟨rfl,rfl⟩
def dd (l:List aG.V):Nat->List aG.V
 |0=>[]
 |j+1=>dd l j++(if 0<j/\l.getD j V0=l.getD (j -1) V0 then [] else [l.getD j V0])
theorem aKq (l:List aG.V):∀j,(dd l j).length<=j
 |0=>Ak _
 |j+1=>by have :=aKq l j;simp only[dd,An];split<;>simp <;>omega
theorem JD (R:List aG.V):(bF R).flatten.length=R.length*3:=by rw[oR (sz:=3) (fun e he=>?_),aL];obtain⟨x,_,rfl⟩:=Bf.1 he;rfl
theorem PO:∀{R:List aG.V} {p:Nat} (h:p<R.length),((bF R).flatten.drop (p*3)).take 3=bZ R[p]
 |x::R,0,_=>rfl
 |x::R,p+1,h=>by have :=PO (R:=R) (p:=p) (by simpa using h);simp only[List.getElem_cons_succ,<-this,Ce,Gq];rw[Hh (p*3) 3,<-Ix];rfl
theorem PQ:∀{R:List aG.V} {p:Nat} (h:p<R.length) (x:aG.V),gO (bF R).flatten (p*3) (bZ x)=(bF (R.set p x)).flatten
 |y::R,0,_,x=>rfl
 |y::R,p+1,h,x=>by
  have :=PQ (R:=R) (p:=p) (by simpa using h) x;simp only[List.set_cons_succ];simp only[gO,bF,By,Bp,aM] at this ⊢;rw[<-this];have e:(p+1)*3=(p*3)+1+1+1:=by omega
  rw[e];simp only[bZ,Ei,Dk,Dn,Gx]
theorem Wq:∀(R:List aG.V) (p:Nat),(bF R).flatten.take (p*3)=(bF (R.take p)).flatten
 |[],p=>by simp[bF]
 |x::R,0=>by simp[bF]
 |x::R,p+1=>by have :=Wq R p;simp only[bF,By,Bp,Dn] at this ⊢;rw[<-this,show(p+1)*3=p*3+1+1+1 by omega];simp only[bZ,Ei,Dk,Dn]
theorem MX:∀m:Nat,bU (List.replicate m [AV.int .i64 0,.int .i64 0,.int .i64 0]).flatten=true
 |0=>rfl
 |m+1=>by simp only[Dv,Bp,Ei,Dk,bU,AV.free,Cq];exact MX m
theorem vr (m:Nat):(List.replicate m [AV.int .i64 0,.int .i64 0,.int .i64 0]).flatten.length=m*3:=by simp
theorem lY (v w:aG.V):cP [.i,.i,.i] (bZ v) (bZ w)=some (decide (v=w)):=by obtain⟨a,b,c⟩:=v;obtain⟨a',b',c'⟩:=w;simp only[bZ,cP,if_true,Bt,V.mk.injEq,Gd];congr 1;rw[Du];simp
theorem YP {l:List aG.V} (hlen:l.length<=64) {id:Nat} {H:aA} (hid:id<H.next) (hg:H.get id=some (.cells (bF l).flatten true)):
 ∃H' rest,H'.get id=some (.cells ((bF (dd l l.length)).flatten++rest) true)/\bU rest=true/\H'.next=H.next/\(∀j,j≠id->H'.get j=H.get j)/\
  Sg 188 [.sl id 3 0 l.length l.length] H (.ret (.sl id 3 0 (dd l l.length).length l.length)) H':=by
 suffices h:∃out H',(out=.ret (.sl id 3 0 (dd l l.length).length l.length)/\∃rest,H'.get id=some (.cells ((bF (dd l l.length)).flatten++rest) true)/\bU rest=true/\H'.next=H.next/\(∀j,j≠id->H'.get j=H.get j))/\
  Sg 188 [.sl id 3 0 l.length l.length] H out H' by
  obtain⟨_,H',⟨rfl,rest,h1,h2,h3,h4⟩,hS⟩:=h;exact⟨H',rest,h1,h2,h3,h4,hS⟩
 refine gA fit aLz (Af rfl) ?_;unfold aFv;dsimp only;have cG:∀k (h:k<l.length),l.getD k V0=l[k]:=fun k h=>by simp[List.getD,h]
 have same:dd l l.length=l->(∃rest,H.get id=some (.cells ((bF (dd l l.length)).flatten++rest) true)/\bU rest=true/\H.next=H.next/\(∀j,j≠id->H.get j=H.get j)):=fun h=>⟨[],by rw[h,Bz];exact hg,rfl,rfl,fun _ _=>rfl⟩
 refine bS ?_;simp only[↓zP,zG,Nat.reduceLT];refine bT ?_;refine aJ fun K hK=>?_;simp only[↓zP,zJ,Nat.reduceLT,Nat.reduceEqDiff];refine⟨fun h2=>?_,fun h2=>?_⟩
 · refine Rx ?_
   have hd:dd l l.length=l:=by
    match l,h2 with
    |[],_=>rfl
    |[a],_=>simp[dd]
    |a::b::r,h=>simp at h;omega
   exact⟨by rw[hd];rfl,same hd⟩
 apply hK;clear hK K;have VL:2<=l.length:=by omega
 refine aJ fun K hK=>?_;simp only[↓zP,zG,Nat.reduceLT];refine aH ?_;refine fK [3] (fun M vs H'=>∃k,1<=k/\k<=l.length/\M=l.length -k/\vs=[.int .i64 (k:Nat)]/\H'=H/\dd l k=l.take k) (l.length -1) (by rfl) ?_ ?_
 · refine⟨1,Ak _,by omega,rfl,rfl,rfl,?_⟩
   match l,VL with
   |a::r,_=>simp[dd]
 rintro M' f H1 hk ⟨k,k1,k2,rfl,hv,rfl,fw⟩;simp only[zM] at hv;refine aJ fun K2 cK=>?_;simp only[↓zP,zJ,Nat.reduceLT,Nat.reduceEqDiff,hv,hk 0 rfl];refine⟨fun eQ=>?_,fun Mg=>?_⟩
 · apply cK;clear cK K2;have yG:k<l.length:=by omega
   have aRy:k -1<l.length:=(by omega);have w1:IntKind.i64.wrap ((k:Int) -1)=((k -1:Nat):Int):=(wrap_i64 (by omega) (by omega)).trans (by omega);have fl:=JD l;have ak:=PO yG;have ak1:=PO aRy
   have eF:dd l (k+1)=l.take k++(if l[k]=l[k -1] then [] else [l[k]]):=by simp only[dd,fw,cG k yG,cG (k -1) aRy];simp[show 0<k by omega]
   refine aJ fun K2 cK=>?_;refine aH ?_;refine bS ?_;refine Dz ?_;have ck:k*3+3<=l.length*3:=(by omega);have ck1:(k -1)*3+3<=l.length*3:=(by omega);simp only[↓zP,zJ,Nat.reduceLT,Nat.reduceEqDiff,Nat.reduceAdd,zD,reduceCtorEq,hv,hk 0 rfl,aB,yG,hg,w1,aRy,ak,ak1,lY,fl,ck,ck1];refine bT ?_;by_cases he:l[k]=l[k -1]
   · have hb:=Al he
     have Mk:iY 3 (.sl id 3 0 l.length l.length) (some k) none none=some (.sl id 3 (0+k*3) (l.length -k) (l.length -k)):=by simp only[iY,Bc,Dg,Jx];rw[if_pos (by omega),if_pos (by omega),if_neg (by omega)]
     simp only[↓zP,zJ,Nat.reduceLT,Nat.reduceEqDiff,Nat.reduceAdd,hb,hv,hk 0 rfl,cZ,aB,Mk,Bu];refine aH ?_;rw[if_pos he,Bz] at eF
     refine fK [3,5] (fun M vs H'=>∃kk k2 R,1<=k2/\k+k2<=l.length/\M=l.length -(k+k2)/\vs=[.int .i64 (kk:Nat),.int .i64 (k2:Nat)]/\kk<=k+k2 -1/\R.length=l.length/\R.take kk=dd l (k+k2)/\kk=(dd l (k+k2)).length/\(∀p,k+k2 -1<=p->p<l.length->R[p]?=l[p]?)/\
      H'.get id=some (.cells (bF R).flatten true)/\H'.next=H1.next/\∀j,j≠id->H'.get j=H1.get j) (l.length -(k+1)) (by rfl) ?_ ?_
     · refine⟨k,1,l,Ak _,by omega,rfl,?_,by omega,rfl,eF.symm,by rw[eF];simp;omega,fun p _ _=>rfl,hg,rfl,fun _ _=>rfl⟩;simp only[sm,zB,Nat.reduceEqDiff,hv];rfl
     rintro M' f2 H2 dA ⟨kk,k2,R,r1,r2,rfl,nJ,r3,r4,r5,r6,r7,r8,r9,r10⟩;simp only[zM] at nJ;obtain⟨v3,v5⟩:=nJ;refine aJ fun K3 EB=>?_
     have w0:decide (((k2:Nat):Int)<((l.length -k:Nat):Int))=decide (k+k2<l.length):=by rw[Az];omega
     have Nc:=aKq l (k+k2);simp only[↓zP,zJ,Nat.reduceLT,Nat.reduceEqDiff,v5,dA 4 rfl];refine⟨fun eQ=>?_,fun Mg=>?_⟩
     · apply EB;clear EB K3;have hj:k+k2<l.length:=(by omega);have hjR:k+k2<R.length:=(by omega);have aWs:k+k2 -1<R.length:=(by omega);have aj:=PO hjR;have aj1:=PO aWs
       have ej:R[k+k2]=l[k+k2]:=by have :=r7 (k+k2) (by omega) hj;rw[Ab hjR,Ab hj] at this;exact Aa this
       have ej1:R[k+k2 -1]=l[k+k2 -1]:=by have :=r7 (k+k2 -1) (Ak _) (by omega);rw[Ab aWs,Ab (show k+k2 -1<l.length by omega)] at this;exact Aa this
       rw[ej] at aj;rw[ej1] at aj1
       have Lp:dd l (k+k2+1)=dd l (k+k2)++(if l[k+k2]=l[k+k2 -1] then [] else [l[k+k2]]):=by simp only[dd,cG (k+k2) hj,cG (k+k2 -1) (by omega)];simp[show 0<k+k2 by omega]
       have w1:IntKind.i64.wrap ((k2:Int) -1)=((k2 -1:Nat):Int):=(wrap_i64 (by omega) (by omega)).trans (by omega);have w2:IntKind.i64.wrap ((k2:Int)+1)=((k2+1:Nat):Int):=(wrap_i64 (by omega) (by omega)).trans (by omega);have w3:IntKind.i64.wrap ((kk:Int)+1)=((kk+1:Nat):Int):=(wrap_i64 (by omega) (by omega)).trans (by omega);have x1:k*3+k2*3=(k+k2)*3:=(by omega);have x2:k*3+(k2 -1)*3=(k+k2 -1)*3:=(by omega);have fR:=JD R;have y1:(k+k2)*3+3<=R.length*3:=(by omega);have y2:(k+k2 -1)*3+3<=R.length*3:=(by omega);have y3:kk*3+3<=R.length*3:=(by omega);have z1:k2<l.length -k:=(by omega);have z2:k2 -1<l.length -k:=(by omega);have z3:kk<l.length:=(by omega);refine aJ fun K3 EB=>?_;refine aH ?_;refine bS ?_;refine Dz ?_;simp only[↓zP,zJ,Nat.reduceLT,Nat.reduceEqDiff,Nat.reduceAdd,zD,reduceCtorEq,v5,dA 4 rfl,aB,z1,z2,r8,w1,x1,x2,fR,y1,y2,aj,aj1,lY];refine bT ?_;by_cases VH:l[k+k2]=l[k+k2 -1]
       · have AL:(!decide (l[k+k2]=l[k+k2 -1]))=false:=(by simp[VH]);simp only[↓zP,zG,AL];apply EB;clear EB K3;simp only[↓zP,zJ,Nat.reduceLT,Nat.reduceEqDiff,v5,v3,w2];rw[if_pos VH,Bz] at Lp;refine⟨_,by omega,kk,k2+1,R,by omega,by omega,rfl,rfl,by omega,r4,by rw[<-Bm,Lp];exact r5,by rw[<-Bm,Lp];exact r6,fun p p1 p2=>r7 p (by omega) p2,r8,r9,r10⟩
       have AL:(!decide (l[k+k2]=l[k+k2 -1]))=true:=(by simp[VH]);have asp:=PQ (R:=R) (p:=kk) (by omega) l[k+k2];simp only[gO] at asp;simp only[↓zP,zJ,Nat.reduceLT,Nat.reduceEqDiff,AL,v5,v3,dA 4 rfl,dA 0 rfl,hk 0 rfl,aB,z1,z3,r8,x1,fR,y1,y3,aj,w3,oL (aM l[k+k2])];apply EB;clear EB K3;simp only[↓zP,zJ,Nat.reduceLT,Nat.reduceEqDiff,v5,w2];rw[if_neg VH] at Lp;refine⟨_,by omega,kk+1,k2+1,R.set kk l[k+k2],by omega,by omega,rfl,rfl,by omega,by rw[Eg];exact r4,?_,?_,fun p p1 p2=>?_,by rw[<-asp];rfl,r9,fun j hj=>?_⟩
       · rw[<-Bm,Lp,<-r5,Ap,List.take_set_of_le (Ak _)];simp[show kk<R.length by omega]
       · rw[<-Bm,Lp,An,<-r6];rfl
       · rw[Gs (by omega)];exact r7 p (by omega) p2
       rw[if_neg hj];exact r10 j hj
     have hkn:k+k2=l.length:=(by omega);obtain⟨m,hm⟩:∃m,l.length -kk=m+1:=⟨l.length -kk -1,by omega⟩
     have hs2:iY 3 (.sl id 3 0 l.length l.length) (some kk) none none=some (.sl id 3 (kk*3) (m+1) (m+1)):=by simp only[iY,Bc,Dg,Jx];rw[if_pos (by omega),if_pos (by omega),if_neg (by omega),hm,Df]
     have hs3:iY 3 (.sl id 3 0 l.length l.length) none (some kk) none=some (.sl id 3 0 kk l.length):=by simp only[iY,Bc,Dg,Jx];rw[if_pos (by omega),if_pos (by omega),if_neg (by omega)];simp
     have fR:=JD R;have sO:kk*3+(m+1)*3<=R.length*3:=(by omega);simp only[↓zP,zJ,Nat.reduceEqDiff,v3,dA 0 rfl,hk 0 rfl,aB,hs2,hs3,r8,fR,sO,Bu,Bd];rw[hkn] at r5 r6;rw[Wq,r5,Cw];refine Rx ?_;refine⟨by rw[<-r6];rfl,_,by rw[aA.aC,if_pos rfl],?_,by rw[aA.aX];exact r9,fun j hj=>by rw[aA.aC,if_neg hj];exact r10 j hj⟩
     rw[mL,MX,Bl (by rw[vr,fR];omega)]
     rfl
   have hb:=Ae he;simp only[↓zP,zG,hb];apply cK;clear cK K2;have w2:IntKind.i64.wrap ((k:Int)+1)=((k+1:Nat):Int):=(wrap_i64 (by omega) (by omega)).trans (by omega);simp only[↓zP,zJ,Nat.reduceLT,Nat.reduceEqDiff,hv,w2];refine⟨_,by omega,k+1,by omega,by omega,rfl,rfl,trivial,?_⟩;rw[eF,if_neg he,Ap];simp[yG]
 apply hK;clear hK K cK K2;have hkn:k=l.length:=by omega
 subst hkn;rw[Ar] at fw;simp only[↓zP,zJ,Nat.reduceLT,Nat.reduceEqDiff,hk 0 rfl];refine Rx ?_;exact⟨by rw[fw];rfl,same fw⟩
theorem Oc (l:List aG.V) (v:aG.V):∀j,j<=l.length->(v∈dd l j↔v∈l.take j)
 |0,_=>by simp[dd]
 |j+1,h=>by
  have ih:=Oc l v j (by omega);have hj:j<l.length:=h;have hg:l.getD j V0=l[j]:=by simp[List.getD,hj]
  rw[Ap,Ab hj];simp only[dd,As,ih,hg,Ec,Aq,Bx,Em];split
  · rename_i hc;obtain⟨h0,he⟩:=hc;have EE:j -1<l.length:=by omega
    have VI:l.getD (j -1) V0=l[j -1]:=(by simp[List.getD,EE]);simp only[Bx,Em];refine⟨.inl,fun h=>h.elim id fun e=>?_⟩;rw[e,he,VI];exact List.mem_take_iff_getElem.2 ⟨j -1,by omega,rfl⟩
  simp
theorem Yu {l:List aG.V} (hs:l.Pairwise fun a b=>¬gW b a):∀j,j<=l.length->(dd l j).Pairwise gW
 |0,_=>.nil
 |j+1,h=>by
  have ih:=Yu hs j (by omega);have hj:j<l.length:=h;have hg:l.getD j V0=l[j]:=by simp[List.getD,hj]
  simp only[dd,hg];split
  · rw[Bz];exact ih
  rename_i hc;rw[List.pairwise_append];refine⟨ih,List.pairwise_singleton _ _,fun v hv x hx=>?_⟩;simp only[Aq,Bx,Em] at hx;subst hx;rw[Oc l v j (by omega)] at hv;obtain⟨i,hi,rfl⟩:=List.mem_take_iff_getElem.1 hv;have AE:i<j:=by omega
  have EE:j -1<l.length:=by omega
  have VI:l.getD (j -1) V0=l[j -1]:=by simp[List.getD,EE]
  rw[VI] at hc;have bN:l[j]≠l[j -1]:=fun e=>hc ⟨by omega,e⟩;have hp:=Gn.1 hs;have p1:=hp (j -1) j EE hj (by omega);have p2:gW l[j -1] l[j]:=(gW.total bN).elim (fun h=>absurd h p1) id;by_cases VJ:i=j -1
  · subst VJ;exact p2
  have p3:=hp i (j -1) (by omega) EE (by omega);generalize l[i]=a at *;generalize l[j -1]=b at *;generalize l[j]=c at *;unfold gW at *;omega
structure Ord (l C:List aG.V):Prop where
 TD:C.Pairwise gW
 mem:∀v,v∈C↔v∈l
theorem Ord.uniq {l C C':List aG.V} (h:Ord l C) (h':Ord l C'):C=C':=
 CL (R:=gW) gW.qh (fun h h'=>gW.trans h h') h.TD h'.TD fun v=>(h.mem v).trans (h'.mem v).symm
theorem Ord.of {l S C:List aG.V} (hp:S.Perm l) (hs:S.Pairwise fun a b=>¬gW b a) (h:Ord l C):dd S S.length=C:=
 Ord.uniq (l:=l) ⟨Yu hs _ (Ak _),fun v=>by rw[Oc S v _ (Ak _),Ar];exact hp.mem_iff⟩ h
theorem MH (H:aA):Sg 188 [.aS] H (.ret .aS) H:=by refine lQ aLz (Af rfl) ?_;unfold aFv;dsimp only;refine bS ?_;simp only[↓zP,zG,seval];refine bT ?_;refine aJ fun K hK=>?_;simp only[↓zP,zJ,seval];refine⟨fun h2=>?_,fun h2=>absurd (show((0:Int)<2) by decide) (by simp at h2)⟩;refine Rx ?_;exact⟨rfl,rfl⟩
theorem Rj {sz:Nat}:∀{els:List (List AV)} (rest:List AV),(∀e∈els,e.length=sz)->eR sz els.length (els.flatten++rest)=els
 |[],_,_=>rfl
 |e::els,rest,h=>by have he:=h e Au;simp only[Ah,eR,Bp,Cw];rw[Db (by omega),Bk (by omega),Jh (by omega),Bl (by omega),Dk,Rj rest fun x hx=>h x (Aw _ hx)]
theorem u9 {tag:Nat} (ht:Nat.blt tag 2=true) {l C:List aG.V} (hlen:l.length<=64) (hC:Ord l C) (H:aA):
 Sg 144 [.aV tag 3 (bF l)] H (.ret (jQ 3 (bF C))) H:=by
 refine dH fit dQ aLr (Af rfl) (by simp only[sf,cE ht]) ?_ H;unfold aFn;dsimp only;obtain⟨H1,v,S,hp,hs,ho,hr,hS⟩:=Qv (tag:=tag) hlen (r:=0) (o:=false) (H:=(aA.mk 0 .nil).alloc (.cells [.aV tag 3 (bF l)] false)) (by simp) rfl;have fw:=Ord.of hp hs hC;have fu:=hp.length_eq;simp only[↓zP,zJ,seval];refine bK (kz (tag:=tag) l _) ?_;simp only[seval];refine bK (hS) ?_
 rcases hr with ⟨rfl,rfl⟩|⟨nF,bN,rfl,hg,AK,hn⟩
 · simp only[↓zP,zG,seval];refine bK (MH _) ?_;simp only[↓zP,zG,seval];refine Rx ?_;rw[<-fw];exact⟨_,0,rfl,fun nw=>rfl⟩
 obtain⟨H2,rest,c1,c2,c3,c4,hcS⟩:=YP (by omega) hn hg;simp only[↓zP,zG,seval];refine bK (hcS) ?_;simp only[↓zP,zG,seval];refine Rx ?_;rw[fw] at c1 ⊢
 have hCn:¬bF C=[]:=by
  intro h;have :C=[]:=by simpa [bF] using h
  rw[this] at fw
  match S,bN with
  |x::r,_=>have :=(Oc (x::r) x _ (Ak _)).2 (by simp);rw[fw] at this;cases this
 refine⟨.sl nF 3 0 C.length S.length,0,rfl,fun nw=>?_⟩;have hc:H2.eP nF=some ((bF C).flatten++rest):=by simp[aA.eP,c1]
 have hu:∀e∈bF C,e.length=3:=fun e he=>by obtain⟨x,_,rfl⟩:=Bf.1 he;rfl
 have hle:Nat.ble (0+C.length*3) ((bF C).flatten++rest).length=true:=by rw[An,JD];exact Nat.ble_eq_true_of_le (by omega)
 have DI:bU ((bF C).flatten++rest)=true:=by rw[mL,mB (show dJ (bF C)=true from dF cC C),c2];rfl
 rw[jQ,if_neg hCn];simp only[fT,jR,hc,Cy,hle,DI,Ds];rw[show C.length=(bF C).length from (aL C).symm,Rj rest hu]
theorem ZE (x m:Int) (hm:m.natAbs<2^62) (H:aA):Sg 41 [.int .i64 x,.int .i64 m] H (.ret (.bool (decide (x>m)||decide (x< -m)))) H:=by
 refine So bHi (by simp only[sf]) ?_ H;unfold W41;dsimp only;have wn:IntKind.i64.wrap (0 -m)= -m:=(wrap_i64 (by omega) (by omega)).trans (by omega);refine bS ?_;simp only[↓zP,zG,seval];refine bT ?_;by_cases h:x>m
 · have hb:=Al h;simp only[↓zP,zJ,seval,hb];refine Rx ?_;rfl
 have hb:=Ae h;simp only[↓zP,zJ,seval,hb,wn];refine Rx ?_;rfl
theorem xp {t1 t2:Nat} (h1:Nat.blt t1 2=true) (h2:Nat.blt t2 2=true) {a b:List aG.V} (ha:a.length<2^30) (hb:b.length<2^30) (H:aA):
 Sg 83 [.aV t1 3 (bF a),.aV t2 3 (bF b)] H (.ret (.bool (decide (a=b)))) H:=by
 refine So bIi (by simp only[sf,cE h1,cE h2]) ?_ H;unfold W83;dsimp only;refine bS ?_;simp only[↓zP,zG,seval];refine bT ?_;refine aJ fun K hK=>?_;by_cases hl:a.length=b.length
 · have hn:((a.length:Int) != (b.length:Int))=false:=by simp[hl]
   simp only[↓zP,zJ,seval,aL,hn];apply hK;clear hK K;refine aJ fun K hK=>?_;refine bS ?_;simp only[↓zP,zJ,seval];refine bT ?_;refine bQ [] (fun i vs H=>a.take i=b.take i) a.length (by omega) (by decide) ?_ ?_ ?_ ?_ ?_
   · simp only[zB,seval]
   · simp only[zB,seval,aL]
   · rfl
   · rintro i f H1 hi hk e1 EC;have hib:i<b.length:=(by omega);have ga:=bY hi;have gb:=bY hib;refine aH ?_;refine bS ?_;simp only[↓zP,zG,seval,e1];refine fL ?_;refine Dz ?_;simp only[↓zP,zJ,seval,zD,hk 0 rfl,hk 1 rfl,aB,aL,hi,hib,ga,gb,oL (aM a[i]),oL (aM b[i]),lY];refine bT ?_;by_cases he:a[i]=b[i]
     · have AL:(!decide (a[i]=b[i]))=false:=(by simp[he]);simp only[↓zP,zG,seval,AL];rw[Ap,Ap,EC,Ab hi,Ab hib,he]
     have AL:(!decide (a[i]=b[i]))=true:=(by simp[he]);simp only[↓zP,zG,seval,AL];refine Rx ?_;rw[Ae]
     · rfl
     rintro rfl;exact he rfl
   rintro f H1 hk EC;rw[Ar,hl,Ar] at EC;simp only[↓zP,seval];apply hK;simp only[↓zP,zG,seval];refine Rx ?_;rw[Al EC];rfl
 have hn:((a.length:Int) != (b.length:Int))=true:=by simp;omega
 simp only[↓zP,zJ,seval,aL,hn];refine Rx ?_;rw[Ae]
 · rfl
 rintro rfl;exact hl rfl
theorem QA (H:aA):Sg 145 [.aS] H (.ret .aS) H:=by
 refine dH fit dQ aLs (Af rfl) (by simp only[sf]) ?_ H;unfold aFo;dsimp only;refine bS ?_;simp only[↓zP,zG,seval];refine fL ?_;simp only[↓zP,zJ,seval];refine bT ?_;refine aJ fun K hK=>?_;refine bS ?_;simp only[↓zP,zJ,seval];refine bT ?_;refine bQ [] (fun i _ H=>H.get 0=some (.map [])/\1<=H.next) 0 (by decide) (by decide) ?_ ?_ ?_ ?_ ?_
 · simp only[zB,seval]
 · simp only[zB,seval]
 · exact⟨rfl,Ak _⟩
 · rintro i f H hi;exact absurd hi (Ax _)
 rintro f H hk ⟨hmp,xG⟩;simp only[↓zP,seval];apply hK;clear hK K;refine bS ?_;simp only[↓zP,zG,seval];refine bT ?_;refine aJ fun K hK=>?_;refine bS ?_;simp only[↓zP,zG,seval,hk 3 rfl];refine MI (by decide) (by simp only[↓zP,seval]) hmp fun bs c mb wD hbn=>?_;simp only[↓zP,seval];refine bT ?_;obtain rfl:bs=[]:=Cs wD;generalize hit:H.next=it at *;refine aH ?_;refine fK [10] (fun m vs H'=>vs=[.aS]/\H'.get it=some (.iter 0 mb c [])/\H'.get 0=some (.tK [] [] c mb)) 0 (by rfl) ?_ ?_
 · refine⟨by simp only[sm,zB,seval],by simp only[seval,zI,hit],?_⟩;simp only[seval,zI,hit];rw[if_neg (by omega)]
 rintro m f2 H2 dA ⟨hv,gi,g0⟩;simp only[zM] at hv;refine bS ?_;simp only[↓zP,seval];refine Nz (by decide) (by simp only[↓zP,seval,dA 73 rfl]) gi g0 (fun dB=>?_) fun j hj hnj=>absurd hj (Ax _);simp only[↓zP,zG,seval];refine bT ?_;simp only[↓zP,zG,seval];apply hK;clear hK K;simp only[↓zP,zG,seval,hv];refine bK (lR Tryz.aEj rfl UU 193 _) ?_;simp only[↓zP,zG,seval,hv];refine Rx ?_;exact⟨_,0,rfl,fun nw=>rfl⟩
def ib (v:aG.V):Bool:=(List.range 3).all fun i=>decide (¬(v.at i>262144)/\¬(v.at i< -262144))
theorem PH {v:aG.V}:ib v=true↔bM (2^18) v:=by
 unfold ib bM;simp only[Ba,Bi,Bh];constructor
 · intro h;have h0:=h 0 (by decide);have h1:=h 1 (by decide);have h2:=h 2 (by decide);simp only[V.at] at h0 h1 h2;omega
 intro h i hi
 match i,hi with
 |0,_=>simp only[V.at];omega
 |1,_=>simp only[V.at];omega
 |2,_=>simp only[V.at];omega
def mk (n:Nat) (P:Nat->Bool):List AV:=(List.range n).map fun k=>AV.bool (P k)
theorem Pf (n:Nat) (P:Nat->Bool):(mk n P).length=n:=by simp[mk]
theorem aUf {n:Nat} (P:Nat->Bool) {k:Nat} (h:k<n):(mk n P).getD k aD=.bool (P k):=by simp[mk,List.getD,h]
theorem aUg {n:Nat} (P:Nat->Bool) {p:Nat} (h:p<n):(mk n P).take p++[AV.bool true]++(mk n P).drop (p+1)=mk n (fun k=>P k||k==p):=by
 refine Ge (by simp[mk];omega) fun k h1 h2=>?_;rw[Pf] at h2;simp only[Cw,List.getElem_append,Cb,Pf,Ah,Ay];by_cases hk:k<p
 · rw[dif_pos (by omega)];simp[mk];omega
 rw[dif_neg (by omega)];by_cases dA:k=p
 · subst dA;rw[dif_pos (by omega)];simp[mk]
 rw[dif_neg (by omega)];simp only[mk,List.getElem_drop,Co,Im];have :p+1+(k -min p n -(0+1))=k:=by omega
 rw[this];simp[dA]
def gG (S:List (aG.V×Int)) (L:aG.V×Int->List Nat) (k:Nat):Bool:=S.any fun q=>(L q).contains k
def gQ (C:List aG.V) (S:List (aG.V×Int)) (L:aG.V×Int->List Nat):List aG.V:=((List.range C.length).filter (gG S L)).map fun k=>C.getD k V0
def iD (l C:List aG.V) (S:List (aG.V×Int)) (L:aG.V×Int->List Nat):AV×Int:=
 if 64<l.length then(.aS,2) else if l.all ib=false then(.aS,1) else if S.length<4 then(.aS,120) else if 64<S.length then(.aS,2) else(jQ 3 (bF (gQ C S L)),0)
theorem aFi {tag:Nat} (ht:Nat.blt tag 2=true) {l C:List aG.V} (hlen:l.length<2^30) (hC:Ord l C) {S:List (aG.V×Int)} {L:aG.V×Int->List Nat} (hS:wS C S L) (H:aA):
 Sg 82 [.aV tag 3 (bF l)] H (.ret (.gP [.agg [(iD l C S L).1],.int .i64 (iD l C S L).2])) H:=by
 refine dH fit dQ bBs (Af rfl) (by simp only[sf,cE ht]) ?_ H;unfold W82;dsimp only;refine bS ?_;simp only[↓zP,zG,seval];refine bT ?_;refine aJ fun K hK=>?_;simp only[↓zP,zJ,seval,aL];refine⟨fun h=>?_,fun hle=>?_⟩
 · have ZN:64<l.length:=by omega
   refine Rx ?_;rw[show iD l C S L=(.aS,2) from if_pos ZN];exact⟨_,2,rfl,fun nw=>rfl⟩
 have ZN:¬(64<l.length):=by omega
 apply hK;clear hK K;refine aJ fun K hK=>?_;refine bS ?_;simp only[↓zP,zJ,seval];refine bT ?_;refine bQ [] (fun i _ H=>(∀v∈l.take i,ib v=true)/\H.get 0=some (.cells [.aS] false)/\1<=H.next) l.length (by omega) (by decide) ?_ ?_ ?_ ?_ ?_
 · simp only[zB,seval]
 · simp only[zB,seval,aL]
 · exact⟨fun v hv=>by simp at hv,by simp only[zI,seval],by simp only[zI,seval]⟩
 · rintro i f H1 hi hk e1 ⟨gD,g0,hn⟩;have hg:=bY hi;have uG:=Ai hi
   have hx:∀v,v∈l.take (i+1)->v∈l.take i\/v=l[i]:=fun v hv=>by
    rw[Ap,As] at hv
    rcases hv with h|h
    · exact .inl h
    simp[hi] at h;exact .inr h
   generalize l[i]=x at *;have nx:¬(0=H1.next):=(by omega);refine aH ?_;refine bS ?_;simp only[↓zP,zJ,seval,e1,hk 22 rfl,aB,aL,hi,hg,oL (aM x)];refine fL ?_;simp only[↓zP,zJ,seval,oL (aM x)];refine bT ?_;refine iR [] (fun j _ H=>(∀c,c<j->¬(x.at c>262144)/\¬(x.at c< -262144))/\H.get 0=some (.cells [.aS] false)/\1<=H.next) 3 (by decide) rfl (by decide) ?_ ?_ ?_ ?_
   · simp only[zB,seval]
   · refine⟨fun c hc=>absurd hc (Ax _),?_,?_⟩
     · rw[aA.aC,if_neg nx,aA.aF,if_neg nx];exact g0
     simp only[aA.aX,aA.bJ];omega
   · rintro j f2 H2 hj dA e2 ⟨hc,AA,Mj⟩;have EF:j<=2:=by omega
     have GC:(x.at j>262144\/x.at j< -262144)->l.all ib=false:=fun h=>by rw[<-Gg,Ba];intro ha;have :=ha x uG;simp only[ib,Ba,Bi,Bh] at this;have :=this j hj;omega
     refine aH ?_;by_cases c1:x.at j>262144
     · have d1:=Al c1;simp only[↓zP,zJ,seval,e2,dA 28 rfl,aB,iM x hj,aM,hj,EF,d1,dA 2 rfl,hk 2 rfl,AA];refine⟨rfl,_,by simp only[↓zP,zR,seval,dA 2 rfl,hk 2 rfl];rfl,?_⟩;rw[show iD l C S L=(.aS,1) from (if_neg ZN).trans (if_pos (GC (by omega)))];exact⟨_,2,rfl,fun nw=>rfl⟩
     have d1:=Ae c1;by_cases c2:x.at j< -262144
     · have d2:=Al c2;simp only[↓zP,zJ,seval,e2,dA 28 rfl,aB,iM x hj,aM,hj,EF,d1,d2,dA 2 rfl,hk 2 rfl,AA];refine⟨rfl,_,by simp only[↓zP,zR,seval,dA 2 rfl,hk 2 rfl];rfl,?_⟩;rw[show iD l C S L=(.aS,1) from (if_neg ZN).trans (if_pos (GC (by omega)))];exact⟨_,2,rfl,fun nw=>rfl⟩
     have d2:=Ae c2;simp only[↓zP,zJ,seval,e2,dA 28 rfl,aB,iM x hj,aM,hj,EF,d1,d2];refine⟨fun c h=>?_,AA,Mj⟩;by_cases hcj:c=j
     · subst hcj;exact⟨c1,c2⟩
     exact hc c (by omega)
   rintro f2 H2 dA ⟨hc,AA,Mj⟩;simp only[↓zP,seval];refine⟨fun v hv=>?_,AA,Mj⟩
   rcases hx v hv with h|rfl
   · exact gD v h
   simp only[ib,Ba,Bi,Bh];exact fun c h=>hc c h
 rintro f H1 hk ⟨gD,g0,hn⟩;rw[Ar] at gD;have dB:l.all ib=true:=Ba.2 gD;simp only[↓zP,seval];apply hK;clear hK K;have hNr:∀v∈C,bM (2^18) v:=fun v hv=>PH.1 (gD v ((hC.mem v).1 hv))
 have hCl:C.length<=64:=by have :=uK C l (Hv (fun {a b} (h:gW a b) (e:a=b)=>gW.qh b (by rw[e] at h;exact h)) hC.TD) fun v hv=>(hC.mem v).1 hv;omega
 have nP:∀H,Sg 145 [jQ 3 (bF C)] H (.ret (jQ 4 (S.map lK))) H:=fun H=>by
  by_cases hc:C=[]
  · subst hc
    have hSn:S=[]:=Fu.2 fun q hq=>by obtain⟨i,j,k,_,_,h,_⟩:=fU ((hS.fl.mem q).1 hq);exact absurd h (Ax _)
    subst hSn;exact QA H
  rw[show jQ 3 (bF C)=.aV 0 3 (bF C) from if_neg (by simpa [bF] using hc)];exact Sr (by decide) hNr (Ak _) hCl hS.fl H
 have SP:∀H,Sg 144 [.aV tag 3 (bF l)] H (.ret (jQ 3 (bF C))) H:=u9 ht (by omega) hC;refine bS ?_;simp only[↓zP,zJ,seval,hk 0 rfl];refine bK (SP _) ?_;simp only[↓zP,zG,seval];refine fL ?_;simp only[↓zP,zG,seval];refine bK (nP _) ?_;simp only[↓zP,zG,seval];refine bT ?_;by_cases hS4:S.length<4
 · have hO:iD l C S L=(.aS,120):=(if_neg ZN).trans ((if_neg (by rw[dB];decide)).trans (if_pos hS4));by_cases vz:S=[]
   · subst vz;rw[show jQ 4 (List.map lK [])=.aS from rfl];refine aJ fun K hK=>?_;simp only[↓zP,zJ,seval,hk 2 rfl,g0];refine⟨fun _=>?_,fun h=>absurd (show((0:Int)<4) by decide) (by simp at h)⟩;refine⟨rfl,_,by simp only[↓zP,zR,seval,hk 2 rfl];rfl,?_⟩;rw[hO];exact⟨_,2,rfl,fun nw=>rfl⟩
   rw[show jQ 4 (S.map lK)=.aV 0 4 (S.map lK) from if_neg (by simpa using vz)];refine aJ fun K hK=>?_;simp only[↓zP,zJ,seval,hk 2 rfl,g0,Ad];refine⟨fun _=>?_,fun h=>absurd hS4 (by omega)⟩;refine⟨rfl,_,by simp only[↓zP,zR,seval,hk 2 rfl];rfl,?_⟩;rw[hO];exact⟨_,2,rfl,fun nw=>rfl⟩
 have vz:S≠[]:=fun h=>hS4 (by rw[h];decide);rw[show jQ 4 (S.map lK)=.aV 0 4 (S.map lK) from if_neg (by simpa using vz)]
 have hCe:bF C≠[]:=fun h=>vz (Fu.2 fun q hq=>by
  obtain⟨i,j,k,_,_,h',_⟩:=fU ((hS.fl.mem q).1 hq);have :C.length=0:=by rw[<-aL,h];rfl
  omega)
 rw[show jQ 3 (bF C)=.aV 0 3 (bF C) from if_neg hCe];refine bS ?_;simp only[↓zP,zJ,seval,Ad];refine⟨fun h=>absurd h (by omega),fun _=>?_⟩;refine bT ?_;by_cases IU:64<S.length
 · have hO:iD l C S L=(.aS,2):=(if_neg ZN).trans ((if_neg (by rw[dB];decide)).trans ((if_neg hS4).trans (if_pos IU)));refine aJ fun K hK=>?_;simp only[↓zP,zJ,seval,hk 2 rfl,g0,Ad];refine⟨fun _=>?_,fun h=>absurd IU (by omega)⟩;refine⟨rfl,_,by simp only[↓zP,zR,seval,hk 2 rfl];rfl,?_⟩;rw[hO];exact⟨_,2,rfl,fun nw=>rfl⟩
 refine bS ?_;simp only[↓zP,zJ,seval,Ad];refine⟨fun h=>absurd h (by omega),fun _=>?_⟩;refine bT ?_;have hO:iD l C S L=(jQ 3 (bF (gQ C S L)),0):=(if_neg ZN).trans ((if_neg (by rw[dB];decide)).trans ((if_neg hS4).trans (if_neg IU)));rw[hO]
 have aSk:(List.replicate C.length [AV.bool false]).flatten=mk C.length (fun _=>false):=by
  have :∀n:Nat,(List.replicate n [AV.bool false]).flatten=List.replicate n (AV.bool false):=fun n=>by
   induction n with
   |zero=>rfl
   |succ n ih=>rw[Dv,Bp,ih];rfl
  rw[this];exact Ge (by simp[mk]) fun k h1 h2=>by simp[mk]
 have h40:C.length<=2^40:=by omega
 refine bS ?_;simp only[↓zP,zJ,seval,aL,aB,h40,aSk];refine bT ?_;have UR:¬(0=H1.next):=by omega
 refine aJ fun K hK=>?_;refine bS ?_;simp only[↓zP,zG,seval,Ad];refine bT ?_;generalize aSl:H1.next=sid at *;refine bQ [] (fun i _ H'=>H'.get 0=some (.cells [.aS] false)/\H'.get sid=some (.cells (mk C.length (fun k=>(S.take i).any fun q=>(L q).contains k)) false)/\sid<H'.next) S.length (by omega) (by decide) ?_ ?_ ?_ ?_ ?_
 · simp only[zB,seval]
 · simp only[zB,seval]
 · refine⟨by rw[aA.aF,aSl,if_neg UR];exact g0,by rw[aA.aF,aSl,if_pos rfl];rfl,by rw[aA.bJ,aSl];omega⟩
 · rintro i f2 H2 hi dA e2 ⟨m0,ms,DK⟩;have hg:(S.map lK).getD i []=lK S[i]:=dT hi;have hqS:=Ai hi;have hq:=qQ hNr ((hS.fl.mem _).1 hqS);have Wd:=hS.po _ hqS
   have sH:∀k,((S.take (i+1)).any fun q=>(L q).contains k)=(((S.take i).any fun q=>(L q).contains k)||(L S[i]).contains k):=fun k=>by rw[Ap,Jn];simp[hi]
   simp only[sH];generalize S[i]=q at *;have p4:(lK q).length=4:=rfl;have hpg:=QB (tag:=0) (by decide) hNr (Ak _) hCl hq (by decide) Wd;have vw:∀k∈L q,k<C.length:=fun k hk=>(dN.1 (Wd.aUe hk)).1
   have bJn:(L q).length<2^30:=by obtain⟨s,r,m,e,W,h⟩:=Wd.ex;rw[h,Ad,Bs];have h1:=W.le;have h2:=Dj (fun k=>decide (aG.dot q.1 (C.getD k V0)=q.2)) (List.range C.length);rw[Bs] at h2;have h3:(jP (fun i=>C.getD i V0) C.length q.1 q.2).length<=C.length:=h2;omega
   refine aH ?_;refine bS ?_;simp only[↓zP,zJ,seval,e2,dA 56 rfl,aB,Ad,hi,hg,oL p4];refine fL ?_;simp only[↓zP,zJ,seval,dA 8 rfl,oL p4];refine bK (hpg _) ?_;simp only[↓zP,zG,seval,dP];refine bT ?_;have xf:¬(0=H2.next):=(by omega);have nxs:¬(sid=H2.next):=(by omega);refine bQ [] (fun j _ H'=>H'.get 0=some (.cells [.aS] false)/\H'.get sid=some (.cells (mk C.length (fun k=>((S.take i).any fun q=>(L q).contains k)||((L q).take j).contains k)) false)/\sid<H'.next) (L q).length (by omega) (by decide) ?_ ?_ ?_ ?_ ?_
   · simp only[zB,seval]
   · simp only[zB,seval]
   · refine⟨by rw[aA.aC,if_neg xf,aA.aF,if_neg xf];exact m0,?_,by simp only[aA.aX,aA.bJ];omega⟩;rw[aA.aC,if_neg nxs,aA.aF,if_neg nxs,ms];simp
   · rintro j f3 H3 hj kR e3 ⟨m0',ms',RL⟩;have hgp:=uM hj;have nP:=vw _ (Ai hj)
     have htj:∀k,((L q).take (j+1)).contains k=(((L q).take j).contains k||k==(L q)[j]):=fun k=>by rw[Du];simp only[Dt,List.contains_iff_mem,Dc,Ap,Ab hj,Ec,As,Bq]
     simp only[htj];generalize (L q)[j]=p at *;have bFw:p+1<=C.length:=nP;have rU:=aUg (fun k=>((S.take i).any fun q=>(L q).contains k)||((L q).take j).contains k) nP;refine aH ?_;simp only[↓zP,zJ,seval,e3,kR 64 rfl,kR 10 rfl,dA 10 rfl,aB,dP,hj,hgp,nP,bFw,ms',Pf];refine⟨(if_neg (by omega)).trans m0',?_,RL⟩;rw[rU];simp only[Bool.or_assoc]
   rintro f3 H3 kR ⟨m0',ms',RL⟩;rw[Ar] at ms';simp only[↓zP,seval];exact⟨m0',ms',RL⟩
 rintro f2 H2 dA ⟨m0,ms,DK⟩;rw[Ar] at ms;simp only[↓zP,seval];apply hK;clear hK K;have hP:∀k,(S.any fun q=>(L q).contains k)=gG S L k:=fun k=>rfl;simp only[hP] at ms;refine bS ?_;simp only[↓zP,zG,seval];refine bT ?_;refine aJ fun K hK=>?_;refine bS ?_;simp only[↓zP,zG,seval,dA 8 rfl,aL];refine bT ?_;have z0:¬(0=H2.next):=by omega
 have zs:¬(sid=H2.next):=by omega
 generalize ho:H2.next=ob at *;refine bQ [] (fun i _ H'=>H'.get 0=some (.cells [.aS] false)/\H'.get sid=some (.cells (mk C.length (gG S L)) false)/\ob<H'.next/\∃v,H'.get ob=some (.cells [v] false)/\Own H' 3 v (bF (((List.range i).filter (gG S L)).map fun k=>C.getD k V0))/\(((List.range i).filter (gG S L)).map (fun k=>C.getD k V0)=[]->v=.aS)) C.length (by omega) (by decide) ?_ ?_ ?_ ?_ ?_
 · simp only[zB,seval]
 · simp only[zB,seval]
 · refine⟨by rw[aA.aF,ho,if_neg z0];exact m0,by rw[aA.aF,ho,if_neg zs];exact ms,by rw[aA.bJ,ho];omega,.aS,by rw[aA.aF,ho,if_pos rfl],.nil _ _,fun _=>rfl⟩
 · rintro i f3 H3 hi kR e3 ⟨q0,qs,qn,v,qv,qo,qe⟩;have hg:=bY hi;have AJ:C.getD i V0=C[i]:=by simp[List.getD,hi]
   have aBa:((List.range (i+1)).filter (gG S L)).map (fun k=>C.getD k V0)=((List.range i).filter (gG S L)).map (fun k=>C.getD k V0)++(if gG S L i then [C[i]] else []):=by
    rw[Fj,Jr,Ch];congr 1;simp only[Ka,Kk];split
    · rw[By,AJ];rfl
    rfl
   have tS:(((List.range i).filter (gG S L)).map fun k=>C.getD k V0).length<=64:=by rw[Ad];have :=Dj (gG S L) (List.range i);rw[Bs] at this;omega
   rw[aBa];generalize ((List.range i).filter (gG S L)).map (fun k=>C.getD k V0)=els at *;generalize C[i]=x at *;have n0:¬(0=H3.next):=(by omega);have ns:¬(sid=H3.next):=(by omega);have nb:¬(ob=H3.next):=(by omega);have VJ:i+1<=C.length:=hi;have hmg:=aUf (gG S L) hi;refine aH ?_;refine bS ?_;simp only[↓zP,zJ,seval,e3,kR 75 rfl,aB,aL,hi,hg,oL (aM x)];refine bT ?_;generalize hX:(H3.alloc _).set H3.next _=H4;have y0:H4.get 0=some (.cells [.aS] false):=(by subst hX;rw[aA.aC,if_neg n0,aA.aF,if_neg n0];exact q0);have ys:H4.get sid=some (.cells (mk C.length (gG S L)) false):=(by subst hX;rw[aA.aC,if_neg ns,aA.aF,if_neg ns];exact qs);have yv:H4.get ob=some (.cells [v] false):=(by subst hX;rw[aA.aC,if_neg nb,aA.aF,if_neg nb];exact qv);have yx:H4.get H3.next=some (.cells (bZ x) false):=(by subst hX;rw[aA.aC,if_pos rfl]);have yn:H4.next=H3.next+1:=by subst hX;simp only[aA.aX,aA.bJ]
   have yo:Own H4 3 v (bF els):=by refine JV qo (by omega) fun k h1 h2=>?_;subst hX;rw[aA.aC,if_neg (by omega),aA.aF,if_neg (by omega)];exact h2
   clear hX;generalize H3.next=r3 at *
   cases hu:gG S L i with
   |false=>rw[hu] at hmg;simp only[↓zP,zJ,seval,kR 10 rfl,dA 10 rfl,aB,hi,VJ,ys,Pf,hmg];exact⟨y0,trivial,by omega,v,yv,yo,qe⟩
   |true=>
    rw[hu] at hmg;simp only[↓zP,zJ,seval,kR 10 rfl,dA 10 rfl,aB,hi,VJ,ys,Pf,hmg,kR 15 rfl,yv,yx,oL (aM x)];obtain⟨H5,z1,z2,z3,z4,z5⟩:=Has.push (.inr yo) (ys:=[bZ x]) (bytes:=24) rfl (by rw[aL,Ah,Ay];omega);rw[eL];have w2:=(z4 ob (by omega) (by rw[yv];simp)).trans yv;simp only[z1,bP,zJ,seval,w2];refine⟨(if_neg (by omega)).trans ((z4 0 (by omega) (by rw[y0];simp)).trans y0),(if_neg (by omega)).trans ((z4 sid (by omega) (by rw[ys];simp)).trans ys),by omega,_,rfl,?_,fun h=>?_⟩
    · rw[show bF (els++[x])=bF els++[bZ x] from by simp[bF]];exact .inr ⟨H4.next,rfl,by simp only[aA.aX];omega,by rw[aA.aC,if_neg (by omega)];exact z3⟩
    simp at h
 rintro f3 H3 kR ⟨q0,qs,qn,v,qv,qo,qe⟩;simp only[↓zP,seval];apply hK;clear hK K;have hL:((List.range C.length).filter (gG S L)).map (fun k=>C.getD k V0)=gQ C S L:=rfl;rw[hL] at qo qe;simp only[↓zP,zJ,seval,kR 15 rfl,kR 2 rfl,dA 2 rfl,hk 2 rfl,qv,q0];refine⟨rfl,_,by simp only[↓zP,zR,seval,kR 2 rfl,dA 2 rfl,hk 2 rfl];rfl,?_⟩;refine⟨_,2,rfl,fun nw=>?_⟩
 rcases qo with ⟨rfl,h⟩|⟨k,rfl,h1,h2⟩
 · rw[h];rfl
 have bN:¬bF (gQ C S L)=[]:=fun h=>by have :=qe (by simpa [bF] using h);cases this
 rw[show jQ 3 (bF (gQ C S L))=.aV 0 3 (bF (gQ C S L)) from if_neg bN];have DI:dJ (bF (gQ C S L))=true:=dF cC _;simp[fT,Pb,jR,DI,HE,pY,AV.free]
theorem PD {C:List aG.V} {S:List (aG.V×Int)} {L:aG.V×Int->List Nat} (hS:wS C S L) (bN:S≠[]):gQ C S L≠[]:=by
 obtain⟨q,r,rfl⟩:=Et bN;obtain⟨s,r',m,e,W,h⟩:=(hS.po q Au).ex;have hm:s∈L q:=by rw[h];exact Bf.2 ⟨0,Bi.2 W.pos,rfl⟩
 have hs:s<C.length:=(dN.1 W.hs).1;intro hh;have :C.getD s V0∈gQ C (q::r) L:=Bf.2 ⟨s,Ga.2 ⟨Bi.2 hs,by simp[gG,hm]⟩,rfl⟩;rw[hh] at this;cases this
def OS (l C:List aG.V) (S:List (aG.V×Int)) (L:aG.V×Int->List Nat):Int:=
 if(iD l C S L).2=0/\gQ C S L≠l then 3 else(iD l C S L).2
theorem UC {l C:List aG.V} {S:List (aG.V×Int)} {L:aG.V×Int->List Nat} (h:(iD l C S L).2=0):S≠[]/\(iD l C S L).1=jQ 3 (bF (gQ C S L))/\l.length<=64:=by
 unfold iD at h ⊢;split at h
 · cases h
 split at h
 · cases h
 split at h
 · cases h
 split at h
 · cases h
 rename_i h1 h2 h3 h4;rw[if_neg h1,if_neg h2,if_neg h3,if_neg h4];exact⟨fun e=>h3 (by rw[e];decide),rfl,by omega⟩
theorem UB {tag:Nat} (ht:Nat.blt tag 2=true) {l C:List aG.V} (hlen:l.length<2^30) (hC:Ord l C) {S:List (aG.V×Int)} {L:aG.V×Int->List Nat} (hS:wS C S L) (H:aA):
 Sg 40 [.agg [.aV tag 3 (bF l)]] H (.ret (.int .i64 (OS l C S L))) H:=by
 refine So bBh (by simp only[sf,cE ht]) ?_ H;unfold W40;dsimp only;have hH:=fun H=>aFi ht hlen hC hS H;unfold OS;have h0:=UC (l:=l) (C:=C) (S:=S) (L:=L);generalize iD l C S L=o at *;obtain⟨ov,oc⟩:=o;dsimp only at hH h0 ⊢;refine bS ?_;simp only[↓zP,zJ,seval];refine fL ?_;simp only[↓zP,zJ,seval];refine bK (hH _) ?_;simp only[↓zP,zJ,seval];refine bT ?_;by_cases hc:oc=0
 · subst hc;obtain⟨hSn,rfl,aWt⟩:=h0 rfl;have bN:=PD hS hSn;have kY:jQ 3 (bF (gQ C S L))=.aV 0 3 (bF (gQ C S L)):=if_neg (by simpa [bF] using bN);rw[kY]
   have wO:(gQ C S L).length<2^30:=by have hCl:C.length<=l.length:=uK C l (Hv (fun {a b} (h:gW a b) (e:a=b)=>gW.qh b (by rw[e] at h;exact h)) hC.TD) fun v hv=>(hC.mem v).1 hv;have :=Dj (gG S L) (List.range C.length);rw[Bs] at this;simp only[gQ,Ad];omega
   have hb:((0:Int)==0)=true:=rfl;have hE:=fun H=>xp (t1:=0) (t2:=tag) rfl ht wO hlen H;refine aJ fun K hK=>?_;simp only[↓zP,zJ,seval,hb];refine bK (hE _) ?_;by_cases he:gQ C S L=l
   · have hd:=Al he;simp only[↓zP,zJ,seval,hd];apply hK;clear hK K;simp only[↓zP,zG,seval];refine Rx ?_;rw[if_neg (fun h=>h.2 he)];rfl
   have hd:=Ae he;simp only[↓zP,zJ,seval,hd];refine Rx ?_;rw[if_pos ⟨trivial,he⟩];rfl
 have hb:(oc==0)=false:=Ca.2 hc;refine bS ?_;simp only[↓zP,zG,seval,hb];refine bT ?_;simp only[↓zP,zG,seval];refine Rx ?_;rw[if_neg (fun h=>hc h.1)];rfl
theorem NV {id r:Nat} {o:Bool} {H:aA} (hr:H.get r=some (.cells [.aS] o)):Sg 227 [.yield id,.ref r 0] H (.ret (.gP [])) H:=by
 refine lQ aMb (Af rfl) ?_;unfold aFx;dsimp only;refine bS ?_;simp only[↓zP,zJ,Nat.reduceLT,hr];refine bT ?_;refine bQ [] (fun i vs H'=>H'=H) 0 (by decide) (by decide) ?_ ?_ ?_ ?_ ?_
 · simp only[zB]
 · simp only[zB,Nat.reduceEqDiff];rfl
 · rfl
 · rintro i f H1 hi;exact absurd hi (Ax _)
 rintro f H1 hk rfl;refine⟨rfl,_,by simp only[zR];rfl,?_⟩;exact⟨rfl,rfl⟩
theorem YX (H:aA):Sg 184 [.aS] H (.ret (.func (.func 227) [] [.ref H.next 0])) (H.alloc (.cells [.aS] false)):=by refine lQ aLy (Af rfl) ?_;unfold aFu;dsimp only;simp only[↓zP,zJ,Nat.reduceLT,Nat.reduceEqDiff];refine⟨rfl,_,by simp only[↓zP,zR];rfl,?_⟩;exact⟨rfl,rfl⟩
theorem Qt {r:Nat} {o:Bool} {H:aA} (wv:r<H.next) (hr:H.get r=some (.cells [.aS] o)):
 ∃H',Sg 244 [.aS,.func (.func 227) [] [.ref r 0]] H (.ret .aS) H':=by
 suffices h:∃out H',out=.ret .aS/\Sg 244 [.aS,.func (.func 227) [] [.ref r 0]] H out H' by obtain⟨_,H',rfl,hS⟩:=h;exact⟨H',hS⟩
 refine tD fit aMc (Af rfl) ?_;unfold aFy;dsimp only;refine bS ?_;simp only[↓zP,zJ,Nat.reduceLT];refine bT ?_;refine aJ fun K hK=>?_;refine bS ?_;simp only[↓zP,zJ,Nat.reduceLT,Nat.reduceEqDiff];refine bT ?_;have hf2:(jG (jG (jG (dW [.aS,.func (.func 227) [] [.ref r 0]]) 2 (.ref H.next 0)) 4 .aS) 6 (.func (.func 227) [] [.ref r 0])) 2=.ref H.next 0:=rfl;have hf6:(jG (jG (jG (dW [.aS,.func (.func 227) [] [.ref r 0]]) 2 (.ref H.next 0)) 4 .aS) 6 (.func (.func 227) [] [.ref r 0])) 6=.func (.func 227) [] [.ref r 0]:=rfl;generalize jG (jG (jG (dW [.aS,.func (.func 227) [] [.ref r 0]]) 2 (.ref H.next 0)) 4 .aS) 6 (.func (.func 227) [] [.ref r 0])=f at *;refine aH ?_;refine FH (by rw[jD];exact hf6) ?_;simp only[aA.bJ];generalize PA:LD.mk [7] _ _=key
 refine⟨_,_,_,_,_,NV (o:=o) (by rw[aA.aF,if_neg (by simp;omega),aA.aF,if_neg (by simp;omega),aA.aF,if_neg (by omega)];exact hr),by rw[aA.aF];simp;exact⟨rfl,rfl,rfl⟩,fun Hf hf=>?_⟩
 obtain⟨f1,f2⟩:=hf;show K f [.mark (H.next+1)] Hf;apply hK;clear hK K;have b0:Hf.get H.next=some (.cells [.aS] false):=by rw[f2,if_neg (by omega)];simp[aA.aF];omega
 have b1:Hf.get (H.next+1)=some .MO:=by rw[f2,if_neg (by omega)];simp[aA.aF]
 simp only[↓zP,zJ,Nat.reduceLT,hf2,b0];exact⟨b1,[.aS],rfl,rfl⟩
theorem VW {r:Nat} {o:Bool} {H:aA} (wv:r<H.next) (hr:H.get r=some (.cells [.aS] o)):
 ∃H',Sg 225 [.func (.func 227) [] [.ref r 0]] H (.ret .aS) H':=by
 obtain⟨H',hS⟩:=Qt wv hr;refine⟨H',?_⟩;refine lQ aMa (Af rfl) ?_;unfold aFw;dsimp only;simp only[↓zP,zJ,Nat.reduceLT,Nat.reduceEqDiff];refine bK (hS) ?_;simp only[↓zP,zG,Nat.reduceLT];refine⟨rfl,_,by simp only[↓zP,zR];rfl,?_⟩;exact⟨rfl,rfl⟩
theorem OF {r:Nat} {o:Bool} {H:aA} (wv:r<H.next) (hr:H.get r=some (.cells [.aS] o)):
 ∃H',Sg 183 [.func (.func 227) [] [.ref r 0],.func (.func 185) [] []] H (.ret .aS) H':=by
 obtain⟨H1,hS⟩:=VW wv hr;refine⟨H1,?_⟩;refine lQ aBv (Af rfl) ?_;unfold yw;dsimp only;simp only[↓zP,zJ,Nat.reduceLT,Nat.reduceEqDiff];refine bK (hS) ?_;simp only[↓zP,zJ,Nat.reduceLT,Nat.reduceEqDiff];refine bK (lR Tryz.aEl rfl UW 185 _) ?_;simp only[↓zP,zG,Nat.reduceEqDiff];refine⟨rfl,_,by simp only[↓zP,zR];rfl,?_⟩;exact⟨rfl,rfl⟩
theorem cp (H:aA):Sg 144 [.aS] H (.ret .aS) H:=by refine dH fit dQ aLr (Af rfl) (by simp only[sf]) ?_ H;unfold aFn;dsimp only;obtain⟨H1,hS⟩:=OF (r:=0) (o:=false) (H:=(aA.mk 0 .nil).alloc (.cells [.aS] false)) (by simp) rfl;simp only[↓zP,zJ,Nat.reduceLT,Nat.reduceEqDiff];refine bK (YX _) ?_;simp only[];refine bK (hS) ?_;simp only[↓zP,zG,Nat.reduceLT];refine bK (MH _) ?_;simp only[↓zP,zG,Nat.reduceLT];refine⟨rfl,_,by simp only[↓zP,zR];rfl,?_⟩;exact⟨_,0,rfl,fun nw=>rfl⟩
theorem xz (H:aA):Sg 82 [.aS] H (.ret (.gP [.agg [.aS],.int .i64 120])) H:=by
 refine dH fit dQ bBs (Af rfl) (by simp only[sf]) ?_ H;unfold W82;dsimp only;refine bS ?_;simp only[↓zP,zG,Nat.reduceLT];refine fL ?_;simp only[↓zP,zJ,Nat.reduceLT,Nat.reduceEqDiff];refine⟨fun h=>absurd h (by decide),fun _=>?_⟩;refine bT ?_;refine aJ fun K hK=>?_;refine bS ?_;simp only[↓zP,zJ,Nat.reduceLT,Nat.reduceEqDiff];refine bT ?_;refine bQ [] (fun i _ H=>H.get 0=some (.cells [.aS] false)) 0 (by decide) (by decide) ?_ ?_ ?_ ?_ ?_
 · simp only[zB]
 · simp only[zB,Nat.reduceEqDiff];rfl
 · simp only[zI]
 · rintro i f H1 hi;exact absurd hi (Ax _)
 rintro f H1 hk g0;simp only[↓zP];apply hK;clear hK K;refine bS ?_;simp only[↓zP,zJ,Nat.reduceLT,Nat.reduceEqDiff,hk 0 rfl];refine bK (cp _) ?_;simp only[↓zP,zG,Nat.reduceLT];refine fL ?_;simp only[↓zP,zG,Nat.reduceLT];refine bK (QA _) ?_;simp only[↓zP,zG,Nat.reduceLT];refine bT ?_;refine aJ fun K hK=>?_;simp only[↓zP,zJ,Nat.reduceLT,Nat.reduceEqDiff,Int.reduceLT,hk 2 rfl,g0];refine⟨fun _=>?_,fun h=>absurd (show((0:Int)<4) by decide) (by simp at h)⟩;refine⟨rfl,_,by simp only[↓zP,zR,Nat.reduceEqDiff,hk 2 rfl,g0];rfl,?_⟩;exact⟨_,2,rfl,fun nw=>rfl⟩
theorem RQ (H:aA):Sg 40 [.agg [.aS]] H (.ret (.int .i64 120)) H:=by
 refine So bBh (by simp only[sf]) ?_ H;unfold W40;dsimp only;refine bS ?_;simp only[↓zP,zJ,Nat.reduceLT];refine fL ?_;simp only[↓zP,zJ,Nat.reduceLT,Nat.reduceEqDiff];refine bK (xz _) ?_;simp only[↓zP,zJ,Nat.reduceLT,Nat.reduceEqDiff,Nat.reduceAdd];refine bT ?_;have hb:((120:Int)==0)=false:=by decide
 refine bS ?_;simp only[↓zP,zJ,Nat.reduceLT,Nat.reduceEqDiff,hb];refine bT ?_;simp only[↓zP,zG,Nat.reduceLT,Nat.reduceEqDiff];refine⟨rfl,_,by simp only[↓zP,zR];rfl,?_⟩;rfl
def pC (p:Int×Int):List AV:=[.int .i64 p.1,.int .i64 p.2]
theorem Pv (p:Int×Int):(pC p).length=2:=rfl
theorem UZ (p:Int×Int):bU (pC p)=true:=by simp only[pC,sf]
def si (p q:Int×Int):Int:=orZ [uX p.1 q.1,uX p.2 q.2]
theorem Ua (p q:Int×Int):si p q<0↔p.1<q.1\/(p.1=q.1/\p.2<q.2):=by
 unfold si orZ uX
 rcases Fp p.1 q.1 with h|h|h
 · simp[h]
 · rcases Fp p.2 q.2 with h2|h2|h2
   · simp[h,h2]
   · simp[h,h2]
   simp[h,h2,Kg h2]
 simp[h,Kg h,Jo h]
theorem jm (p q:Int×Int) (H:aA):Sg 217 [.agg (pC p),.agg (pC q)] H (.ret (.int .i64 (si p q))) H:=by
 refine So bAi (by simp only[sf,UZ]) ?_ H;unfold aPn;dsimp only;refine aJ fun K hK=>?_;simp only[↓zP,zG,seval,zI];apply hK;clear hK K;refine aJ fun K hK=>?_;refine Dz ?_;simp only[↓zP,zG,seval,zD,zI,pC,jI];refine eT (iQ p.1 q.1 _) ?_;simp only[↓zP,zG,seval,zD,zI,jI];refine eT (iQ p.2 q.2 _) ?_;simp only[↓zP,zG,seval,zD,zI];have SO:=ya [uX p.1 q.1,uX p.2 q.2] (by simp);simp only[eA,sm] at SO;refine eT (SO _) ?_;simp only[↓zP,zG,seval,zD,zI];apply hK;clear hK K;simp only[↓zP,seval]
 (refine Rx ?_;rfl)
def pV (q:Int×Int):CX 2:=⟨[q.1,q.2],rfl⟩
def KN (x:CX 2):Int×Int:=(x.1.getD 0 0,x.1.getD 1 0)
theorem Ub (x:CX 2):pV (KN x)=x:=by
 obtain⟨l,hl⟩:=x
 match l,hl with
 |[a,b],_=>rfl
theorem fe (q:Int×Int):WG (pV q)=pC q:=rfl
theorem Ul:∀S:List (Int×Int),(mG (S.map pV)).map (AV.int .i64)=(S.map pC).flatten
 |[]=>rfl
 |q::S=>by have :=Ul S;simp only[mG,By,Cl,Ch,Bp] at this ⊢;rw[this];rfl
theorem bJb:Go.Sort.SWO (Go.Proofs.ltOf fun x y:CX 2=>si (KN x) (KN y)) where
 irrefl x:=by simp only[Go.Proofs.ltOf,Ua,Cc];omega
 trans x y z h1 h2:=by simp only[Go.Proofs.ltOf,Ua,Bh] at *;omega
 ntrans x y z h1 h2:=by simp only[Go.Proofs.ltOf,Ua,Cc] at *;omega
theorem ji:tZ Tryz.prog 216:=⟨_,Tryz.func216,by kernel_rfl,by kernel_rfl⟩
theorem aEi (d:List (CX 2)) (hd:d.length<4611686018427387904):
 ∃d':List (CX 2),d'.Perm d/\(d'.Pairwise fun a b=>¬si (KN b) (KN a)<0)/\∀(H:aA) (id:Nat) (opn:Bool),H.get id=some (.cells ((mG d).map (AV.int .i64)) opn)->
  Sg 216 [.sl id 2 0 d.length d.length,.func (.func 217) [] []] H (.ret (.gP [])) (H.set id (.cells ((mG d').map (AV.int .i64)) opn)):=
 FM (fun _=>rfl) Tryz.aMk (by decide) Tryz.isAgg23 Tryz.sizeOf23 rfl ji (jm (0,0) (0,0) ⟨0,.nil⟩).1 bJb (fun x y=>by
  have :=jm (KN x) (KN y) ⟨0,.nil⟩
  rwa [<-fe,<-fe,Ub,Ub] at this) d hd
def TW (H:aA) (x:Nat) (v:AV) (l:List (Int×Int)):Prop:=
 (l=[]/\v=.aS)\/∃nF,l≠[]/\v=.sl nF 2 0 l.length l.length/\H.get nF=some (.cells (l.map pC).flatten true)/\¬(x=nF)/\nF<H.next
theorem TW.push {H:aA} {x:Nat} {v:AV} {l:List (Int×Int)} (h:TW H x v l) (AK:x<H.next) (hlen:l.length<2^30) (p:Int×Int):
 ∃v' H',dU H 2 16 true v [pC p]=some (v',H')/\TW H' x v' (l++[p])/\H'.next=H.next+1/\H'.get x=H.get x:=by
 rcases h with ⟨rfl,rfl⟩|⟨nF,bN,rfl,hg,h1,h2⟩
 · exact⟨_,_,vE rfl (by simp),.inr ⟨H.next,by simp,rfl,by rw[aA.aF,if_pos rfl];rfl,by omega,by simp⟩,by simp,by rw[aA.aF,if_neg (by omega)]⟩
 have hl4:(l.map pC).flatten.length=l.length*2:=by rw[oR (sz:=2) (fun e he=>?_),Ad];obtain⟨x,_,rfl⟩:=Bf.1 he;rfl
 refine⟨_,_,rL hg hl4 rfl (by simp only[Ah,Ay];omega) (by decide),.inr ⟨H.next,by simp,by simp,?_,by omega,by simp⟩,by simp,by rw[aA.aF,aA.aX,if_neg (by omega),aA.aC,if_neg (by omega)]⟩;rw[aA.aF,aA.aX,if_pos rfl];simp
theorem TW.behind {H H':aA} {x:Nat} {v:AV} {l:List (Int×Int)} (h:TW H x v l) (hn:H'.next=H.next+1) (hs:∀j,j<H.next->H'.get j=H.get j):TW H' H.next v l:=by
 rcases h with h|⟨nF,h0,h1,h2,h3,h4⟩
 · exact .inl h
 exact .inr ⟨nF,h0,h1,(hs _ h4).trans h2,by omega,by omega⟩
def YC (l:List Nat) (j:Nat):List (Int×Int):=(List.range j).flatMap fun i=>if l.getD i 0<l.getD ((i+1)%l.length) 0 then [((l.getD i 0:Int),(l.getD ((i+1)%l.length) 0:Int))] else []
def HG (S:List (aG.V×Int)) (L:aG.V×Int->List Nat):List (Int×Int):=S.flatMap fun q=>YC (L q) (L q).length
theorem xo {tag:Nat} (ht:Nat.blt tag 2=true) {l:List aG.V} {M:Nat} (hl:∀v∈l,bM M v) (hM:M<=2^18) (hlen:l.length<=64) {S:List (aG.V×Int)} {L:aG.V×Int->List Nat} (hS:wS l S L) (bN:S≠[]) (IU:S.length<=64):
 ∃E:List (Int×Int),E.Perm (HG S L)/\(E.Pairwise fun a b=>¬si b a<0)/\∀H,Sg 167 [.agg [.aV tag 3 (bF l)]] H (.ret (jQ 2 (E.map pC))) H:=by
 have aRj:∀q∈S,(L q).length<=64:=fun q hq=>by obtain⟨s,r,m,e,W,h⟩:=(hS.po q hq).ex;rw[h,Ad,Bs];have h1:=W.le;have h2:=Dj (fun k=>decide (aG.dot q.1 (l.getD k V0)=q.2)) (List.range l.length);rw[Bs] at h2;have h3:(jP (fun i=>l.getD i V0) l.length q.1 q.2).length<=l.length:=h2;omega
 have aLa:∀T:List (aG.V×Int),(∀q∈T,(L q).length<=64)->(HG T L).length<=T.length*64:=fun T=>by
  induction T with
  |nil=>intro _;simp[HG]
  |cons q T ih=>intro h;have h1:=ih fun x hx=>h x (Aw _ hx);have h2:=h q Au;have h3:=mA (fun i=>if(L q).getD i 0<(L q).getD ((i+1)%(L q).length) 0 then [((((L q).getD i 0:Nat):Int),(((L q).getD ((i+1)%(L q).length) 0:Nat):Int))] else []) 1 (fun i=>by split<;>simp) (List.range (L q).length);rw[Bs,Dl] at h3;have h4:(YC (L q) (L q).length).length<=(L q).length:=h3;simp only[HG,Cl,An,Ah,Ce,Gq] at h1 ⊢;omega
 have aAi:∀i,(HG (S.take i) L).length<2^29:=fun i=>by
  have h1:=aLa (S.take i) fun q hq=>aRj q (Cx hq);have h2:(S.take i).length<=S.length:=by rw[Cb];omega
  omega
 obtain⟨d',q1,q2,q3⟩:=aEi ((HG S L).map pV) (by
  have h1:=aLa S aRj;rw[Ad]
  omega)
 refine⟨d'.map KN,?_,?_,fun H=>?_⟩
 · have h1:=q1.map KN
   rwa [Dp,show(KN∘pV)=id from rfl,Hc] at h1
 · rw[Iv];exact q2
 refine dH fit dQ aZg (Af rfl) (by simp only[sf,cE ht]) ?_ H;unfold aOn;dsimp only;refine aJ fun K hK=>?_;simp only[↓zP,zG,seval,zI];apply hK;clear hK K;refine aJ fun K hK=>?_;simp only[↓zP,zG,seval];apply hK;clear hK K;have hF:=fun H=>KZ ht hl hM hlen hS bN H;refine aJ fun K hK=>?_;refine aJ fun K2 cK=>?_;simp only[↓zP,zG,seval,zI];refine bK (hF _) ?_;simp only[↓zP,zG,seval,zI,Ad];apply cK;clear cK K2;refine bQ [3] (fun i vs H'=>∃v x,vs=[v]/\TW H' x v (HG (S.take i) L)/\1<=H'.next) S.length (by omega) (by decide) ?_ ?_ ?_ ?_ ?_
 · simp only[zB,seval]
 · simp only[zB,seval]
 · exact⟨.aS,0,by simp only[sm,zB,seval],.inl ⟨rfl,rfl⟩,by simp only[zI,seval]⟩
 · rintro i f H1 hi hk e1 ⟨v,x,hv,hr,hn⟩;simp only[zM] at hv;have hg:(S.map (cQ L)).getD i []=cQ L S[i]:=dT hi
   have sH:HG (S.take (i+1)) L=HG (S.take i) L++YC (L S[i]) (L S[i]).length:=by simp only[HG];rw[Ap,Fa];simp[hi]
   have Oy:=aAi i;have vw:=aRj _ (Ai hi);rw[sH];generalize HG (S.take i) L=E0 at *;generalize S[i]=q at *;have p5:(cQ L q).length=5:=rfl;have pa:(cQ L q).getD 4 aD=.aV 0 1 (zH (L q)):=rfl;refine aH ?_;refine aJ fun K2 cK=>?_;simp only[↓zP,zG,seval,zI,e1,hk 10 rfl,aB,Ad,hi,hg,oL p5];apply cK;clear cK K2;generalize hX:(H1.alloc _).set H1.next _=H4;have yn:H4.next=H1.next+1:=(by subst hX;simp only[aA.aX,aA.bJ]);have y5:H4.get H1.next=some (.cells (cQ L q) false):=(by subst hX;rw[aA.aC,if_pos rfl]);have yr:TW H4 H1.next v E0:=hr.behind yn fun j hj=>by subst hX;rw[aA.aC,if_neg (by omega),aA.aF,if_neg (by omega)]
   clear hX;generalize H1.next=r5 at *;refine aJ fun K2 cK=>?_;simp only[↓zP,zG,seval,zI,y5,p5,pa,dP];apply cK;clear cK K2;refine bQ [3] (fun j vs H'=>∃v,vs=[v]/\TW H' r5 v (E0++YC (L q) j)/\r5<H'.next/\H'.get r5=some (.cells (cQ L q) false)) (L q).length (by omega) (by decide) ?_ ?_ ?_ ?_ ?_
   · simp only[zB,seval]
   · simp only[zB,seval]
   · exact⟨v,by simp only[sm,zB,seval];rw[hv],by simpa [YC] using yr,by omega,y5⟩
   · rintro j f2 H2 hj dA e2 ⟨v2,nJ,Zb,DK,g5⟩;simp only[zM] at nJ;refine aH ?_;refine aJ fun K2 cK=>?_;have hgj:=uM hj;simp only[↓zP,zG,seval,zI,e2,dA 17 rfl,aB,dP,hj,hgj];apply cK;clear cK K2;refine aJ fun K2 cK=>?_;refine Dz ?_;have wj:IntKind.i64.wrap ((j:Int)+1)=((j+1:Nat):Int):=(wrap_i64 (by omega) (by omega)).trans (by omega);have nz:¬(((L q).length:Int)=0):=(by omega);have hm:(j+1)%(L q).length<(L q).length:=De _ (by omega);have tm:((j+1:Nat):Int).tmod ((L q).length:Int)=(((j+1)%(L q).length:Nat):Int):=rfl;have hgb:=uM hm
     have hed:YC (L q) (j+1)=YC (L q) j++(if(L q)[j]<(L q)[(j+1)%(L q).length] then [((((L q)[j]:Nat):Int),(((L q)[(j+1)%(L q).length]:Nat):Int))] else []):=by simp only[YC];rw[Fj,Fa];simp[List.getD,hj,hm]
     have bJt:(YC (L q) j).length<=j:=by have :=mA (fun i=>if(L q).getD i 0<(L q).getD ((i+1)%(L q).length) 0 then [((((L q).getD i 0:Nat):Int),(((L q).getD ((i+1)%(L q).length) 0:Nat):Int))] else []) 1 (fun i=>by split<;>simp) (List.range j);rw[Bs,Dl] at this;exact this
     have aRq:E0++YC (L q) (j+1)=(E0++YC (L q) j)++(if(L q)[j]<(L q)[(j+1)%(L q).length] then [((((L q)[j]:Nat):Int),(((L q)[(j+1)%(L q).length]:Nat):Int))] else []):=(by rw[hed,Cw]);have hEl:(E0++YC (L q) j).length<2^30:=(by rw[An];omega);generalize hE1:E0++YC (L q) j=E1 at Zb aRq hEl;clear hed;simp only[↓zP,zG,seval,zD,zI,dA 5 rfl,g5,p5,pa,aB,dP,wj,nz,tm,hm,hgb];apply cK;clear cK K2;generalize (L q)[(j+1)%(L q).length]=b at *;generalize (L q)[j]=a at *;by_cases EC:a<b
     · have hd:decide ((a:Int)<(b:Int))=true:=Al (by omega);obtain⟨v',H5,z1,z2,z3,z4⟩:=Zb.push DK hEl ((a:Int),(b:Int));have hpc:[AV.int .i64 (a:Int),.int .i64 (b:Int)]=pC ((a:Int),(b:Int)):=rfl;simp only[↓zP,zG,seval,zI,hd,nJ,hpc,Pv];rw[eL];simp only[z1,bP,seval];rw[aRq,if_pos EC];exact⟨v',rfl,z2,by omega,z4.trans g5⟩
     have hd:decide ((a:Int)<(b:Int))=false:=Ae (by omega);simp only[↓zP,zG,seval,zI,hd,nJ];rw[aRq,if_neg EC,Bz];exact⟨v2,rfl,Zb,DK,g5⟩
   rintro f2 H2 dA ⟨v2,nJ,Zb,DK,g5⟩;simp only[zM] at nJ;simp only[↓zP,seval];exact⟨v2,r5,by simp only[sm,seval];rw[nJ],Zb,by omega⟩
 rintro f H1 hk ⟨v,x,hv,hr,hn⟩;simp only[zM] at hv;rw[Ar] at hr;simp only[↓zP,seval];apply hK;clear hK K;have fu:HG S L≠[]->(HG S L).map pV≠[]:=fun h e=>h (by simpa using e)
 rcases hr with ⟨hE,rfl⟩|⟨nF,hEn,rfl,hg,hx,wv⟩
 · refine aJ fun K hK=>?_;simp only[↓zP,zG,seval,hv];refine bK (lR Tryz.aMk rfl ji 217 _) ?_;simp only[↓zP,seval];apply hK;clear hK K;simp only[↓zP,zG,seval,hv];refine Rx ?_
   have Ow:d'=[]:=by rw[hE] at q1;exact List.Perm.eq_nil q1
   rw[Ow];exact⟨_,0,rfl,fun nw=>rfl⟩
 have hgr:H1.get nF=some (.cells ((mG ((HG S L).map pV)).map (AV.int .i64)) true):=by rw[hg,Ul]
 have hc:=q3 H1 nF true hgr;rw[Ad] at hc;refine aJ fun K hK=>?_;simp only[↓zP,zG,seval,hv];refine bK (hc) ?_;simp only[↓zP,seval];apply hK;clear hK K;simp only[↓zP,zG,seval,hv];have rR:d'=(d'.map KN).map pV:=by rw[Dp];exact(Ef (g:=id) (fun x _=>Ub x)).trans (Hc d') |>.symm
 have Nc:((d'.map KN).map pC).length=(HG S L).length:=by rw[Ad,Ad,q1.length_eq,Ad]
 rw[show(mG d').map (AV.int .i64)=((d'.map KN).map pC).flatten from by rw[<-Ul,<-rR]];refine Rx ?_;have hSn:¬((d'.map KN).map pC=[]):=fun h=>hEn (Cs (by rw[<-Nc,h];rfl));refine⟨_,0,rfl,fun nw=>?_⟩;rw[<-Nc,jQ,if_neg hSn];refine KI (by rw[aA.aC,if_pos rfl]) (fun e he=>?_) (dF UZ _) nw;obtain⟨q,_,rfl⟩:=Bf.1 he;rfl
def EN (l:List aG.V) (p:Nat×Nat):aG.V:=aG.sub (l.getD p.2 V0) (l.getD p.1 V0)
def pN (p:Nat×Nat):Int×Int:=(p.1,p.2)
theorem l7 {tag:Nat} (ht:Nat.blt tag 2=true) {l:List aG.V} {M:Nat} (hl:∀v∈l,bM M v) (hM:M<=2^18) {E:List (Nat×Nat)} (hEl:E.length<=2^20) (hE0:E≠[]) (hE:∀p∈E,p.1<l.length/\p.2<l.length)
 (hS:∀H,Sg 167 [.agg [.aV tag 3 (bF l)]] H (.ret (jQ 2 ((E.map pN).map pC))) H) (H:aA):
 Sg 128 [.agg [.aV tag 3 (bF l)]] H (.ret (.aV 0 3 (bF (E.map (EN l))))) H:=by
 refine dH fit dQ aYi (Af rfl) (by simp only[sf,cE ht]) ?_ H;unfold aNq;dsimp only;have cG:∀k (h:k<l.length),l.getD k V0=l[k]:=fun k h=>by simp[List.getD,h]
 rw[show jQ 2 ((E.map pN).map pC)=.aV 0 2 ((E.map pN).map pC) from if_neg (by simpa using hE0)] at hS;refine bS ?_;simp only[↓zP,zJ,seval];refine fL ?_;simp only[↓zP,zG,seval];refine bT ?_;refine aJ fun K hK=>?_;refine bS ?_;simp only[↓zP,zJ,seval];refine bK (hS _) ?_;simp only[↓zP,zG,seval,Ad];refine bT ?_;refine bQ [3] (fun i vs H'=>∃v,vs=[v]/\Own H' 3 v (bF ((E.take i).map (EN l)))/\1<=H'.next/\H'.get 0=some (.cells [.aV tag 3 (bF l)] false)) E.length (by omega) (by decide) ?_ ?_ ?_ ?_ ?_
 · simp only[zB,seval]
 · simp only[zB,seval]
 · exact⟨.aS,by simp only[sm,zB,seval],.nil _ _,by simp only[zI,seval],by simp only[zI,seval]⟩
 · rintro i f H1 hi hk e1 ⟨v,hv,ho,hn,g0⟩;simp only[zM] at hv;have hg:((E.map pN).map pC).getD i []=pC (pN E[i]):=by rw[Dp];exact dT hi
   obtain⟨ha,hb⟩:=hE _ (Ai hi)
   have sH:(E.take (i+1)).map (EN l)=(E.take i).map (EN l)++[EN l E[i]]:=by rw[Ap,Ch];simp[hi]
   have htl:((E.take i).map (EN l)).length<=2^20:=(by simp;omega);rw[sH];generalize (E.take i).map (EN l)=els at *;generalize E[i]=p at *;have UR:¬(0=H1.next):=(by omega);have ga:=bY ha;have gb:=bY hb;have na:=hl _ (Ai ha);have nb:=hl _ (Ai hb);have BP:aG.sub l[p.2] l[p.1]=EN l p:=(by simp only[EN,cG p.2 hb,cG p.1 ha]);have q0:(pC (pN p)).getD 0 aD=.int .i64 (p.1:Int):=rfl;have q1:(pC (pN p)).getD 1 aD=.int .i64 (p.2:Int):=rfl;refine aH ?_;refine bS ?_;simp only[↓zP,zJ,seval,e1,hk 7 rfl,aB,Ad,hi,hg,oL (Pv (pN p))];refine bT ?_;generalize hX:(H1.alloc _).set H1.next _=H4;have u0:H4.get 0=some (.cells [.aV tag 3 (bF l)] false):=(by subst hX;rw[aA.aC,if_neg UR,aA.aF,if_neg UR];exact g0);have u1:H4.get H1.next=some (.cells (pC (pN p)) false):=(by subst hX;rw[aA.aC,if_pos rfl]);have un:H4.next=H1.next+1:=by subst hX;simp only[aA.aX,aA.bJ]
   have uo:Own H4 3 v (bF els):=by refine JV ho (by omega) fun k h1 h2=>?_;subst hX;rw[aA.aC,if_neg (by omega),aA.aF,if_neg (by omega)];exact h2
   clear hX;obtain⟨H5,z1,z2,z3,z4,z5⟩:=Has.push (.inr uo) (ys:=[bZ (EN l p)]) (bytes:=24) rfl (by rw[aL,Ah,Ay];omega);generalize H1.next=r1 at *;refine Dz ?_;simp only[↓zP,zJ,seval,zD,hk 1 rfl,hv,u0,u1,Pv,q0,q1,jI,aB,aL,ha,hb,ga,gb,oL (aM l[p.1]),oL (aM l[p.2])];refine eT (KO nb na (by omega) _) ?_;rw[BP];simp only[↓zP,zJ,seval,zD,oL (aM (EN l p))];rw[eL];simp only[z1,bP,seval];rw[show bF (els++[EN l p])=bF els++[bZ (EN l p)] from by simp[bF]];exact⟨by omega,_,rfl,.inr ⟨H4.next,rfl,by omega,z3⟩,by omega,(z4 0 (by omega) (by rw[u0];simp)).trans u0⟩
 rintro f H1 hk ⟨v,hv,ho,hn,g0⟩;simp only[zM] at hv;rw[Ar] at ho;simp only[↓zP,seval];apply hK;simp only[↓zP,zG,seval,hv];refine Rx ?_;refine⟨v,0,rfl,fun nw=>?_⟩;have bN:bF (E.map (EN l))≠[]:=by simpa [bF] using hE0
 rcases ho with ⟨_,h⟩|⟨k,rfl,h1,h2⟩
 · exact absurd h bN
 have DI:dJ (bF (E.map (EN l)))=true:=dF cC _;simp[fT,jR,DI,HE]
end Go.Proofs.YtbndcmnnbiiobaaGreatDoor
namespace Go.Proofs.YtbndcmnnbiiobaaGreatDoor
open Go Go.Av Go.aG Go.mO
theorem uL {z:Int} (h:z.natAbs<2^250):norm z=some z:=by
 have :(2:Nat)^250<W^16:=by decide
 unfold norm;rw[if_pos (by omega)]
theorem uJ {x y:Int} {A B:Nat} (hx:x.natAbs<=A) (hy:y.natAbs<=B) (h:A*B<2^250):GL (some x) (some y)=some (x*y):=uL (by
 have :=bO hx hy
 omega)
theorem aAf {v w:aG.V} {A B:Nat} (hv:bM A v) (hw:bM B w) (h:3*(A*B)<2^240):smO (fun i=>some (v.at i)) (fun i=>some (w.at i)) 3=some (aG.dot v w):=by
 have h5:(2:Nat)^240<2^250:=by decide
 have hAB:A*B<2^250:=by omega
 have m0:=bO hv.1 hw.1;have m1:=bO hv.2.1 hw.2.1;have m2:=bO hv.2.2 hw.2.2;simp only[smO,V.at];rw[uJ hv.1 hw.1 hAB,uJ hv.2.1 hw.2.1 hAB,uJ hv.2.2 hw.2.2 hAB];simp only[IB];rw[uL (show(0+v.x*w.x).natAbs<2^250 by omega)];simp only;rw[uL (show(0+v.x*w.x+v.y*w.y).natAbs<2^250 by omega)];simp only;rw[uL (show(0+v.x*w.x+v.y*w.y+v.z*w.z).natAbs<2^250 by omega)];simp only[aG.dot,Int.zero_add]
theorem Yp {v w:aG.V} {A B:Nat} (hv:bM A v) (hw:bM B w) (h:3*(A*B)<2^240) {i:Nat} (hi:i<3):Yn (fun i=>some (v.at i)) (fun i=>some (w.at i)) i=some ((aG.aT v w).at i):=by
 have h5:(2:Nat)^240<2^250:=by decide
 have hAB:A*B<2^250:=by omega
 have key:∀a b c d:Int,a.natAbs<=A->b.natAbs<=B->c.natAbs<=A->d.natAbs<=B->IB (GL (some a) (some b)) (RS (GL (some c) (some d)))=some (a*b -c*d):=fun a b c d h1 h2 h3 h4=>by rw[uJ h1 h2 hAB,uJ h3 h4 hAB];have m0:=bO h1 h2;have m1:=bO h3 h4;simp only[RS,IB];rw[uL (by omega),Int.sub_eq_add_neg]
 match i,hi with
 |0,_=>exact key v.y w.z v.z w.y hv.2.1 hw.2.2 hv.2.2 hw.2.1
 |1,_=>exact key v.z w.x v.x w.z hv.2.2 hw.1 hv.1 hw.2.2
 |2,_=>exact key v.x w.y v.y w.x hv.1 hw.2.1 hv.2.1 hw.1
attribute [local congr] aU aO aP aN aY aR aQ aI aZ
attribute [local irreducible] FC bL eU
def xO (n:aG.V) (m:Int) (l:List aG.V):Int:=l.foldl (fun m v=>if aG.dot n v<m then aG.dot n v else m) m
def xD (n:aG.V) (m:Int) (l:List aG.V):Int:=l.foldl (fun m v=>if aG.dot n v>m then aG.dot n v else m) m
theorem dp (z:Int):bU (cI z)=true:=cH z
theorem j4 {tag:Nat} (ht:Nat.blt tag 2=true) {l:List aG.V} {M B:Nat} (hl:∀v∈l,bM M v) (hlen:l.length<2^30) (hM:M<=2^18) {n:aG.V} (hn:bM B n) (hB:B<=2^62) {x0:aG.V} {r:List aG.V} (hx:l=x0::r) (H:aA):
 Sg 68 [.agg [.aV tag 3 (bF l)],.agg (bZ n)] H (.ret (.gP [.agg (cI (xO n (aG.dot n x0) l)),.agg (cI (xD n (aG.dot n x0) l))])) H:=by
 have hI:∀{A:Nat} {v:aG.V},bM A v->A<=2^62->∀i,KS (v.at i):=fun {A v} h hA i=>by have :=bM.c h i;unfold KS;omega
 have hBM:B*M<=2^62*2^18:=Bv hB hM
 have aAy:∀v∈l,∀H,Sg 130 [.agg (bZ n),.agg (bZ v)] H (.ret (.agg (cI (aG.dot n v)))) H:=fun v hv H=>by
  have :=aMm (hI hn hB) (hI (hl v hv) (by omega)) H
  rwa [aAf hn (hl v hv) (by
   have :(2:Nat)^62*2^18*3<2^240:=by decide
   omega)] at this
 refine Sp bIc (by simp only[sf,cE ht,cC]) (by simp only[AV.free,bU,dp];rfl) ?_ H;unfold W68;dsimp only;have YJ:0<l.length:=by rw[hx];simp
 have aSv:l[0]=x0:=by subst hx;rfl
 have g0:=bY YJ;have Ow:=aAy _ (Ai YJ);have a0:asNat (.int .i64 0)=some 0:=rfl;have fS:∀z,(cI z).length=18:=fun z=>by simp[cI,cM,bW]
 refine bS ?_;simp only[↓zP,zJ,seval];refine fL ?_;refine Dz ?_;simp only[↓zP,zJ,seval,zD,a0,aL,YJ,g0,oL (aM l[0]),oL (aM n)];have yF:(AV.bool false::AV.bool false::wC zs).length=18:=by simp[cM];rfl
 refine eT (Ow _) ?_;simp only[↓zP,zJ,seval,zD,a0,aL,YJ,g0,oL (aM l[0]),oL (aM n)];refine eT (Ow _) ?_;rw[aSv];generalize hd:aG.dot n x0=d0 at *;simp only[↓zP,zJ,seval,zD,fS,yF,oL yF];refine bT ?_;refine aJ fun K hK=>?_;refine bS ?_;simp only[↓zP,zJ,seval];refine bT ?_;refine bQ [] (fun i _ H'=>H'.get 1=some (.cells (bZ n) false)/\H'.get 2=some (.cells (cI (xO n d0 (l.take i))) false)/\H'.get 3=some (.cells (cI (xD n d0 (l.take i))) false)/\4<=H'.next/\(xO n d0 (l.take i)).natAbs<=3*(B*M)/\(xD n d0 (l.take i)).natAbs<=3*(B*M)) l.length (by omega) (by decide) ?_ ?_ ?_ ?_ ?_
 · simp only[zB,seval]
 · simp only[zB,seval,aL]
 · have ZR:=pO hn (hl x0 (by rw[hx];simp));rw[hd] at ZR;exact⟨by simp only[zI,seval],by simp only[zI,seval];rfl,by simp only[zI,seval];rfl,by simp only[zI,seval],ZR,ZR⟩
 · rintro i f H1 hi hk e1 ⟨m1,m2,m3,hn4,b1,b2⟩;have hg:=bY hi;have uG:=Ai hi;have hdi:=aAy _ uG;have ZR:=pO hn (hl _ uG)
   have AK:xO n d0 (l.take (i+1))=if aG.dot n l[i]<xO n d0 (l.take i) then aG.dot n l[i] else xO n d0 (l.take i):=by unfold xO;rw[Ap,Gt];simp[hi]
   have o8:xD n d0 (l.take (i+1))=if aG.dot n l[i]>xD n d0 (l.take i) then aG.dot n l[i] else xD n d0 (l.take i):=by unfold xD;rw[Ap,Gt];simp[hi]
   rw[AK,o8];generalize xO n d0 (l.take i)=lo at *;generalize xD n d0 (l.take i)=oY at *;generalize l[i]=x at *;generalize aG.dot n x=d at *;have n1:¬(1=H1.next):=(by omega);have n2:¬(2=H1.next):=(by omega);have n3:¬(3=H1.next):=(by omega);refine aH ?_;refine bS ?_;simp only[↓zP,zJ,seval,e1,hk 22 rfl,aB,aL,hi,hg,oL (aM x)];refine fL ?_;simp only[↓zP,zJ,seval,hk 3 rfl,n1,m1,oL (aM x),oL (aM n)];refine bK (hdi _) ?_;simp only[↓zP,zJ,seval,fS,yF,oL yF];refine bT ?_;generalize hX:(((H1.alloc _).set H1.next _).alloc _).set (H1.next+1) _=H4;have y1:H4.get 1=some (.cells (bZ n) false):=(by subst hX;rw[aA.aC,if_neg (by omega),aA.aF,if_neg (by simp;omega),aA.aC,if_neg (by omega),aA.aF,if_neg (by omega)];exact m1);have y2:H4.get 2=some (.cells (cI lo) false):=(by subst hX;rw[aA.aC,if_neg (by omega),aA.aF,if_neg (by simp;omega),aA.aC,if_neg (by omega),aA.aF,if_neg (by omega)];exact m2);have y3:H4.get 3=some (.cells (cI oY) false):=(by subst hX;rw[aA.aC,if_neg (by omega),aA.aF,if_neg (by simp;omega),aA.aC,if_neg (by omega),aA.aF,if_neg (by omega)];exact m3);have y8:H4.get (H1.next+1)=some (.cells (cI d) false):=(by subst hX;rw[aA.aC,if_pos rfl]);have yn:4<=H4.next:=(by subst hX;simp only[aA.aX,aA.bJ];omega);clear hX;generalize hr8:H1.next+1=r8 at *
   have w16:3*(B*M)<W^16:=by have :3*(2^62*2^18)<W^16:=(by decide);omega
   have jU:fZ (cI d) (some d):=.enc (by omega);have ilo:fZ (cI lo) (some lo):=.enc (by omega);have ihi:fZ (cI oY) (some oY):=.enc (by omega);have q2:¬(2=r8):=(by omega);have q3:¬(3=r8):=(by omega);refine aJ fun K2 cK=>?_
   have AB:∀y:Int,(decide (iH (some d) (some y)<0)=decide (d<y))/\(decide (iH (some d) (some y)>0)=decide (d>y)):=fun y=>by constructor<;>(rw[Az];simp only[iH];split<;>(try split)<;>omega)
   have key:∀(f':cU) (H':aA) (lo2:Int),f' 8=.ref r8 0->f' 5=.ref 3 0->H'.get r8=some (.cells (cI d) false)->H'.get 1=some (.cells (bZ n) false)->H'.get 2=some (.cells (cI lo2) false)->H'.get 3=some (.cells (cI oY) false)->4<=H'.next->lo2=(if d<lo then d else lo)->K2 f' [] H':=by
    intro f' H' lo2 v8 v5 p8 p1 p2 p3 pn plo;apply cK;clear cK K2;simp only[↓zP,zJ,seval,v8,v5,p8,p3,fS,oL (fS d),oL (fS oY)];refine bK (KX jU ihi _) ?_;have AL:(if d<lo then d else lo).natAbs<=3*(B*M):=(by split<;>omega);by_cases c2:d>oY
    · have d2:decide (iH (some d) (some oY)>0)=true:=(by rw[(AB oY).2];exact Al c2);simp only[↓zP,zJ,seval,d2,v8,v5,p8,p3,fS,oL (fS d),oL (fS oY)];rw[if_pos c2,<-plo];exact⟨p1,p2,rfl,pn,by rw[plo];exact AL,ZR⟩
    have d2:decide (iH (some d) (some oY)>0)=false:=(by rw[(AB oY).2];exact Ae c2);simp only[↓zP,zG,seval,d2];rw[if_neg c2,<-plo];exact⟨p1,p2,p3,pn,by rw[plo];exact AL,b2⟩
   simp only[↓zP,zJ,seval,hk 4 rfl,y8,y2,fS,oL (fS d),oL (fS lo)];refine bK (KX jU ilo _) ?_;by_cases c1:d<lo
   · have d1:decide (iH (some d) (some lo)<0)=true:=(by rw[(AB lo).1];exact Al c1);simp only[↓zP,zJ,seval,d1,hk 4 rfl,y8,y2,fS,oL (fS d),oL (fS lo)];refine key _ _ d (by simp only[zB,seval]) (by simp only[zB,seval];exact hk 5 rfl) ?_ ?_ ?_ ?_ ?_ (if_pos c1).symm
     · rw[aA.aC,if_neg (by omega)];exact y8
     · rw[aA.aC,if_neg (by omega)];exact y1
     · rw[aA.aC,if_pos rfl]
     · rw[aA.aC,if_neg (by omega)];exact y3
     rw[aA.aX];exact yn
   have d1:decide (iH (some d) (some lo)<0)=false:=(by rw[(AB lo).1];exact Ae c1);simp only[↓zP,zG,seval,d1];exact key _ _ lo (by simp only[zB,seval]) (by simp only[zB,seval];exact hk 5 rfl) y8 y1 y2 y3 yn (if_neg c1).symm
 rintro f H1 hk ⟨m1,m2,m3,hn4,b1,b2⟩;rw[Ar] at m2 m3;simp only[↓zP,seval];apply hK;clear hK K;refine bS ?_;refine Dz ?_;simp only[↓zP,zJ,seval,zD,hk 4 rfl,hk 5 rfl,m2,m3,fS,oL (fS (xO n d0 l)),oL (fS (xD n d0 l))];refine bT ?_;simp only[↓zP,seval];refine⟨rfl,_,by simp only[↓zP,zR,seval,hk 4 rfl,hk 5 rfl,fS,oL (fS (xO n d0 l)),oL (fS (xD n d0 l))];rfl,?_⟩;rfl
theorem RA {ta tb:Nat} (a b:List aG.V) (H:aA):Sg 67 [.agg [.aV ta 3 (bF a)],.agg [.aV tb 3 (bF b)]] H (.ret (.func (.func 126) [] [.ref H.next 0,.ref (H.next+1) 0])) ((H.alloc (.cells [.aV ta 3 (bF a)] false)).alloc (.cells [.aV tb 3 (bF b)] false)):=by refine lQ bIb (Af rfl) ?_;unfold W67;dsimp only;refine bS ?_;simp only[↓zP,zJ,seval];refine bT ?_;simp only[↓zP,zJ,seval];refine Rx ?_;exact⟨rfl,rfl⟩
def LQ (U W:List aG.V):List aG.V:=U.flatMap fun u=>W.filterMap fun w=>if aG.aT u w=V0 then none else some (aG.aT u w)
def jT (Sa Sb:List (aG.V×Int)) (U W:List aG.V):List aG.V:=(Sa++Sb).map (·.1)++LQ U W
def pre (D:List aG.V) (U W:List aG.V) (i j:Nat):List aG.V:=D++LQ (U.take i) W++LQ ((U.drop i).take 1) (W.take j)
theorem Te (A B W:List aG.V):LQ (A++B) W=LQ A W++LQ B W:=by simp only[LQ,Fa]
theorem dt (u:aG.V) (A B:List aG.V):LQ [u] (A++B)=LQ [u] A++LQ [u] B:=by simp only[LQ,Cl,Jz,Bz,Iz]
theorem aVv (A:List aG.V):LQ A []=[]:=by simp[LQ]
theorem zy (u w:aG.V):LQ [u] [w]=if aG.aT u w=V0 then [] else [aG.aT u w]:=by by_cases h:aG.aT u w=V0<;>simp[LQ,h]
theorem wL {U:List aG.V} {i:Nat} (h:i<U.length):(U.drop i).take 1=[U[i]]:=by rw[Dm h];rfl
theorem FE {U:List aG.V} {i:Nat} (h:i<U.length):U.take (i+1)=U.take i++[U[i]]:=by rw[Ap];simp[h]
theorem Uf (D U W:List aG.V) (i:Nat):pre D U W i 0=D++LQ (U.take i) W:=by simp[pre,aVv]
theorem aJb {D U W:List aG.V} {i:Nat} (h:i<U.length):pre D U W i W.length=pre D U W (i+1) 0:=by rw[Uf,FE h,Te];simp only[pre,wL h,Ar,Cw]
theorem aDj {D U W:List aG.V} {i j:Nat} (h:i<U.length) (hj:j<W.length):pre D U W i (j+1)=pre D U W i j++LQ [U[i]] [W[j]]:=by simp only[pre,wL h,FE hj,dt,Cw]
theorem aJa (Sa Sb:List (aG.V×Int)) (U W:List aG.V):jT Sa Sb U W=pre ((Sa++Sb).map (·.1)) U W U.length 0:=by rw[Uf,Ar];rfl
theorem aJc {D U W:List aG.V} {i j:Nat} (h:i<U.length) (hj:j<=W.length):∃R,pre D U W U.length 0=pre D U W i j++R:=by
 refine⟨LQ [U[i]] (W.drop j)++LQ (U.drop (i+1)) W,?_⟩;rw[Uf,Ar]
 have e:U=U.take i++([U[i]]++U.drop (i+1)):=by rw[Iy,<-Dm h,Gk]
 have e2:LQ [U[i]] W=LQ [U[i]] (W.take j)++LQ [U[i]] (W.drop j):=by rw[<-dt,Gk]
 conv=>lhs;rw[e]
 rw[Te,Te,e2];simp only[pre,wL h,Cw]
theorem NL {ta tb:Nat} {a b:List aG.V} {Sa Sb:List (aG.V×Int)} {La Lb:aG.V×Int->List Nat} {U W:List aG.V} {MU:Nat} (hMU:MU<=2^20)
 (fa:∀H,Sg 127 [.agg [.aV ta 3 (bF a)]] H (.ret (.aV (H.next+2) 5 (Sa.map (cQ La)))) (H.alloc .tok))
 (fb:∀H,Sg 127 [.agg [.aV tb 3 (bF b)]] H (.ret (.aV (H.next+2) 5 (Sb.map (cQ Lb)))) (H.alloc .tok))
 (ea:∀H,Sg 128 [.agg [.aV ta 3 (bF a)]] H (.ret (.aV 0 3 (bF U))) H)
 (eb:∀H,Sg 128 [.agg [.aV tb 3 (bF b)]] H (.ret (.aV 0 3 (bF W))) H)
 (nU:∀v∈U,bM MU v) (nW:∀v∈W,bM MU v) (lSa:Sa.length<=64) (lSb:Sb.length<=64) (hSb:Sb≠[]) (lU:U.length<=2^20) (lW:W.length<=2^20)
 {id r1 r2:Nat} {o1 o2:Bool} {H:aA} (I:Nat->aA->Prop) (Stop:aA->Prop) (sep:aG.V->Bool) (HJ:∀k H H',Over H H'->I k H->I k H') (aSp:∀H H',Over H H'->Stop H->Stop H')
 (eF:∀k (hk:k<(jT Sa Sb U W).length) H1,I k H1->∃H',sK Tryz.prog gv id [.agg (bZ (jT Sa Sb U W)[k])] H1 (.ret (.bool (!sep (jT Sa Sb U W)[k]))) H'/\(if sep (jT Sa Sb U W)[k] then Stop H' else I (k+1) H')/\H1.next<=H'.next/\∀j,H.next<=j->j<H1.next->H'.get j=H1.get j)
 (hI0:∀k H1,I k H1->H.next<=H1.next) (b1:r1<H.next) (b2:r2<H.next) (g1:H.get r1=some (.cells [.aV ta 3 (bF a)] o1)) (g2:H.get r2=some (.cells [.aV tb 3 (bF b)] o2))
 (aBz:∀k H',I k H'->H'.get r1=some (.cells [.aV ta 3 (bF a)] o1)/\H'.get r2=some (.cells [.aV tb 3 (bF b)] o2)) (h0:I 0 H):
 ∃H',(if(jT Sa Sb U W).any sep then Stop H' else I (jT Sa Sb U W).length H')/\Sg 126 [.yield id,.ref r1 0,.ref r2 0] H (.ret (.gP [])) H':=by
 suffices h:∃out H',(out=.ret (.gP [])/\if(jT Sa Sb U W).any sep then Stop H' else I (jT Sa Sb U W).length H')/\Sg 126 [.yield id,.ref r1 0,.ref r2 0] H out H' by obtain⟨_,H',⟨rfl,hm⟩,hS⟩:=h;exact⟨H',hm,hS⟩
 refine gA fit aYg (Af rfl) ?_;unfold aNo;dsimp only;refine aJ fun K hK=>?_;refine bS ?_;refine Dz ?_;have k2:(H.alloc .tok).get r2=H.get r2:=by rw[aA.aF,if_neg (by omega)]
 simp only[↓zP,zJ,seval,zD,g1];refine HP (by decide) (by simp only[sm,zB,seval]) (fa _) (by simp) (fun x hx hp=>by simp only[Bq] at hx;subst hx;simp at hp) ?_;simp only[↓zP,zJ,seval,zD,g2,k2];refine⟨by rw[if_neg (by omega)],?_⟩;refine HP (by decide) (by simp only[sm,zB,seval]) (fb _) (by simp) (fun x hx hp=>by simp at hp) ?_;have bEd:Own ((H.alloc .tok).alloc .tok) 5 (.aV (H.next+2) 5 (Sa.map (cQ La))) (Sa.map (cQ La)):=.inr ⟨H.next,rfl,by simp;omega,by rw[aA.aF,if_neg (by simp),aA.aF,if_pos rfl]⟩;obtain⟨v',H5,z1,z2,z3⟩:=bEd.append (ys:=Sb.map (cQ Lb)) (bytes:=56) (by simp only[Ad];omega)
 have hov:Over H H5:=⟨by have :=z3.next;simp at this;omega,fun j hj=>by rw[z3.get j (by simp[Xn];omega) (by simp;omega),aA.aF,if_neg (by simp;omega),aA.aF,if_neg (by omega)]⟩
 rcases z2 with ⟨_,h⟩|⟨tk,rfl,_,_⟩
 · simp at h;exact absurd h.2 hSb
 simp only[↓zP,zJ,seval,zD];rw[show ∀(h:aA) (n:Nat) (y:List (List AV)),dM h 5 (.aV n 5 y)=some y from fun _ _ _=>rfl];simp only[z1,bP,↓zP,seval,zD,An,Ad];refine⟨by have :=z3.next;simpa using this,?_⟩;refine bT ?_;have Nc:(Sa++Sb).length<=(jT Sa Sb U W).length:=by simp only[jT,An,Ad];omega
 have we:∀i (h:i<(Sa++Sb).length),(jT Sa Sb U W)[i]'(Cf h Nc)=((Sa++Sb)[i]).1:=fun i h=>by simp only[jT];rw[List.getElem_append_left (by simpa using h),Co]
 have Oy:∀i (h:i<(Sa++Sb).length),((Sa.map (cQ La)++Sb.map (cQ Lb)).getD i []).length=5/\((Sa.map (cQ La)++Sb.map (cQ Lb)).getD i []).take 3=bZ ((Sa++Sb)[i]).1:=fun i h=>by
  by_cases h1:i<Sa.length
  · have :(Sa.map (cQ La)++Sb.map (cQ Lb)).getD i []=cQ La Sa[i]:=by simp[List.getD,Dr,h1]
    rw[this,List.getElem_append_left h1];exact⟨rfl,rfl⟩
  have h2:i -Sa.length<Sb.length:=by rw[An] at h;omega
  have :(Sa.map (cQ La)++Sb.map (cQ Lb)).getD i []=cQ Lb Sb[i -Sa.length]:=by simp[List.getD,Dr,h1,h2]
  rw[this,List.getElem_append_right (by omega)];exact⟨rfl,rfl⟩
 refine bQ [] (fun i vs H'=>I i H'/\∀k,k<i->∀h:k<(jT Sa Sb U W).length,sep (jT Sa Sb U W)[k]=false) (Sa.length+Sb.length) (by omega) (by decide) ?_ ?_ ?_ ?_ ?_
 · simp only[zB,seval]
 · simp only[zB,seval]
 · exact⟨HJ 0 _ _ hov h0,fun k hk=>absurd hk (Ax _)⟩
 · rintro i f H1 hi hk e1 ⟨hI,pz⟩;have oY:i<(Sa++Sb).length:=by rw[An];exact hi
   obtain⟨p5,p3⟩:=Oy i oY;have hs:=eF i (Cf oY Nc)
   have aWy:∀k,k<i+1->sep ((jT Sa Sb U W)[i]'(Cf oY Nc))=false->∀h:k<(jT Sa Sb U W).length,sep (jT Sa Sb U W)[k]=false:=fun k hk h1 h=>by
    by_cases e:k=i
    · subst e;exact h1
    exact pz k (by omega) h
   have NM:sep ((jT Sa Sb U W)[i]'(Cf oY Nc))=true->(jT Sa Sb U W).any sep=true:=fun h=>Cz.2 ⟨_,Ai _,h⟩;rw[we i oY] at hs aWy NM;have BN:i<(Sa.map (cQ La)++Sb.map (cQ Lb)).length:=(by simp only[An,Ad];exact hi);generalize KT:(Sa.map (cQ La)++Sb.map (cQ Lb)).getD i []=cs at *;generalize ((Sa++Sb)[i]).1=d at *;refine aH ?_;refine bS ?_;have bFb:i<Sa.length+Sb.length:=hi;simp only[↓zP,zJ,seval,e1,hk 17 rfl,aB,An,Ad,bFb,KT,oL p5];refine bT ?_;have bFr:Over H1 ((H1.alloc (.cells [.int .i64 0,.int .i64 0,.int .i64 0,.int .i64 0,.aS] false)).set H1.next (.cells cs false)):=((Over.refl H1).alloc _).set (Ak _) _;have hgc:((H1.alloc (.cells [.int .i64 0,.int .i64 0,.int .i64 0,.int .i64 0,.aS] false)).set H1.next (.cells cs false)).get H1.next=some (.cells cs false):=(by rw[aA.aC,if_pos rfl]);obtain⟨H2,hy,RH,_,_⟩:=hs _ (HJ i _ _ bFr hI);generalize (H1.alloc (.cells [.int .i64 0,.int .i64 0,.int .i64 0,.int .i64 0,.aS] false)).set H1.next (.cells cs false)=HA at *;simp only[↓zP,zJ,seval,hgc,p5,p3,hk 0 rfl];refine FI (by decide) (by rfl) (by rfl) hy ?_
   cases SP:sep d with
   |true=>rw[SP] at RH;simp only[↓zP,zJ,seval];refine⟨rfl,_,by simp only[zR,seval];rfl,?_⟩;exact⟨rfl,by rw[if_pos (NM SP)];simpa using RH⟩
   |false=>rw[SP] at RH;simp only[↓zP,zJ,seval];exact⟨by simpa using RH,fun k hk h=>aWy k hk SP h⟩
 rintro f H1 hk ⟨hI,pz⟩;simp only[↓zP,seval];apply hK;clear hK K;obtain⟨w1,w2⟩:=aBz _ _ hI;refine bS ?_;refine Dz ?_;simp only[↓zP,zJ,seval,zD,hk 1 rfl,w1];refine eT (ea _) ?_;simp only[↓zP,zJ,seval,zD,hk 2 rfl,w2];refine eT (eb _) ?_;simp only[↓zP,zJ,seval,zD];refine fL ?_;simp only[↓zP,zG,seval,aL];refine bT ?_;have fu:(Sa++Sb).length=Sa.length+Sb.length:=An;have hD0:((Sa++Sb).map (·.1)).length=Sa.length+Sb.length:=by rw[Ad,fu]
 have aWm:jT Sa Sb U W=pre ((Sa++Sb).map (·.1)) U W U.length 0:=aJa ..
 have bFp:∀x∈(Sa++Sb).map (·.1),sep x=false:=fun x hx=>by
  obtain⟨k,rS,rfl⟩:=Cv hx;have RI:k<Sa.length+Sb.length:=by rw[<-hD0];exact rS
  have :=pz k RI (by omega);rw[we k (by rw[fu];exact RI)] at this;rw[Co];exact this
 generalize hDg:(Sa++Sb).map (·.1)=D at *;refine bQ [] (fun i vs H'=>I (pre D U W i 0).length H'/\∀x∈pre D U W i 0,sep x=false) U.length (by omega) (by decide) ?_ ?_ ?_ ?_ ?_
 · simp only[zB,seval]
 · simp only[zB,seval]
 · have e:pre D U W 0 0=D:=by simp[Uf,LQ]
   rw[e,hD0];exact⟨hI,bFp⟩
 · rintro i f2 H2 hi dA e2 ⟨RH,ZW⟩;have hgu:=bY hi;have hnu:=nU _ (Ai hi);refine aH ?_;simp only[↓zP,zJ,seval,e2,dA 33 rfl,dA 7 rfl,aB,aL,hi,hgu,oL (aM U[i])];refine bQ [] (fun j vs H'=>I (pre D U W i j).length H'/\(∀x∈pre D U W i j,sep x=false)/\H2.next<H'.next/\H'.get H2.next=some (.cells (bZ U[i]) false)) W.length (by omega) (by decide) ?_ ?_ ?_ ?_ ?_
   · simp only[zB,seval]
   · simp only[zB,seval]
   · exact⟨HJ _ _ _ (((Over.refl H2).alloc _).set (Ak _) _) RH,ZW,by simp,by rw[aA.aC,if_pos rfl]⟩
   · rintro j f3 H3 hj kR e3 ⟨hI3,aBl,RL,g9⟩;have hgw:=bY hj;have hnw:=nW _ (Ai hj);have oZ:=aDj (D:=D) hi hj;obtain⟨R,hR⟩:=aJc (D:=D) (W:=W) hi (show j+1<=W.length from hj);rw[<-aWm,oZ,zy] at hR;rw[zy] at oZ;have ZO:=hI0 _ _ RH;generalize pre D U W i (j+1)=Pn at *;generalize pre D U W i j=Pj at *;generalize U[i]=u at *;generalize W[j]=w at *;have hcn:bM (2*(MU*MU)) (aG.aT u w):=jX hnu hnw;have hMM:MU*MU<=2^20*2^20:=Bv hMU hMU;have hIu:∀i,KS (u.at i):=fun i=>by have :=bM.c hnu i;unfold KS;omega
     have hIw:∀i,KS (w.at i):=fun i=>by have :=bM.c hnw i;unfold KS;omega
     have hcr:∀i,i<3->Yn (fun i=>some (u.at i)) (fun i=>some (w.at i)) i=some ((aG.aT u w).at i):=fun i hi=>Yp hnu hnw (by
      have :(3*(2^20*2^20):Nat)<2^240:=by decide
      omega) hi
     have wc:∀i,((aG.aT u w).at i).natAbs<=2*(MU*MU):=fun i=>bM.c hcn i;have w16:2*(2^20*2^20)<mO.W^16:=by decide
     have hcI:∀i,i<3->fZ (cO (Yn (fun i=>some (u.at i)) (fun i=>some (w.at i)) i)) (Yn (fun i=>some (u.at i)) (fun i=>some (w.at i)) i):=fun i hi=>by rw[hcr i hi];exact .enc (by have :=wc i;omega)
     have bFl:(⟨(eN (Yn (fun i=>some (u.at i)) (fun i=>some (w.at i)) 0)).1,(eN (Yn (fun i=>some (u.at i)) (fun i=>some (w.at i)) 1)).1,(eN (Yn (fun i=>some (u.at i)) (fun i=>some (w.at i)) 2)).1⟩:aG.V)=aG.aT u w:=by
      have sm:∀z:Int,z.natAbs<=2*(MU*MU)->(eN (some z)).1=z:=fun z hz=>by simp only[eN];rw[if_pos (by omega)]
      rw[hcr 0 (by decide),hcr 1 (by decide),hcr 2 (by decide),sm _ (wc 0),sm _ (wc 1),sm _ (wc 2)];rfl
     have n9:¬(H2.next=H3.next):=(by omega);refine aH ?_;simp only[↓zP,zJ,seval,e3,kR 39 rfl,kR 9 rfl,aB,aL,hj,hgw,oL (aM w),oL (aM u),g9,n9];refine bK (xm hIu hIw _) ?_;refine bK (qp hcI _) ?_;rw[bFl];generalize hc:aG.aT u w=c at *;by_cases hc0:c=V0
     · rw[if_pos hc0,Bz] at oZ;have hd:decide (c=V0)=true:=Al hc0;simp only[↓zP,zJ,seval,oL (aM c),IG,hd];rw[oZ];refine⟨HJ _ _ _ (((((Over.refl H3).alloc _).set (Ak _) _).alloc _).set (by simp) _) hI3,aBl,by omega,?_⟩;rw[if_neg (by omega),if_neg (by omega),if_neg (by omega),if_neg (by omega)];exact g9
     have hd:decide (c=V0)=false:=Ae hc0;simp only[↓zP,zJ,seval,oL (aM c),IG,hd];generalize hX:(((H3.alloc _).set _ _).alloc _).set _ _=HX;have aSb:Over H3 HX:=(by subst hX;exact((((Over.refl H3).alloc _).set (Ak _) _).alloc _).set (by omega) _);clear hX;have g9X:=(aSb.same H2.next RL).trans g9;have hIX:=HJ _ _ _ aSb hI3;have hnX:=aSb.le;rw[if_neg hc0] at oZ hR;have eQ:Pj.length<(jT Sa Sb U W).length:=(by rw[hR];simp);have aLc:(jT Sa Sb U W)[Pj.length]'eQ=c:=(by simp[hR]);obtain⟨H6,hy,hI6,hn6,hs6⟩:=eF _ eQ HX hIX;rw[aLc] at hy hI6
     have hf0:f3 0=.yield id:=by rw[kR 0 rfl];simp only[zB,seval];rw[dA 0 rfl];simp only[zB,seval];rw[hk 0 rfl];simp only[zB,seval,dW,Ci]
     refine FI (by decide) (by simp only[zB,seval];exact hf0) (by simp only[sm,zB,seval]) hy ?_
     cases SP:sep c with
     |true=>rw[SP] at hI6;have NM:(jT Sa Sb U W).any sep=true:=Cz.2 ⟨c,by rw[<-aLc];exact Ai eQ,SP⟩;simp only[↓zP,zJ,seval];refine⟨rfl,_,by simp only[zR,seval];rfl,?_⟩;exact⟨rfl,by rw[if_pos NM];simpa using hI6⟩
     |false=>
      rw[SP] at hI6;simp only[↓zP,zJ,seval];rw[oZ,An];refine⟨by simpa using hI6,fun x hx=>?_,by omega,(hs6 _ (by omega) (by omega)).trans g9X⟩
      rcases As.1 hx with hx|hx
      · exact aBl x hx
      rw[Bq] at hx;subst hx;exact SP
   rintro f3 H3 kR ⟨hI3,aBl,RL,g9⟩;rw[aJb hi] at hI3 aBl;exact⟨hI3,aBl⟩
 rintro f2 H2 dA ⟨RH,ZW⟩;rw[<-aWm] at RH ZW
 have NM:(jT Sa Sb U W).any sep=false:=by rw[Fo];intro x hx;simp[ZW x hx]
 refine⟨rfl,_,by simp only[zR,seval];rfl,?_⟩;exact⟨rfl,by rw[NM];exact RH⟩
def oF (a b:List aG.V) (n:aG.V):Bool:=decide (xD n (aG.dot n (a.getD 0 V0)) a<=xO n (aG.dot n (b.getD 0 V0)) b)||decide (xD n (aG.dot n (b.getD 0 V0)) b<=xO n (aG.dot n (a.getD 0 V0)) a)
theorem JM {n:aG.V} {X:Nat}:∀{l:List aG.V} {m:Int},m.natAbs<=X->(∀v∈l,(aG.dot n v).natAbs<=X)->(xO n m l).natAbs<=X
 |[],_,h,_=>h
 |v::l,m,h,hl=>by have h1:=hl v Au;have :=JM (n:=n) (l:=l) (m:=if aG.dot n v<m then aG.dot n v else m) (by split<;>omega) (fun w hw=>hl w (Aw _ hw));exact this
theorem IZ {n:aG.V} {X:Nat}:∀{l:List aG.V} {m:Int},m.natAbs<=X->(∀v∈l,(aG.dot n v).natAbs<=X)->(xD n m l).natAbs<=X
 |[],_,h,_=>h
 |v::l,m,h,hl=>by have h1:=hl v Au;have :=IZ (n:=n) (l:=l) (m:=if aG.dot n v>m then aG.dot n v else m) (by split<;>omega) (fun w hw=>hl w (Aw _ hw));exact this
theorem VY {ta tb:Nat} (wz:Nat.blt ta 2=true) (xc:Nat.blt tb 2=true) {a b:List aG.V} {M B:Nat} (ha:∀v∈a,bM M v) (hb:∀v∈b,bM M v) (hM:M<=2^18) (RJ:a.length<2^30) (hlb:b.length<2^30) (ha0:a≠[]) (Tp:b≠[])
 {Sa Sb:List (aG.V×Int)} {La Lb:aG.V×Int->List Nat} {U W:List aG.V} {MU:Nat} (hMU:MU<=2^20)
 (fa:∀H,Sg 127 [.agg [.aV ta 3 (bF a)]] H (.ret (.aV (H.next+2) 5 (Sa.map (cQ La)))) (H.alloc .tok))
 (fb:∀H,Sg 127 [.agg [.aV tb 3 (bF b)]] H (.ret (.aV (H.next+2) 5 (Sb.map (cQ Lb)))) (H.alloc .tok))
 (ea:∀H,Sg 128 [.agg [.aV ta 3 (bF a)]] H (.ret (.aV 0 3 (bF U))) H)
 (eb:∀H,Sg 128 [.agg [.aV tb 3 (bF b)]] H (.ret (.aV 0 3 (bF W))) H)
 (nU:∀v∈U,bM MU v) (nW:∀v∈W,bM MU v) (lSa:Sa.length<=64) (lSb:Sb.length<=64) (hSb:Sb≠[]) (lU:U.length<=2^20) (lW:W.length<=2^20)
 (ZR:∀n∈jT Sa Sb U W,bM B n) (hB:B<=2^62) (H:aA):
 Sg 32 [.agg [.aV ta 3 (bF a)],.agg [.aV tb 3 (bF b)]] H (.ret (.bool ((jT Sa Sb U W).any (oF a b)))) H:=by
 suffices h:∃out H',out=.ret (.bool ((jT Sa Sb U W).any (oF a b)))/\Sg 32 [.agg [.aV ta 3 (bF a)],.agg [.aV tb 3 (bF b)]] ⟨0,.nil⟩ out H' by obtain⟨_,H',rfl,hS⟩:=h;exact Sound.frame dQ (by simp only[sf,cE wz,cE xc]) hS (tk:=none) (fun k hk=>by cases hk) (n:=0) H (oV rfl)
 obtain⟨a0,ar,hae⟩:=Et ha0;obtain⟨b0,br,hbe⟩:=Et Tp;refine tD fit bHe (Af rfl) ?_;unfold W32;dsimp only;refine bS ?_;simp only[↓zP,zJ,seval];refine bT ?_;refine aJ fun K hK=>?_;refine bS ?_;simp only[↓zP,zJ,seval];refine bK (RA (ta:=ta) (tb:=tb) a b _) ?_;simp only[↓zP,seval,zI];refine bT ?_
 refine aMn (by
  repeat (first|exact(xZ (Af rfl)).1|refine nT.jG ?_ (by decide) _)) (fun f HX ER hf hHX=>?_)
 have f2:f 2=.ref 0 0:=by subst hf;simp only[zB,seval]
 have f3:f 3=.ref 1 0:=by subst hf;simp only[zB,seval]
 have f4:f 4=.ref 2 0:=by subst hf;simp only[zB,seval]
 have f12:f 12=.func (.func 126) [] [.ref 3 0,.ref 4 0]:=by subst hf;simp only[zB,seval]
 have xn:HX.next=5:=by subst hHX;simp only[zI,seval]
 have x0:HX.get 0=some (.cells [.aV ta 3 (bF a)] false):=by subst hHX;simp only[zI,seval]
 have x1:HX.get 1=some (.cells [.aV tb 3 (bF b)] false):=by subst hHX;simp only[zI,seval]
 have x2:HX.get 2=some (.cells [.bool false] false):=by subst hHX;simp only[zI,seval]
 have x3:HX.get 3=some (.cells [.aV ta 3 (bF a)] false):=by subst hHX;simp only[zI,seval]
 have x4:HX.get 4=some (.cells [.aV tb 3 (bF b)] false):=by subst hHX;simp only[zI,seval]
 clear hf hHX;refine aH ?_;refine FH (by rw[jD];exact f12) ?_;simp only[xn,seval];generalize PA:LD.mk [13] _ _=key
 let I:Nat->aA->Prop:=fun _ H'=>7<=H'.next/\H'.get 0=some (.cells [.aV ta 3 (bF a)] false)/\H'.get 1=some (.cells [.aV tb 3 (bF b)] false)/\H'.get 2=some (.cells [.bool false] false)/\H'.get 3=some (.cells [.aV ta 3 (bF a)] false)/\H'.get 4=some (.cells [.aV tb 3 (bF b)] false)/\H'.get 5=some .MO/\H'.get 6=some (.loop key (LF 36 f) .ready)
 let Stop:aA->Prop:=fun H'=>H'.get 2=some (.cells [.bool true] false)/\7<=H'.next/\H'.get 5=some .MO/\∃k s,H'.get 6=some (.loop k s (.done .ret))
 have HJ:∀i H1 H2,Over H1 H2->I i H1->I i H2:=fun i H1 H2 ho ⟨w1,w2,w3,w4,w5,w6,w7,w8⟩=>⟨Br w1 ho.le,(ho.same _ (by omega)).trans w2,(ho.same _ (by omega)).trans w3,(ho.same _ (by omega)).trans w4,(ho.same _ (by omega)).trans w5,(ho.same _ (by omega)).trans w6,(ho.same _ (by omega)).trans w7,(ho.same _ (by omega)).trans w8⟩
 have aSp:∀H1 H2,Over H1 H2->Stop H1->Stop H2:=fun H1 H2 ho ⟨w1,w2,w3,k,s,w4⟩=>⟨(ho.same _ (by omega)).trans w1,Br w2 ho.le,(ho.same _ (by omega)).trans w3,k,s,(ho.same _ (by omega)).trans w4⟩
 have yn:((HX.alloc .MO).alloc (.loop key (LF 36 f) .ready)).next=7:=by simp[xn]
 have h0:I 0 ((HX.alloc .MO).alloc (.loop key (LF 36 f) .ready)):=by refine⟨by rw[yn];decide,?_,?_,?_,?_,?_,?_,?_⟩<;>simp[aA.aF, *]
 have eF:∀k (hk:k<(jT Sa Sb U W).length) H1,I k H1->∃H',sK Tryz.prog gv 6 [.agg (bZ (jT Sa Sb U W)[k])] H1 (.ret (.bool (!oF a b (jT Sa Sb U W)[k]))) H'/\(if oF a b (jT Sa Sb U W)[k] then Stop H' else I (k+1) H')/\H1.next<=H'.next/\∀j,((HX.alloc .MO).alloc (.loop key (LF 36 f) .ready)).next<=j->j<H1.next->H'.get j=H1.get j:=by
  rintro k hk H1 ⟨w1,w2,w3,w4,w5,w6,w7,w8⟩;have hn:=ZR _ (Ai hk);rw[yn];generalize (jT Sa Sb U W)[k]=n at *
  suffices h:∃out H',(out=.ret (.bool (!oF a b n))/\(if oF a b n then Stop H' else I (k+1) H')/\H1.next<=H'.next/\∀j,7<=j->j<H1.next->H'.get j=H1.get j)/\sK Tryz.prog gv 6 [.agg (bZ n)] H1 out H' by obtain⟨_,H',⟨rfl,h1,h2,h3⟩,hS⟩:=h;exact⟨H',hS,h1,h2,h3⟩
  refine Ya fit ER w8 (by rw[<-PA];rfl) (by rw[<-PA];rfl) (by rw[<-PA];rfl) ?_
  have aHe:FC Tryz.prog gv 36 key.MK (tM 36 f (key.ps.zip [.agg (bZ n)])) [] H1 (fun e f1 pQ H1'=>e=.normal/\f1=jG (jG f 13 (.agg (bZ n))) 5 (.ref H1.next 0)/\pQ=[]/\H1'=(H1.alloc (.cells [.int .i64 0,.int .i64 0,.int .i64 0] false)).set H1.next (.cells (bZ n) false)):=by subst PA;dsimp only[List.zip,List.zipWith,tM,fD];simp only[↓zP,zJ,seval,oL (aM n)]
  refine jB (fun e f1 pQ H1' h=>?_) aHe;obtain⟨rfl,rfl,rfl,rfl⟩:=h;have ho1:Over H1 ((H1.alloc (.cells [.int .i64 0,.int .i64 0,.int .i64 0] false)).set H1.next (.cells (bZ n) false)):=((Over.refl H1).alloc _).set (Ak _) _;have ga:((H1.alloc (.cells [.int .i64 0,.int .i64 0,.int .i64 0] false)).set H1.next (.cells (bZ n) false)).get H1.next=some (.cells (bZ n) false):=by rw[aA.aC,if_pos rfl]
  have gan:((H1.alloc (.cells [.int .i64 0,.int .i64 0,.int .i64 0] false)).set H1.next (.cells (bZ n) false)).next=H1.next+1:=by simp
  refine⟨rfl,key,LF 36 f,(ho1.same 6 (by omega)).trans w8,?_⟩;generalize hbz:aA.set _ 6 _=HB;have z0:HB.get 0=some (.cells [.aV ta 3 (bF a)] false):=by rw[<-hbz,aA.aC,if_neg (by decide)];exact(ho1.same 0 (by omega)).trans w2
  have z1:HB.get 1=some (.cells [.aV tb 3 (bF b)] false):=by rw[<-hbz,aA.aC,if_neg (by decide)];exact(ho1.same 1 (by omega)).trans w3
  have zr:HB.get H1.next=some (.cells (bZ n) false):=by rw[<-hbz,aA.aC,if_neg (by omega)];exact ga
  have zn:HB.next=H1.next+1:=by rw[<-hbz,aA.aX];exact gan
  have z6:HB.get 6=some (.loop key (LF 36 f) .busy):=by rw[<-hbz,aA.aC,if_pos rfl]
  have zo:∀j,j≠6->j<H1.next->HB.get j=H1.get j:=fun j h1 h2=>by rw[<-hbz,aA.aC,if_neg h1];exact ho1.same j h2
  clear hbz aHe ho1 ga gan;subst PA;dsimp only;refine aH ?_;simp only[↓zP,zJ,seval,f2,z0,zr,oL (aM n)];have sa:=fun H=>j4 (tag:=ta) wz ha RJ hM hn hB hae H;have sb:=fun H=>j4 (tag:=tb) xc hb hlb hM hn hB hbe H;have fS:∀z,(cI z).length=18:=fun z=>by simp[cI,cM,bW]
  have yF:(AV.bool false::AV.bool false::wC zs).length=18:=by simp[cM];rfl
  have hBM:B*M<=2^62*2^18:=Bv hB hM
  have w16:3*(B*M)<mO.W^16:=by have :3*(2^62*2^18)<mO.W^16:=(by decide);omega
  have da:∀v∈a,(aG.dot n v).natAbs<=3*(B*M):=fun v hv=>pO hn (ha v hv);have db:∀v∈b,(aG.dot n v).natAbs<=3*(B*M):=fun v hv=>pO hn (hb v hv);have na0:=da a0 (by rw[hae];simp);have nb0:=db b0 (by rw[hbe];simp)
  have Ze:oF a b n=(decide (xD n (aG.dot n a0) a<=xO n (aG.dot n b0) b)||decide (xD n (aG.dot n b0) b<=xO n (aG.dot n a0) a)):=by simp only[oF,hae,hbe,Ci]
  rw[Ze];have ila:fZ (cI (xO n (aG.dot n a0) a)) (some (xO n (aG.dot n a0) a)):=.enc (by have :=JM na0 da;omega);have rG:fZ (cI (xD n (aG.dot n a0) a)) (some (xD n (aG.dot n a0) a)):=.enc (by have :=IZ na0 da;omega);have ilb:fZ (cI (xO n (aG.dot n b0) b)) (some (xO n (aG.dot n b0) b)):=.enc (by have :=JM nb0 db;omega);have uW:fZ (cI (xD n (aG.dot n b0) b)) (some (xD n (aG.dot n b0) b)):=.enc (by have :=IZ nb0 db;omega);clear Ze HJ aSp h0;generalize xO n (aG.dot n a0) a=p1 at *;generalize xD n (aG.dot n a0) a=p2 at *;generalize xO n (aG.dot n b0) b=q1 at *;generalize xD n (aG.dot n b0) b=q2 at *;have n0:¬(H1.next=0):=by omega
  have n1:¬(H1.next=1):=by omega
  have n2:¬(2=H1.next):=by omega
  have z2:HB.get 2=some (.cells [.bool false] false):=(zo 2 (by decide) (by omega)).trans w4;refine bK (sa _) ?_;simp only[↓zP,zJ,seval,Bm,Nat.left_eq_add,Ip,fS,yF,oL yF,zn,z1,zr,f3,oL (aM n),n0];refine bK (sb _) ?_
  have AB:∀x y:Int,decide (iH (some x) (some y)<=0)=decide (x<=y):=fun x y=>by rw[Az];simp only[iH];split<;>(try split)<;>omega
  by_cases c1:p2<=q1
  · have d1:decide (iH (some p2) (some q1)<=0)=true:=by rw[AB];exact Al c1
    simp only[↓zP,zJ,seval,Bm,Ip,fS,yF,oL (fS p2),oL (fS q1),oL yF,zn];refine bK (KX rG ilb _) ?_;simp only[↓zP,zJ,seval,Bm,d1,f4,n0,n1,zn,z2];have ttt:(decide (p2<=q1)||decide (q2<=p1))=true:=(by simp[c1]);generalize hZ:aA.set _ (H1.next+4) _=HZ;have hz:Over HB HZ:=(by subst hZ;exact(((((((((Over.refl HB).alloc _).alloc _).set (by omega) _).set (by omega) _).alloc _).alloc _).set (by omega) _).set (by omega) _));clear hZ;have hzn:=hz.le;refine⟨rfl,_,_,by rw[aA.aC,if_neg (by decide)];exact(hz.same 6 (by omega)).trans z6,by rw[ttt];rfl,?_,by simp only[aA.aX];omega,fun j h1 h2=>?_⟩
    · rw[ttt,if_pos rfl];exact⟨by rw[aA.aC,if_neg (by decide),aA.aC,if_pos rfl],by simp only[aA.aX];omega,by rw[aA.aC,if_neg (by decide),aA.aC,if_neg (by decide)];exact(hz.same 5 (by omega)).trans ((zo 5 (by decide) (by omega)).trans w7),_,_,by rw[aA.aC,if_pos rfl]⟩
    by_cases j6:j=6
    · omega
    rw[aA.aC,if_neg j6,aA.aC,if_neg (by omega)];exact(hz.same j (by omega)).trans (zo j j6 h2)
  have d1:decide (iH (some p2) (some q1)<=0)=false:=by rw[AB];exact Ae c1
  simp only[↓zP,zJ,seval,Bm,Ip,fS,yF,oL (fS p2),oL (fS q1),oL yF,zn];refine bK (KX rG ilb _) ?_;simp only[↓zP,zJ,seval,Bm,Ip,d1,fS,zn,oL (fS p1),oL (fS q2)];refine bK (KX uW ila _) ?_;by_cases c2:q2<=p1
  · have d2:decide (iH (some q2) (some p1)<=0)=true:=by rw[AB];exact Al c2
    simp only[↓zP,zJ,seval,Bm,d2,f4,n0,n1,zn,z2];have ttt:(decide (p2<=q1)||decide (q2<=p1))=true:=(by simp[c2]);generalize hZ:aA.set _ (H1.next+4) _=HZ;have hz:Over HB HZ:=(by subst hZ;exact(((((((((Over.refl HB).alloc _).alloc _).set (by omega) _).set (by omega) _).alloc _).alloc _).set (by omega) _).set (by omega) _));clear hZ;have hzn:=hz.le;refine⟨rfl,_,_,by rw[aA.aC,if_neg (by decide)];exact(hz.same 6 (by omega)).trans z6,by rw[ttt];rfl,?_,by simp only[aA.aX];omega,fun j h1 h2=>?_⟩
    · rw[ttt,if_pos rfl];exact⟨by rw[aA.aC,if_neg (by decide),aA.aC,if_pos rfl],by simp only[aA.aX];omega,by rw[aA.aC,if_neg (by decide),aA.aC,if_neg (by decide)];exact(hz.same 5 (by omega)).trans ((zo 5 (by decide) (by omega)).trans w7),_,_,by rw[aA.aC,if_pos rfl]⟩
    by_cases j6:j=6
    · omega
    rw[aA.aC,if_neg j6,aA.aC,if_neg (by omega)];exact(hz.same j (by omega)).trans (zo j j6 h2)
  have d2:decide (iH (some q2) (some p1)<=0)=false:=by rw[AB];exact Ae c2
  simp only[↓zP,zG,seval,d2];generalize hZ:aA.set _ (H1.next+4) _=HZ;have hz:Over HB HZ:=by subst hZ;exact(((((((((Over.refl HB).alloc _).alloc _).set (by omega) _).set (by omega) _).alloc _).alloc _).set (by omega) _).set (by omega) _)
  clear hZ;have hzn:=hz.le;have ttt:(decide (p2<=q1)||decide (q2<=p1))=false:=by simp[c1,c2]
  refine⟨rfl,_,_,(hz.same 6 (by omega)).trans z6,by rw[ttt];rfl,?_,by simp only[aA.aX];omega,fun j h1 h2=>?_⟩
  · rw[ttt,if_neg (by decide)]
    have hk:∀(ob:dY) (j:Nat),j<6->(HZ.set 6 ob).get j=H1.get j:=fun ob j hj=>by rw[aA.aC,if_neg (by omega)];exact(hz.same j (by omega)).trans (zo j (by omega) (by omega))
    exact⟨by simp only[aA.aX];omega,(hk _ 0 (by decide)).trans w2,(hk _ 1 (by decide)).trans w3,(hk _ 2 (by decide)).trans w4,(hk _ 3 (by decide)).trans w5,(hk _ 4 (by decide)).trans w6,(hk _ 5 (by decide)).trans w7,by rw[aA.aC,if_pos rfl]⟩
  by_cases j6:j=6
  · omega
  rw[aA.aC,if_neg j6];exact(hz.same j (by omega)).trans (zo j j6 h2)
 obtain⟨He,wE,hS⟩:=NL (ta:=ta) (tb:=tb) hMU fa fb ea eb nU nW lSa lSb hSb lU lW (id:=6) (r1:=3) (r2:=4) (o1:=false) (o2:=false) I Stop (oF a b) HJ aSp eF (fun k H1 h=>by rw[yn];exact h.1) (by rw[yn];decide) (by rw[yn];decide) h0.2.2.2.2.1 h0.2.2.2.2.2.1 (fun k H' h=>⟨h.2.2.2.2.1,h.2.2.2.2.2.1⟩) h0
 cases NM:(jT Sa Sb U W).any (oF a b) with
 |true=>
  rw[NM,if_pos rfl] at wE;obtain⟨w1,w2,w3,k,s,w4⟩:=wE;refine⟨_,He,_,_,_,hS,w4,fun Hf hf=>?_⟩;obtain⟨e1,e2⟩:=hf;have b2:Hf.get 2=some (.cells [.bool true] false):=by rw[e2,if_neg (by decide)];exact w1
  have b5:Hf.get 5=some .MO:=by rw[e2,if_neg (by decide)];exact w3
  refine⟨b5,[.bool true],?_,rfl⟩;simp only[↓zP,zR,seval,f4,b2]
 |false=>
  rw[NM,if_neg (by decide)] at wE;obtain⟨w1,w2,w3,w4,w5,w6,w7,w8⟩:=wE;refine⟨_,He,_,_,_,hS,w8,fun Hf hf=>?_⟩;obtain⟨e1,e2⟩:=hf;have b2:Hf.get 2=some (.cells [.bool false] false):=by rw[e2,if_neg (by decide)];exact w4
  have b5:Hf.get 5=some .MO:=by rw[e2,if_neg (by decide)];exact w7
  show K f [.mark 5] Hf;apply hK;simp only[↓zP,zJ,seval,f4,b2];refine⟨by rw[aA.aC,if_neg (by decide)];exact b5,[.bool false],?_,by rw[NM];rfl⟩;simp only[↓zP,zR,seval,f4]
end Go.Proofs.YtbndcmnnbiiobaaGreatDoor
