/-
  Part of the proof of statement 11
-/
import Derived.Test.YtgggiembljfnhaaGreatDoorA31
import Derived.Test.YtgggiembljfnhaaGreatDoorA32
import Derived.Test.YtgggiembljfnhaaGreatDoorA07
import Derived.Test.YtgggiembljfnhaaGreatDoorA23
import Derived.Test.YtgggiembljfnhaaGreatDoorA25
set_option linter.unusedVariables false
set_option linter.unusedSimpArgs false
set_option maxRecDepth 100000
set_option maxHeartbeats 16000000
namespace Go.Proofs.YtgggiembljfnhaaGreatDoor
open Go Go.Av Go.aP Go.uG
attribute [local congr] aT aI aM aH aW aQ aN aF aX
attribute [local irreducible] FC bS eG
theorem AP {q x:aP.V×Int}:∀{S:List (aP.V×Int)},x∈uI q S↔x=q\/x∈S
 |[]=>by simp[uI]
 |s::r=>by
  unfold uI;split
  . simp
  rw[Am,AP,Am];constructor
  . rintro(h|h|h)
    . exact .inr (.inl h)
    . exact .inl h
    exact .inr (.inr h)
  rintro(h|h|h)
  . exact .inr (.inl h)
  . exact .inl h
  exact .inr (.inr h)
theorem Uw {q:aP.V×Int}:∀{S:List (aP.V×Int)},(S.Pairwise fun a b=>iU a.1 b.1)->(∀s∈S,s.1≠q.1)->(uI q S).Pairwise fun a b=>iU a.1 b.1
 |[],_,_=>by simp[uI]
 |s::r,h,cP=>by
  rw[Ck] at h;unfold uI
  cases hv:uF q.1 s.1 with
  |true=>
   have hq:=BM.1 hv;rw[if_pos rfl,Ck];refine⟨fun x hx=>?_,Ck.2 h⟩
   rcases Am.1 hx with rfl|hx
   . exact hq
   exact iU.trans hq (h.1 x hx)
  |false=>
   rw[if_neg (by decide),Ck]
   have hsq:iU s.1 q.1:=by
    rcases iU.total (cP s Ar) with h1|h1
    . exact h1
    rw[BM.2 h1] at hv;cases hv
   refine⟨fun x hx=>?_,Uw h.2 fun x hx=>cP x (Aw _ hx)⟩
   rcases AP.1 hx with rfl|hx
   . exact hsq
   exact h.1 x hx
structure GO (l:List aP.V) (K:List (aP.V×Int)):Prop where
 Rb:K.Pairwise fun a b=>iU a.1 b.1
 is:∀q∈K,pP (fun i=>l.getD i V0) l.length q.1 q.2
theorem GO.nodup {l:List aP.V} {K:List (aP.V×Int)} (h:GO l K):K.Nodup:=Ha (fun {a b} (h:iU a.1 b.1) (e:a=b)=>iU.j8 b.1 (by rw[e] at h;exact h)) h.Rb
theorem GO.len {l:List aP.V} {K:List (aP.V×Int)} (h:GO l K) (hl:l.length<=64):K.length<2^20:=by have h1:=BV (N:=l.length) (p:=fun i=>l.getD i V0) h.nodup h.is;have h2:l.length*(l.length*(l.length*2))<=64*(64*(64*2)):=Bt hl (Bt hl (Bt hl (Ab _)));omega
theorem GO.ins {l:List aP.V} {K:List (aP.V×Int)} (h:GO l K) {q:aP.V×Int} (hq:pP (fun i=>l.getD i V0) l.length q.1 q.2) (hk:(K.any fun x=>decide (x.1=q.1))=false):GO l (uI q K) where
 Rb:=Uw h.Rb fun s hs e=>by rw[Ct] at hk;exact hk s hs (by simpa using e)
 is:=fun x hx=>by
  rcases AP.1 hx with rfl|hx
  . exact hq
  exact h.is x hx
theorem GO.known {l:List aP.V} {K:List (aP.V×Int)} (h:GO l K) {q:aP.V×Int} (hk:(K.any fun x=>decide (x.1=q.1))=true) (hq:pP (fun i=>l.getD i V0) l.length q.1 q.2):q∈K:=by
 obtain⟨x,hx,e⟩:=Bw.1 hk;have e:=Cp e;have Qy:=h.is x hx;rw[e] at Qy;have :=Qy.uniq hq;have :x=q:=Prod.ext e this
 rwa [<-this]
def EG (L:aP.V×Int->List Nat) (H:aA) (v:AV) (K:List (aP.V×Int)):Prop:=
 (K=[]/\v=.aR)\/(K≠[]/\∃k,v=.bB (k+2) 5 (K.map (dU L))/\k<H.next/\H.get k=some .tok)
theorem EG.dH {L:aP.V×Int->List Nat} {H H':aA} {v:AV} {K:List (aP.V×Int)} (h:EG L H v K) (hn:H.next<=H'.next) (hk:∀k,k<H.next->H.get k=some .tok->H'.get k=some .tok):EG L H' v K:=by
 rcases h with h|⟨h,k,rfl,h1,h2⟩
 . exact .inl h
 exact .inr ⟨h,k,rfl,by omega,hk k h1 h2⟩
theorem EG.sound {L:aP.V×Int->List Nat} {H:aA} {v:AV} {K:List (aP.V×Int)} (h:EG L H v K) {f:FuncId} {rest:List AV} {H1 H2:aA} {out:Out} (hS:Sg f (yU L K::rest) H1 out H2):Sg f (v::rest) H1 out H2:=by
 rcases h with ⟨h1,rfl⟩|⟨h1,k,rfl,_,_⟩
 . rcases jJ L K with ⟨_,e⟩|⟨h2,_⟩
   . rwa [e] at hS
   exact absurd h1 h2
 rcases jJ L K with ⟨h2,_⟩|⟨_,e⟩
 . exact absurd h2 h1
 rw[e] at hS;exact hS.DE (k+2)
theorem EG.aUn {L:aP.V×Int->List Nat} {f:FuncId} {args:List AV} (ha:bO args=true) {K:List (aP.V×Int)} (h:∃out H',(∃v,out=.ret v/\EG L H' v K)/\Sg f args ⟨0,.nil⟩ out H') (H:aA):Sg f args H (.ret (yU L K)) H:=by
 obtain⟨out,H',⟨v,rfl,hr⟩,hS⟩:=h;refine hS.frame fG ha (tk:=none) (fun k' rN=>by cases rN) (n:=0) H ?_
 rcases hr with ⟨rfl,rfl⟩|⟨h1,k,rfl,_,_⟩
 . rfl
 have hf:dR (K.map (dU L))=true:=eJ (pY L) _
 rcases jJ L K with ⟨h2,_⟩|⟨_,e⟩
 . exact absurd h2 h1
 rw[e];simp[Out.av,fT,jH,hf,JD]
theorem Le {l:List aP.V} {M:Nat} (hl:∀v∈l,cH M v) (hM:M<=2^18) (hlen:l.length<=64) {S:List (aP.V×Int)} {L:aP.V×Int->List Nat} (hS:xJ l S L):
 ∃out H',(∃v,out=.ret v/\EG L H' v S)/\Sg 192 [.bB 0 3 (cJ l)] ⟨0,.nil⟩ out H':=by
 have Qv:Nat.blt 0 2=true:=rfl;refine cY fit aJu (Ak rfl) ?_;unfold aCx;dsimp only;have cW:∀k (h:k<l.length),l.getD k V0=l[k]:=fun k h=>by simp[List.getD,h]
 refine Tz ?_;refine bP [3] (fun i vs H'=>cV H'/\∃v K,vs=[v]/\EG L H' v K/\GO l K/\jA (fun i=>l.getD i V0) l.length i 0 0 K) 0 l.length (Az _) (by omega) (by decide) ?_ ?_ ?_ ?_ ?_
 . exact zq
 . refine⟨.nil 0,.aR,[],by simp only[sm,zB,seval],.inl ⟨rfl,rfl⟩,⟨.nil,fun q hq=>by cases hq⟩,.zero⟩
 . rintro i f H1 h0 hi hk e1 ⟨hf,w,K,hv,hR,hK,hT⟩;have f0:f 0=.bB 0 3 (cJ l):=hk 0 rfl;simp only[↓zP,zG,seval,e1,f0,aU];exact Zaf
 . rintro i f H1 h0 hi hk e1 ⟨hf,w,K,hv,hR,hK,hT⟩;simp only[zM] at hv;have f0:f 0=.bB 0 3 (cJ l):=hk 0 rfl;have w1:IntKind.i64.wrap ((i:Int)+1)=((i+1:Nat):Int):=by rw[wrap_i64 (by omega) (by omega)];rfl
   refine aL ?_;simp only[↓zP,zJ,seval,e1,w1];refine bP [3] (fun j vs H'=>cV H'/\∃v K,vs=[v]/\EG L H' v K/\GO l K/\jA (fun i=>l.getD i V0) l.length i j 0 K) (i+1) l.length (by omega) (by omega) (by decide) ?_ ?_ ?_ ?_ ?_
   . exact zq
   . exact⟨hf,w,K,by simp only[sm,zB,seval,hv],hR,hK,hT.j0⟩
   . rintro j f2 H2 h0 hj eO e2 ⟨EZ,w2,K2,sU,hR2,bW,hT2⟩;have k0:f2 0=.bB 0 3 (cJ l):=(by rw[eO 0 rfl];simp only[zB,seval];exact f0);simp only[↓zP,zG,seval,e2,k0,aU];exact Zaf
   . rintro j f2 H2 yN hj eO e2 ⟨EZ,w2,K2,sU,hR2,bW,hT2⟩;simp only[zM] at sU;have k0:f2 0=.bB 0 3 (cJ l):=(by rw[eO 0 rfl];simp only[zB,seval];exact f0);have k4:f2 4=.int .i64 i:=(by rw[eO 4 rfl];simp only[zB,seval];exact e1);have wj2:IntKind.i64.wrap ((j:Int)+1)=((j+1:Nat):Int):=(by rw[wrap_i64 (by omega) (by omega)];rfl);refine aL ?_;simp only[↓zP,zJ,seval,e2,wj2];refine bP [3] (fun k vs H'=>cV H'/\∃v K,vs=[v]/\EG L H' v K/\GO l K/\jA (fun i=>l.getD i V0) l.length i j k K) (j+1) l.length (by omega) (by omega) (by decide) ?_ ?_ ?_ ?_ ?_
     . exact zq
     . exact⟨EZ,w2,K2,by simp only[sm,zB,seval,sU],hR2,bW,hT2.k0⟩
     . rintro k f3 H3 h0 tQ oO e3 ⟨hf3,w3,K3,Pn,hR3,Lp,hT3⟩;have u0:f3 0=.bB 0 3 (cJ l):=(by rw[oO 0 rfl];simp only[zB,seval];exact k0);simp only[↓zP,zG,seval,e3,u0,aU];exact Zaf
     . rintro k f3 H3 vn tQ oO e3 ⟨hf3,w3,K3,Pn,hR3,Lp,hT3⟩;simp only[zM] at Pn;have u0:f3 0=.bB 0 3 (cJ l):=(by rw[oO 0 rfl];simp only[zB,seval];exact k0);have u4:f3 4=.int .i64 i:=(by rw[oO 4 rfl];simp only[zB,seval];exact k4);have u5:f3 5=.int .i64 j:=(by rw[oO 5 rfl];simp only[zB,seval];exact e2);have ML:i<l.length:=(by omega);have MN:j<l.length:=(by omega);have gi:=dC ML;have gj:=dC MN;have gk:=dC tQ;have ni:=hl _ (Ac ML);have nj:=hl _ (Ac MN);have nk:=hl _ (Ac tQ);have hnm:=YY ni nj nk hM;have hMM:(M+M)*(M+M)<=2^19*2^19:=Bt (by omega) (by omega);have hBM:2*((M+M)*(M+M))*M<=2^39*2^18:=Bt (by omega) hM;have aVi:cH (2*((M+M)*(M+M))) (gK (aP.aZ (aP.sub l[j] l[i]) (aP.sub l[k] l[i]))):=sW (nO (gL nj ni) (gL nk ni))
       have mN:eZ (fun i=>l.getD i V0) i j k=(gK (aP.aZ (aP.sub l[j] l[i]) (aP.sub l[k] l[i])),aP.dot (gK (aP.aZ (aP.sub l[j] l[i]) (aP.sub l[k] l[i]))) l[i]):=by simp only[eZ,vec,cW i ML,cW j MN,cW k tQ]
       have hcd:∀q,q∈iY (fun i=>l.getD i V0) i j k↔(eZ (fun i=>l.getD i V0) i j k).1≠V0/\(q=eZ (fun i=>l.getD i V0) i j k\/q=(aP.neg (eZ (fun i=>l.getD i V0) i j k).1,-(eZ (fun i=>l.getD i V0) i j k).2)):=fun q=>by
        unfold iY;by_cases hz:(eZ (fun i=>l.getD i V0) i j k).1=V0
        . rw[if_pos hz];exact⟨fun h=>(by cases h),fun h=>absurd hz h.1⟩
        rw[if_neg hz,Am,Cb];exact⟨fun h=>⟨hz,h⟩,fun h=>h.2⟩
       rw[mN] at hcd;generalize gK (aP.aZ (aP.sub l[j] l[i]) (aP.sub l[k] l[i]))=n0 at *;generalize hBv:2*((M+M)*(M+M))=B at *;have hp:∀k (h:k<l.length),l.getD k V0=l[k]:=cW;refine aL ?_;refine bQ ?_;refine oV 1 (by decide) hf3.at1 fun H4 n4 e4=>?_;simp only[↓zP,zJ,seval,zD,u0,u4,u5,e3,aB,aU,ML,MN,tQ,gi,gj,gk,oL (aV l[i]),oL (aV l[j]),oL (aV l[k])];refine fH (hnm _) ?_;simp only[↓zP,zJ,seval,zD,oL (aV n0)];refine bR ?_;generalize hX:(H4.set H3.next _).set H3.next _=H5;have y7:H5.get H3.next=some (.cells (cT n0) false):=Zal;have yn:H3.next<H5.next:=by subst hX;simp only[aA.bC];omega
       have yf:cV H5:=fun j hj=>by subst hX;simp only[aA.bC] at hj;rw[aA.aD,if_neg (by omega),aA.aD,if_neg (by omega),e4];exact hf3 j (by omega)
       have yr:EG L H5 w3 K3:=by refine hR3.dH (by omega) fun k h1 h2=>?_;subst hX;rw[aA.aD,if_neg (by omega),aA.aD,if_neg (by omega),e4];exact h2
       clear hX;refine Ty ?_
       let nn:Nat->aP.V:=fun t=>if t=1 then aP.neg n0 else n0
       have bFf:∀t,cH B (nn t):=fun t=>by
        simp only[nn];split
        . exact IK aVi
        exact aVi
       have bFg:∀t,nn t=V0↔n0=V0:=fun t=>by
        simp only[nn];split
        . constructor
          . intro h;exact Ev fun hc=>Sy hc h
          intro h;rw[h];rfl
        exact Iff.rfl
       have aUt:∀t,t<2->n0≠V0->(nn t,aP.dot (nn t) l[i])∈iY (fun i=>l.getD i V0) i j k:=fun t ht hz=>by
        rw[hcd];refine⟨hz,?_⟩
        match t,ht with
        |0,_=>exact .inl rfl
        |1,_=>exact .inr (by simp only[nn,if_true,pA])
       refine bP [3] (fun t vs H'=>H'.get H3.next=some (.cells (cT (nn t)) false)/\H3.next<H'.next/\cV H'/\∃v K',vs=[v]/\EG L H' v K'/\GO l K'/\(∀q∈K3,q∈K')/\∀u,u<t->n0≠V0->pP (fun i=>l.getD i V0) l.length (nn u) (aP.dot (nn u) l[i])->(nn u,aP.dot (nn u) l[i])∈K') 0 2 (by decide) (by decide) (by decide) ?_ ?_ ?_ ?_ ?_
       . exact zq
       . exact⟨y7,yn,yf,w3,K3,by simp only[sm,zB,seval,Pn],yr,Lp,fun q hq=>hq,fun u hu=>absurd hu (An _)⟩
       . rintro t f6 H6 h0 ht hk6 e6 ⟨g7,gn,gf,w6,K6,hv6,hR6,hK6,FK,wL⟩;simp only[↓zP,zG,seval,e6];exact Zaf
       . rintro t f6 H6 h0 ht hk6 e6 ⟨g7,gn,gf,w6,K6,hv6,hR6,hK6,FK,wL⟩;simp only[zM] at hv6;have v0:f6 0=.bB 0 3 (cJ l):=(by rw[hk6 0 rfl];simp only[zB,seval];exact u0);have v4:f6 4=.int .i64 i:=(by rw[hk6 4 rfl];simp only[zB,seval];exact u4);have v7:f6 7=.ref H3.next 0:=hk6 7 rfl;have hnB:=bFf t;have hnV:=bFg t;have bEe:=aUt t ht
         have wh:nn (t+1)=aP.sub V0 (nn t):=by
          match t,ht with
          |0,_=>simp[nn,aP.neg,aP.sub,V0]
          |1,_=>simp[nn,aP.neg,aP.sub,V0]
         have hd:=qF hnB ni (by omega)
         have aRn:∀K':List (aP.V×Int),(∀q∈K6,q∈K')->(n0≠V0->pP (fun i=>l.getD i V0) l.length (nn t) (aP.dot (nn t) l[i])->(nn t,aP.dot (nn t) l[i])∈K')->∀u,u<t+1->n0≠V0->pP (fun i=>l.getD i V0) l.length (nn u) (aP.dot (nn u) l[i])->(nn u,aP.dot (nn u) l[i])∈K':=fun K' h1 h2 u hu hz hF=>by
          by_cases e:u=t
          . subst e;exact h2 hz hF
          exact h1 _ (wL u (by omega) hz hF)
         rw[wh];have ex:=fun H=>Ve 0 hl (by omega) (n:=nn t) (d:=aP.dot (nn t) l[i]) hnB (by omega) H
         have hF:n0≠V0->(DB l (nn t,aP.dot (nn t) l[i])=true↔pP (fun i=>l.getD i V0) l.length (nn t) (aP.dot (nn t) l[i])):=fun hz=>by
          rw[IQ];constructor
          . rintro⟨h1,h2⟩;exact xW ML MN tQ (bEe hz) h1 h2
          intro h;exact⟨h.le,h.lt⟩
         have kn:=fun H=>hR6.sound (mc L K6 (by have :=hK6.len hlen;omega) (nn t) H);have hsb:=xD (a:=V0) (b:=nn t) (A:=0) (B:=B) ⟨by decide,by decide,by decide⟩ hnB (by omega);generalize nn t=n at *;generalize Zf:aP.dot n l[i]=d at *;refine aL ?_;refine bQ ?_;refine Dz ?_;simp only[↓zP,zJ,seval,zD,v0,v4,v7,g7,aB,aU,ML,gi,oL (aV l[i]),oL (aV n)];refine fH (hd _) ?_;simp only[↓zP,zJ,seval,zD];refine fD ?_;simp only[↓zP,zJ,seval,hv6,v7,g7,oL (aV n)];refine bZ (kn _) ?_;refine Tz ?_;refine fD ?_;simp only[↓zP,zJ,seval,v7,g7,oL (aV n),UR];refine bR ?_;refine aJ fun K7 hK7=>?_
         have fin:∀(f7:dE) (H7:aA) (w':AV) (K':List (aP.V×Int)),f7 3=w'->EG L H7 w' K'->f7 7=.ref H3.next 0->H7.get H3.next=some (.cells (cT n) false)->H3.next<H7.next->cV H7->GO l K'->(∀q∈K6,q∈K')->(n0≠V0->pP (fun i=>l.getD i V0) l.length n d->(n,d)∈K')->K7 f7 [] H7:=by
          intro f7 H7 w' K' a3 ar a7 ag an af aK as1 as2;apply hK7;clear hK7 K7;simp only[↓zP,zJ,seval,a7,ag,oL (aV n)];rw[show [AV.int .i64 0,.int .i64 0,.int .i64 0]=cT V0 from rfl];refine bZ (hsb _) ?_;simp only[↓zP,zJ,seval,a7,ag,oL (aV n),oL (aV (aP.sub V0 n))]
          refine⟨trivial,an,af.set an _,w',K',by rw[a3],ar.dH (by simp) (fun k h1 h2=>by
           rw[aA.aD];split
           . rename_i e;subst e;rw[ag] at h2;cases h2
           exact h2),aK,fun q hq=>as1 q (FK q hq),aRn K' as1 as2⟩
         cases vz:K6.any fun q=>decide (q.1=n) with
         |true=>refine Ty ?_;exact fin _ H6 w6 K6 (by simp only[zB,seval];exact hv6) hR6 (by simp only[zB,seval];exact v7) g7 gn gf hK6 (fun q hq=>hq) (fun _ hFq=>hK6.known (q:=(n,d)) vz hFq)
         |false=>
          by_cases hz:n=V0
          . have d1:=Aj hz;simp only[↓zP,zJ,seval,d1];exact fin _ H6 w6 K6 (by simp only[zB,seval];exact hv6) hR6 (by simp only[zB,seval];exact v7) g7 gn gf hK6 (fun q hq=>hq) (fun h=>absurd (hnV.1 hz) h)
          have d1:=Ag hz;have Pr:n0≠V0:=fun h=>hz (hnV.2 h);simp only[↓zP,zJ,seval,d1,v0,v7,g7,oL (aV n)];refine bZ (ex _) ?_
          cases SS:DB l (n,d) with
          |false=>
           refine Tz ?_
           exact fin _ H6 w6 K6 (by simp only[zB,seval];exact hv6) hR6 (by simp only[zB,seval];exact v7) g7 gn gf hK6 (fun q hq=>hq) (fun _ hFq=>by
            have :=(hF Pr).2 hFq
            rw[SS] at this;cases this)
          |true=>
           have hFq:=(hF Pr).1 SS;have hqS:(n,d)∈S:=(hS.fl.mem (n,d)).2 hFq;have bFo:=fun H=>Vk 0 hl hM hlen (d:=d) hnB (by omega) (hS.po (n,d) hqS) H;have bEt:=fun H=>hR6.sound (YV L K6 (hK6.len hlen) (n,d) H);refine Tz ?_;refine Dz ?_;simp only[↓zP,zJ,seval,zD,hv6,v0,v7,g7,oL (aV n)];refine fH (bFo _) ?_;simp only[↓zP,zJ,seval,zD,cT];rw[show [AV.int .i64 n.x,.int .i64 n.y,.int .i64 n.z,.int .i64 d,.bB 0 1 (yR (L (n,d)))]=dU L (n,d) from rfl];refine iO (by decide) ZaN (bEt _) (by simp) (fun x hx hp=>?_) ?_
           . have hx7:x.2=H3.next:=by
              simp only[Am,Bg,Dd] at hx
              rcases hx with rfl|rfl<;>rfl
             rw[hx7,aA.aG,if_neg (by omega)]
           simp only[↓zP,zJ,seval,zD];exact fin _ (H6.alloc .tok) _ (uI (n,d) K6) zq (.inr ⟨fun h=>by have :=Nw (n,d) K6;rw[h] at this;simp at this,H6.next,rfl,by simp,by rw[aA.aG,if_pos rfl]⟩) (by simp only[zB,seval];exact v7) (by rw[aA.aG,if_neg (by omega)];exact g7) Zag (gf.alloc _) (hK6.ins hFq vz) (fun q hq=>AP.2 (.inr hq)) (fun _ _=>AP.2 (.inl rfl))
       rintro f6 H6 hk6 ⟨g7,gn,gf,w6,K6,hv6,hR6,hK6,FK,wL⟩;refine Tx ?_;refine⟨gf,w6,K6,hv6,hR6,hK6,hT3.step FK fun q hq hF=>?_⟩;obtain⟨hz,h⟩:=(hcd q).1 hq
       rcases h with rfl|rfl
       . exact wL 0 (by decide) hz hF
       have :=wL 1 (by decide) hz (by simp only[nn,if_true,pA];exact hF);simpa only[nn,if_true,pA] using this
     rintro f3 H3 oO ⟨hf3,w3,K3,Pn,hR3,Lp,hT3⟩;refine Tx ?_;exact⟨hf3,w3,K3,Pn,hR3,Lp,hT3.kN⟩
   rintro f2 H2 eO ⟨EZ,w2,K2,sU,hR2,bW,hT2⟩;refine Tx ?_;exact⟨EZ,w2,K2,sU,hR2,bW,hT2.jN⟩
 rintro f H1 hk ⟨hf,w,K,hv,hR,hK,hT⟩;simp only[zM] at hv;have :K=S:=oW.uniq ⟨hT.all hK.is,hK.Rb⟩ hS.fl;subst this;simp only[↓zP,seval,hv];refine Rx ?_;exact⟨w,rfl,hR⟩
theorem Oi (tag:Nat) {l:List aP.V} {M:Nat} (hl:∀v∈l,cH M v) (hM:M<=2^18) (hlen:l.length<=64) {S:List (aP.V×Int)} {L:aP.V×Int->List Nat} (hS:xJ l S L) (H:aA):
 Sg 192 [.bB tag 3 (cJ l)] H (.ret (yU L S)) H:=(EG.aUn (by simp only[sf,dK (show Nat.blt 0 2=true from rfl)]) (Le hl hM hlen hS) H).DE tag
theorem Vf (tag:Nat) {l:List aP.V} {M:Nat} (hl:∀v∈l,cH M v) (hM:M<=2^18) (hlen:l.length<=64) {S:List (aP.V×Int)} {L:aP.V×Int->List Nat} (hS:xJ l S L) (cP:S≠[]) (H:aA):
 Sg 192 [.bB tag 3 (cJ l)] H (.ret (.bB (H.next+2) 5 (S.map (dU L)))) (H.alloc .tok):=by
 refine(mD fG (by simp only[sf,dK (show Nat.blt 0 2=true from rfl)]) (by simpa using cP) (eJ (pY L) S) ?_ H).DE tag;obtain⟨out,H',⟨v,h1,h2⟩,hS'⟩:=Le hl hM hlen hS;refine⟨out,H',⟨v,h1,?_⟩,hS'⟩
 rcases h2 with ⟨h,_⟩|⟨_,k,e,h3,h4⟩
 . exact absurd h cP
 exact .inr ⟨k,e,h3,h4⟩
def wO (x:aP.V):List aP.V->List aP.V
 |[]=>[x]
 |o::r=>if uF x o then x::o::r else if o=x then o::r else o::wO x r
theorem Sl {x:aP.V}:∀{S:List aP.V} {i:Nat},(∀s∈S.take i,uF x s=false/\s≠x)->wO x S=S.take i++wO x (S.drop i)
 |[],i,_=>by simp
 |s::r,0,_=>by simp
 |s::r,i+1,h=>by have h1:=h s (by simp);have ih:=Sl (x:=x) (S:=r) (i:=i) fun y hy=>h y (by simp[hy]);rw[wO,h1.1,if_neg (by decide),if_neg h1.2,Dp,Iu,Ep,<-ih]
theorem Ux (x:aP.V):∀S:List aP.V,(wO x S).length<=S.length+1
 |[]=>Ab _
 |s::r=>by
  have :=Ux x r;unfold wO;split
  . simp
  split
  . simp
  simp;omega
theorem Nx {x y:aP.V}:∀{S:List aP.V},y∈wO x S↔y=x\/y∈S
 |[]=>by simp[wO]
 |s::r=>by
  unfold wO;split
  . simp
  split
  . rename_i h;subst h;simp
  rw[Am,Nx,Am];constructor
  . rintro(h|h|h)
    . exact .inr (.inl h)
    . exact .inl h
    exact .inr (.inr h)
  rintro(h|h|h)
  . exact .inr (.inl h)
  . exact .inl h
  exact .inr (.inr h)
theorem Uy {x:aP.V}:∀{S:List aP.V},S.Pairwise iU->(wO x S).Pairwise iU
 |[],_=>by simp[wO]
 |s::r,h=>by
  have h':=Ck.1 h;unfold wO
  cases hv:uF x s with
  |true=>
   have hq:=BM.1 hv;rw[if_pos rfl,Ck];refine⟨fun y hy=>?_,h⟩
   rcases Am.1 hy with rfl|hy
   . exact hq
   exact iU.trans hq (h'.1 y hy)
  |false=>
   rw[if_neg (by decide)];by_cases he:s=x
   . rw[if_pos he];exact h
   rw[if_neg he,Ck]
   have hsq:iU s x:=by
    rcases iU.total he with h1|h1
    . exact h1
    rw[BM.2 h1] at hv;cases hv
   refine⟨fun y hy=>?_,Uy h'.2⟩
   rcases Nx.1 hy with rfl|hy
   . exact hsq
   exact h'.1 y hy
theorem aAv {l C:List aP.V} (hlen:l.length<=64) (hC:Ord l C) (H:aA):
 Sg 191 [.bB 0 3 (cJ l)] H (.ret (lB 3 (cJ C))) H:=by
 have Qv:Nat.blt 0 2=true:=rfl;refine eQ fit fG aJt (Ak rfl) (by simp only[sf,dK Qv]) ?_ H;unfold aCw;dsimp only;refine Tz ?_;refine bP [3] (fun i vs H'=>∃v X,vs=[v]/\Own H' 3 v (cJ X)/\(X=[]->v=.aR)/\X.Pairwise iU/\(∀y,y∈X↔y∈l.take i)/\X.length<=i) 0 l.length (Az _) (by omega) (by decide) ?_ ?_ ?_ ?_ ?_
 . exact zq
 . exact⟨.aR,[],by simp only[sm,zB,seval],.nil _ _,fun _=>rfl,.nil,fun y=>by simp,Ab _⟩
 . rintro i f H1 h0 hi hk e1 ⟨v,X,hv,ho,hn,hs,hm,hl⟩;have f0:f 0=.bB 0 3 (cJ l):=hk 0 rfl;simp only[↓zP,zG,seval,e1,f0,aU];exact Zaf
 . rintro i f H1 h0 hi hk e1 ⟨v,X,hv,ho,hn,hs,hm,hl⟩;simp only[zM] at hv;have f0:f 0=.bB 0 3 (cJ l):=hk 0 rfl;have FA:(cJ l).getD i []=cT l[i]:=gJ hi;have rQ:l.take (i+1)=l.take i++[l[i]]:=by rw[Ao];simp[hi]
   rw[rQ];generalize l[i]=x at *;have dx:(cT x).length=3:=rfl;refine aL ?_;refine aJ fun K hK=>?_;refine Tz ?_;apply hK;clear hK K;refine aJ fun K hK=>?_;refine Tz ?_;apply hK;clear hK K;refine aJ fun K hK=>?_;refine Ty ?_
   obtain⟨tg,hX3⟩:∃tg,∀j,j<X.length->f 3=.bB tg 3 (cJ X):=by
    rcases ho with ⟨_,h2⟩|⟨k,rN,_,_⟩
    . exact⟨0,fun j h=>by rw[show X=[] by simpa [cJ] using h2] at h;exact absurd h (An _)⟩
    exact⟨k+2,fun j h=>by rw[hv,rN]⟩
   have push:∀(HA:aA) (w:AV) (Y:List aP.V) (y:aP.V),Own HA 3 w (cJ Y)->Y.length<2^21->
    ∃H5,eB HA 3 24 false w [cT y]=some (.bB (HA.next+2) 3 (cJ (Y++[y])),H5)/\Own H5 3 (.bB (HA.next+2) 3 (cJ (Y++[y]))) (cJ (Y++[y])):=fun HA w Y y ho hY=>by
    obtain⟨H5,z1,z2,z3,z4,z5⟩:=Has.push (.inr ho) (ys:=[cT y]) (bytes:=24) rfl (by simp only[cJ,Af,Aq,Bm];omega);have e:cJ (Y++[y])=cJ Y++[cT y]:=(by simp only[cJ,Cx,Cd,Fp]);exact⟨H5,by rw[z1,e],by rw[e];exact .inr ⟨HA.next,rfl,by omega,z3⟩⟩
   refine bP [5,6] (fun k vs H'=>∃w Y put,vs=[w,.bool put]/\Own H' 3 w (cJ Y)/\(Y=[]->w=.aR)/\Y.length<=k+1/\(if put then Y++X.drop k=wO x X/\∀o∈X.drop k,o≠x else Y=X.take k/\∀s∈X.take k,uF x s=false/\s≠x)) 0 X.length (Az _) (by omega) (by decide) ?_ ?_ ?_ ?_ ?_
   . exact zq
   . exact⟨.aR,[],false,by simp only[sm,zB,seval],.nil _ _,fun _=>rfl,by simp,by simp⟩
   . rintro k g H2 Ni rN vw e2 ⟨w,Y,put,hw,hoY,hnY,hlY,hp⟩;have g3:g 3=v:=by rw[vw 3 rfl];simp only[zB,seval];exact hv
     rcases ho with ⟨h1,h2⟩|⟨k',h1,_,_⟩
     . have hX0:X=[]:=(by simpa [cJ] using h2);subst hX0;simp only[↓zP,zG,seval,e2,g3,h1];exact⟨trivial,trivial,Bn AV.bool (Bs.2 (by simp at rN;simp[rN]))⟩
     simp only[↓zP,zG,seval,e2,g3,h1,aU];exact Zaf
   . rintro k g H2 Ni rN vw e2 ⟨w,Y,put,hw,hoY,hnY,hlY,hp⟩;simp only[zM] at hw;have g0:g 0=.bB 0 3 (cJ l):=(by rw[vw 0 rfl];simp only[zB,seval];exact f0);have g4:g 4=.int .i64 i:=(by rw[vw 4 rfl];simp only[zB,seval];exact e1);have g3:g 3=.bB tg 3 (cJ X):=(by rw[vw 3 rfl];simp only[zB,seval];exact hX3 k rN);have Zi:(cJ X).getD k []=cT X[k]:=gJ rN;have dk:(cT X[k]).length=3:=rfl;have hlX:(cJ X).length=X.length:=aU _;have FF:(cJ l).length=l.length:=aU _;have htx:(cT x).take 3=cT x:=rfl;have aEz:(cT X[k]).take 3=cT X[k]:=rfl;have hls:=RX x X[k];have hXs:X.length<=64:=(by omega);have hdr:X.drop k=X[k]::X.drop (k+1):=Dk rN;have rQ:X.take (k+1)=X.take k++[X[k]]:=by rw[Ao];simp[rN]
     have hDs:∀d∈X.drop (k+1),iU X[k] d:=by have :=hs.drop (i:=k);rw[hdr] at this;exact(Ck.1 this).1
     have hnp:(∀s∈X.take k,uF x s=false/\s≠x)->wO x X=X.take k++wO x (X[k]::X.drop (k+1)):=fun h=>by
      have :=Sl h
      rwa [hdr] at this
     rw[hdr] at hp;rw[rQ];have hTl:(X.take k).length<=k:=(by rw[Db];exact Nat.min_le_left _ _);generalize X[k]=o at *;generalize X.take k=T at *;generalize X.drop (k+1)=D at *;refine aL ?_;refine bQ ?_;refine Dz ?_;simp only[↓zP,zJ,seval,zD,g0,g3,g4,e2,aB,hlX,FF,hi,rN,FA,Zi,dx,dk,htx,aEz];refine fH (hls _) ?_;simp only[↓zP,zJ,seval,zD];refine bR ?_;refine aJ fun K1 hK1=>?_
     have key:∀(f':dE) (HA:aA) (w:AV) (Y:List aP.V) (Ly:Bool),f' 5=w->f' 6=.bool Ly->f' 0=.bB 0 3 (cJ l)->f' 3=.bB tg 3 (cJ X)->f' 4=.int .i64 i->f' 7=.int .i64 k->Own HA 3 w (cJ Y)->(Y=[]->w=.aR)->Y.length<=k+1->
      (if Ly then((o≠x/\Y++o::D=wO x X)\/(o=x/\Y++D=wO x X))/\∀d∈D,d≠x else Y=T/\∀s∈T++[o],uF x s=false/\s≠x)->K1 f' [] HA:=by
      intro f' HA w Y Ly v5 v6 v0 v3 v4 v7 hY hYn hYl eU;apply hK1;clear hK1 K1;refine bQ ?_;refine Dz ?_;simp only[↓zP,zJ,seval,zD,v0,v3,v4,v7,aB,hlX,FF,hi,rN,FA,Zi,dx,dk,htx,aEz,nB];refine bR ?_;by_cases hox:o=x
      . cases Ly with
        |false=>simp only[Bb,Bq] at eU;exact absurd hox (eU.2 o (by simp)).2
        |true=>
         simp only[if_true] at eU;simp only[↓zP,zJ,seval,Aj hox];refine⟨w,Y,true,by simp only[seval,v5,v6],hY,hYn,by omega,?_⟩;simp only[if_true]
         rcases eU.1 with h|h
         . exact absurd hox h.1
         exact⟨h.2,eU.2⟩
      obtain⟨H5,z1,z2⟩:=push HA w Y o hY (by omega);simp only[↓zP,zJ,seval,Ag hox,v5,v3,v7,aB,hlX,rN,Zi,dk,oL dk];rw[eL];simp only[z1,cF,seval];refine⟨_,Y++[o],Ly,by simp only[seval,v6],z2,fun h=>by simp at h,by simp;omega,?_⟩
      cases Ly with
      |true=>
       simp only[if_true] at eU ⊢
       rcases eU.1 with h|h
       . exact⟨by rw[<-h.2];simp,eU.2⟩
       exact absurd h.1 hox
      |false=>simp only[Bb,Bq] at eU ⊢;rw[eU.1];exact⟨rfl,eU.2⟩
     clear hK1;refine aJ fun K2 bW=>?_;refine Dz ?_
     cases put with
     |true=>
      simp only[if_true] at hp;simp only[↓zP,zJ,seval,zD,hw,mG];apply bW;clear bW K2;refine Tz ?_
      exact key _ H2 w Y true (by simp only[zB,seval];exact hw.1) (by simp only[zB,seval];exact hw.2) (by simp only[zB,seval];exact g0) (by simp only[zB,seval];exact g3) (by simp only[zB,seval];exact g4) (by simp only[zB,seval];exact e2) hoY hnY hlY (by
       simp only[if_true]
       exact⟨.inl ⟨hp.2 o (by simp),hp.1⟩,fun d hd=>hp.2 d (by simp[hd])⟩)
     |false=>
      simp only[Bb,Bq] at hp;obtain⟨hYT,bV⟩:=hp;have hX':=hnp bV
      cases hb:uF x o with
      |true=>have fF:=BM.1 hb;obtain⟨H5,z1,z2⟩:=push H2 w Y x hoY (by omega);simp only[↓zP,zJ,seval,zD,hw];apply bW;clear bW K2;simp only[↓zP,zJ,seval,hw,g0,g4,aB,FF,hi,FA,dx,oL dx];rw[eL];simp only[z1,cF,seval];refine key _ H5 _ (Y++[x]) true zq zq (by simp only[zB,seval];exact g0) (by simp only[zB,seval];exact g3) (by simp only[zB,seval];exact g4) (by simp only[zB,seval];exact e2) z2 (fun h=>by simp at h) (by simp[hYT];omega) ?_;simp only[if_true];refine⟨.inl ⟨fun h=>iU.j8 _ (h▸fF),?_⟩,fun d hd h=>iU.j8 _ (h▸iU.trans fF (hDs d hd))⟩;rw[hX',hYT,wO,if_pos hb];simp
      |false=>
       by_cases pq:x=o
       . obtain⟨H5,z1,z2⟩:=push H2 w Y x hoY (by omega);simp only[↓zP,zJ,seval,zD,hw,g0,g3,g4,e2,aB,hlX,rN,Zi,dk,aEz,FF,hi,FA,dx,htx,nB,Aj pq];apply bW;clear bW K2;simp only[↓zP,zJ,seval,hw,g0,g4,aB,FF,hi,FA,dx,oL dx];rw[eL];simp only[z1,cF,seval];refine key _ H5 _ (Y++[x]) true zq zq (by simp only[zB,seval];exact g0) (by simp only[zB,seval];exact g3) (by simp only[zB,seval];exact g4) (by simp only[zB,seval];exact e2) z2 (fun h=>by simp at h) (by simp[hYT];omega) ?_;simp only[if_true];refine⟨.inr ⟨pq.symm,?_⟩,fun d hd h=>iU.j8 _ (h▸pq▸hDs d hd)⟩;rw[hX',hYT,wO,hb,if_neg (by decide),if_pos pq.symm,pq];simp
       simp only[↓zP,zJ,seval,zD,hw,g0,g3,g4,e2,aB,hlX,rN,Zi,dk,aEz,FF,hi,FA,dx,oL dx,nB,Ag pq];apply bW;clear bW K2;refine Tz ?_;refine key _ H2 w Y false (by simp only[zB,seval];exact hw.1) (by simp only[zB,seval];exact hw.2) (by simp only[zB,seval];exact g0) (by simp only[zB,seval];exact g3) (by simp only[zB,seval];exact g4) (by simp only[zB,seval];exact e2) hoY hnY hlY ?_;simp only[Bb,Bq];refine⟨hYT,fun s CC=>?_⟩
       rcases Ap.1 CC with h|h
       . exact bV s h
       rw[Cb] at h;subst h;exact⟨hb,fun h=>pq h.symm⟩
   rintro g H2 vw ⟨w,Y,put,hw,hoY,hnY,hlY,hp⟩;simp only[zM] at hw;have g0:g 0=.bB 0 3 (cJ l):=(by rw[vw 0 rfl];simp only[zB,seval];exact f0);have g4:g 4=.int .i64 i:=(by rw[vw 4 rfl];simp only[zB,seval];exact e1);have FF:(cJ l).length=l.length:=aU _;have htx:(cT x).take 3=cT x:=rfl;rw[Hh,Ch,Ay] at hp
   have done:∀(HA:aA) (w':AV) (Y':List aP.V),Own HA 3 w' (cJ Y')->(Y'=[]->w'=.aR)->Y'=wO x X->∃v X',[w']=[v]/\Own HA 3 v (cJ X')/\(X'=[]->v=.aR)/\X'.Pairwise iU/\(∀y,y∈X'↔y∈l.take i++[x])/\X'.length<=i+1:=fun HA w' Y' h1 h2 h3=>⟨w',Y',rfl,h1,h2,h3▸Uy hs,fun y=>by rw[h3,Nx,Ap,Cb,hm];exact Or.comm,by have :=Ux x X;rw[h3];omega⟩
   simp only[gE];apply hK;clear hK K
   cases put with
   |true=>simp only[if_true] at hp;simp only[↓zP,zJ,seval,hw];exact done H2 w Y hoY hnY hp.1
   |false=>simp only[Bb,Bq] at hp;obtain⟨H5,z1,z2⟩:=push H2 w Y x hoY (by omega);simp only[↓zP,zJ,seval,hw,g0,g4,aB,FF,hi,FA,dx,oL dx];rw[eL];simp only[z1,cF,seval];refine done H5 _ _ z2 (fun h=>by simp at h) ?_;have :=Sl (x:=x) (S:=X) (i:=X.length) (by rw[Ay];exact hp.2);rw[this,Ay,Hh,hp.1];rfl
 rintro f H1 hk ⟨v,X,hv,ho,hn,hs,hm,hl⟩;simp only[zM] at hv;rw[Ay] at hm;have hXC:X=C:=Ord.uniq ⟨hs,hm⟩ hC;subst hXC;simp only[↓zP,seval,hv];refine Rx ?_;refine⟨v,0,rfl,?_⟩
 rcases ho with ⟨rfl,h2⟩|⟨k,rfl,_,_⟩
 . rw[show X=[] by simpa [cJ] using h2];exact fun _=>rfl
 have cP:X≠[]:=fun h=>by cases hn h
 have MK:dR (cJ X)=true:=by have :=dK Qv X;simpa [AV.free] using this
 have CB:lB 3 (cJ X)=.bB 0 3 (cJ X):=by simp[lB,cJ,cP]
 intro nw;rw[CB];simp[fT,jH,MK,JD]
theorem Ya (tag:Nat) {l C:List aP.V} (hlen:l.length<=64) (hC:Ord l C) (H:aA):
 Sg 191 [.bB tag 3 (cJ l)] H (.ret (lB 3 (cJ C))) H:=(aAv hlen hC H).DE tag
theorem Vm (H:aA):Sg 191 [.aR] H (.ret .aR) H:=by
 refine So aJt Zah ?_ H;unfold aCw;dsimp only;refine Tz ?_;refine bP [3] (fun i vs H'=>vs=[.aR]) 0 0 (Az _) (by omega) (by decide) ?_ ?_ ?_ ?_ ?_
 . exact zq
 . exact ZaN
 . rintro i f H1 h0 hi hk e1 hv;have f0:f 0=.aR:=hk 0 rfl;simp only[↓zP,zG,seval,e1,f0];exact Zaf
 . rintro i f H1 h0 hi hk;exact absurd hi (An _)
 rintro f H1 hk hv;simp only[zM] at hv;simp only[↓zP,seval,hv];refine Rx ?_;rfl
theorem Ld (H:aA):Sg 192 [.aR] H (.ret .aR) H:=by
 refine So aJu Zah ?_ H;unfold aCx;dsimp only;refine Tz ?_;refine bP [3] (fun i vs H'=>vs=[.aR]) 0 0 (Az _) (by omega) (by decide) ?_ ?_ ?_ ?_ ?_
 . exact zq
 . exact ZaN
 . rintro i f H1 h0 hi hk e1 hv;have f0:f 0=.aR:=hk 0 rfl;simp only[↓zP,zG,seval,e1,f0];exact Zaf
 . rintro i f H1 h0 hi hk;exact absurd hi (An _)
 rintro f H1 hk hv;simp only[zM] at hv;simp only[↓zP,seval,hv];refine Rx ?_;rfl
theorem aTk {l C:List aP.V} (hlen:l.length<2^30) (hC:Ord l C) {S:List (aP.V×Int)} {L:aP.V×Int->List Nat} (hS:xJ C S L) (H:aA):
 Sg 144 [.bB 0 3 (cJ l)] H (.ret (.agg [(iZ l C S L).1,.int .i64 (iZ l C S L).2])) H:=by
 have Qv:Nat.blt 0 2=true:=rfl;refine eQ fit fG aJj (Ak rfl) (by simp only[sf,dK Qv]) ?_ H;unfold aCm;dsimp only;refine bQ ?_;refine Tz ?_;refine fD ?_;simp only[↓zP,zJ,seval,aU];refine⟨fun h=>?_,fun hle=>?_⟩
 . have SL:64<l.length:=by omega
   refine Rx ?_;rw[show iZ l C S L=(.aR,2) from if_pos SL];exact⟨_,2,rfl,fun nw=>rfl⟩
 have SL:¬(64<l.length):=by omega
 refine fD ?_;refine Tz ?_;refine bP [] (fun i _ H=>(∀v∈l.take i,Zt v=true)/\H.get 0=some (.cells [.aR,.int .i64 0] false)/\1<=H.next) 0 l.length (Az _) (by omega) (by decide) ?_ ?_ ?_ ?_ ?_
 . exact zq
 . exact⟨fun v hv=>by simp at hv,by simp only[zI,seval],by simp only[zI,seval]⟩
 . rintro i f H1 h0 hi hk e1 ⟨gR,g0,hn⟩;have f0:f 0=.bB 0 3 (cJ l):=hk 0 rfl;simp only[↓zP,zG,seval,e1,f0,aU];exact Zaf
 . rintro i f H1 h0 hi hk e1 ⟨gR,g0,hn⟩;have f0:f 0=.bB 0 3 (cJ l):=hk 0 rfl;have f2:f 2=.ref 0 0:=hk 2 rfl;have hg:=dC hi;have FH:=Ac hi
   have hx:∀v,v∈l.take (i+1)->v∈l.take i\/v=l[i]:=fun v hv=>by
    exact Zar
   generalize l[i]=x at *;refine aL ?_;refine bQ ?_;refine Tz ?_;refine bR ?_;refine bP [] (fun j _ H=>(∀c,c<j->¬(x.at c>262144)/\¬(x.at c< -262144))/\H.get 0=some (.cells [.aR,.int .i64 0] false)/\1<=H.next) 0 3 (Az _) (by decide) (by decide) ?_ ?_ ?_ ?_ ?_
   . exact zq
   . exact⟨fun c hc=>absurd hc (An _),g0,hn⟩
   . rintro j g H2 Ni hj eO e2 hJ;simp only[↓zP,zG,seval,e2];exact Zaf
   . rintro j g H2 Ni hj eO e2 ⟨hc,EW,JN⟩;have u0:g 0=.bB 0 3 (cJ l):=(by rw[eO 0 rfl];simp only[zB,seval];exact f0);have u2:g 2=.ref 0 0:=(by rw[eO 2 rfl];simp only[zB,seval];exact f2);have u3:g 3=.int .i64 i:=(by rw[eO 3 rfl];simp only[zB,seval];exact e1);have MM:j<=2:=by omega
     have Pg:(x.at j>262144\/x.at j< -262144)->l.all Zt=false:=fun h=>by rw[<-Eh,Ax];intro ha;have :=ha x FH;simp only[Zt,Ax,Au,Bd] at this;have :=this j hj;omega
     refine aL ?_;have hdl:1<=(List.drop j (cT x)).length:=(by rw[Ex,aV];omega);have hdg:(List.drop j (cT x)).getD 0 aC=.int .i64 (x.at j):=(by rw[<-kJ x hj];simp[List.getD]);refine aJ fun K2 bW=>?_;by_cases c1:x.at j>262144
     . have d1:=Aj c1;simp only[↓zP,zJ,seval,e2,u0,u3,aB,aU,hi,hg,hj,hdl,hdg,d1];apply bW;clear bW K2;simp only[↓zP,zJ,seval,u2,EW];refine⟨rfl,_,by simp only[↓zP,zR,seval,u2];rfl,?_⟩;exact Zaw
     have d1:=Ag c1;by_cases c2:x.at j< -262144
     . have d2:=Aj c2;simp only[↓zP,zJ,seval,e2,u0,u3,aB,aU,hi,hg,hj,hdl,hdg,d1,d2];apply bW;clear bW K2;simp only[↓zP,zJ,seval,u2,EW];refine⟨rfl,_,by simp only[↓zP,zR,seval,u2];rfl,?_⟩;exact Zaw
     have d2:=Ag c2;simp only[↓zP,zJ,seval,e2,u0,u3,aB,aU,hi,hg,hj,hdl,hdg,d1,d2];apply bW;clear bW K2;refine Tz ?_;refine⟨fun c h=>?_,EW,JN⟩;by_cases hcj:c=j
     . subst hcj;exact⟨c1,c2⟩
     exact hc c (by omega)
   rintro f2 H2 eO ⟨hc,EW,JN⟩;refine Tx ?_;refine⟨fun v hv=>?_,EW,JN⟩
   rcases hx v hv with h|rfl
   . exact gR v h
   simp only[Zt,Ax,Au,Bd];exact fun c h=>hc c h
 rintro f H1 hk ⟨gR,g0,hn⟩;rw[Ay] at gR;have bV:l.all Zt=true:=Ax.2 gR;have f0:f 0=.bB 0 3 (cJ l):=hk 0 rfl;have a2:f 2=.ref 0 0:=hk 2 rfl;refine Tx ?_;refine bR ?_;have hNr:∀v∈C,cH (2^18) v:=fun v hv=>Nu.1 (gR v ((hC.mem v).1 hv))
 have hCl:C.length<=64:=by have :=tU C l (Ha (fun {a b} (h:iU a b) (e:a=b)=>iU.j8 b (by rw[e] at h;exact h)) hC.Rb) fun v hv=>(hC.mem v).1 hv;omega
 have mN:∀H,Sg 192 [lB 3 (cJ C)] H (.ret (yU L S)) H:=fun H=>by
  by_cases hc:C=[]
  . subst hc
    have hSn:S=[]:=Ey.2 fun q hq=>by obtain⟨i,j,k,_,_,h,_⟩:=gC ((hS.fl.mem q).1 hq);exact absurd h (An _)
    subst hSn;exact Ld H
  rw[show lB 3 (cJ C)=.bB 0 3 (cJ C) from if_neg (by simpa [cJ] using hc)];exact Oi 0 hNr (Ab _) hCl hS H
 have hsd:∀H,Sg 191 [.bB 0 3 (cJ l)] H (.ret (lB 3 (cJ C))) H:=Ya 0 (by omega) hC;refine bQ ?_;simp only[↓zP,zG,seval,f0];refine bZ (hsd _) ?_;refine Tz ?_;refine fD ?_;refine Tz ?_;refine bZ (mN _) ?_;refine Tz ?_;refine bR ?_;by_cases oo:S=[]
 . have hO:iZ l C S L=(.aR,120):=(if_neg SL).trans ((if_neg (by rw[bV];decide)).trans (if_pos (by rw[oo];decide)));refine aJ fun K hK=>?_;rw[show yU L S=.aR by rw[oo];rfl];simp only[↓zP,zJ,seval,a2,g0];refine⟨rfl,_,by simp only[↓zP,zR,seval,a2];rfl,?_⟩;rw[hO];exact⟨_,2,rfl,fun nw=>rfl⟩
 have hS4:¬S.length<4:=by have :=hS.fl.four (NA hC.Rb) oo;omega
 have MK:yU L S=.bB 0 5 (S.map (dU L)):=by
  rcases jJ L S with ⟨h,_⟩|⟨_,h⟩
  . exact absurd h oo
  exact h
 have hCe:cJ C≠[]:=fun h=>oo (Ey.2 fun q hq=>by
  obtain⟨i,j,k,_,_,h',_⟩:=gC ((hS.fl.mem q).1 hq);have :C.length=0:=by rw[<-aU,h];rfl
  omega)
 rw[show lB 3 (cJ C)=.bB 0 3 (cJ C) from if_neg hCe,MK];have XS:((S.length:Int)==0)=false:=Bl.2 fun h=>oo (Cm (by omega));refine bQ ?_;simp only[↓zP,zG,seval,Af,XS];refine bR ?_;by_cases Pe:64<S.length
 . have hO:iZ l C S L=(.aR,2):=(if_neg SL).trans ((if_neg (by rw[bV];decide)).trans ((if_neg hS4).trans (if_pos Pe)));refine aJ fun K hK=>?_;simp only[↓zP,zJ,seval,a2,g0,Af];refine⟨fun _=>?_,fun h=>absurd Pe (by omega)⟩;refine⟨rfl,_,by simp only[↓zP,zR,seval,a2];rfl,?_⟩;rw[hO];exact⟨_,2,rfl,fun nw=>rfl⟩
 refine bQ ?_;simp only[↓zP,zJ,seval,Af];refine⟨fun h=>absurd h (by omega),fun _=>?_⟩;refine bR ?_;have hO:iZ l C S L=(lB 3 (cJ (iF C S L)),0):=(if_neg SL).trans ((if_neg (by rw[bV];decide)).trans ((if_neg hS4).trans (if_neg Pe)));rw[hO];refine bQ ?_;refine Ty ?_;refine bR ?_;refine aJ fun K hK=>?_;refine Tz ?_;have nx0:¬(0=H1.next):=by omega
 generalize hX:(H1.alloc _).set H1.next _=H4;have y0:H4.get 0=some (.cells [.aR,.int .i64 0] false):=by subst hX;rw[aA.aD,if_neg nx0,aA.aG,if_neg nx0];exact g0
 have yb:H4.get H1.next=some (.cells [.aR,.int .i64 0] false):=by subst hX;rw[aA.aD,if_pos rfl]
 have yn:H4.next=H1.next+1:=by subst hX;simp only[aA.bC,aA.aS]
 clear hX;generalize H1.next=ob at *;have hSl:(S.map (dU L)).length=S.length:=Af ..;refine bP [] (fun i _ H'=>H'.get 0=some (.cells [.aR,.int .i64 0] false)/\ob<H'.next/\∃v,H'.get ob=some (.cells [v,.int .i64 0] false)/\Own H' 3 v (cJ (((List.range i).filter (gQ S L)).map fun k=>C.getD k V0))/\(((List.range i).filter (gQ S L)).map (fun k=>C.getD k V0)=[]->v=.aR)) 0 C.length (Az _) (by omega) (by decide) ?_ ?_ ?_ ?_ ?_
 . exact zq
 . exact⟨y0,by omega,.aR,yb,.nil _ _,fun _=>rfl⟩
 . rintro i f2 H2 h0 hi eO e2 _;have u5:f2 5=.bB 0 3 (cJ C):=eO 5 rfl;simp only[↓zP,zG,seval,e2,u5,aU];exact Zaf
 . rintro i f2 H2 h0 hi eO e2 ⟨q0,qn,v,qv,qo,qe⟩;have u5:f2 5=.bB 0 3 (cJ C):=eO 5 rfl;have u6:f2 6=.bB 0 5 (S.map (dU L)):=eO 6 rfl;have u7:f2 7=.ref ob 0:=eO 7 rfl;refine aL ?_;refine bQ ?_;refine Tz ?_;refine bR ?_;refine aJ fun K hK=>?_;refine Tz ?_;refine bP [9] (fun k vs H'=>H'=H2/\vs=[.bool ((S.take k).any fun q=>(L q).contains i)]) 0 S.length (Az _) (by omega) (by decide) ?_ ?_ ?_ ?_ ?_
   . exact zq
   . exact⟨rfl,by simp only[sm,zB,seval];rfl⟩
   . rintro k g H3 h0 rN oO e3 _;have w6:g 6=.bB 0 5 (S.map (dU L)):=(by rw[oO 6 rfl];simp only[zB,seval];exact u6);simp only[↓zP,zG,seval,e3,w6,hSl];exact Zaf
   . rintro k g H3 h0 rN oO e3 ⟨rfl,hv⟩;simp only[zM] at hv;have w6:g 6=.bB 0 5 (S.map (dU L)):=(by rw[oO 6 rfl];simp only[zB,seval];exact u6);have w8:g 8=.int .i64 i:=(by rw[oO 8 rfl];simp only[zB,seval];exact e2);have Zj:(S.map (dU L)).getD k []=dU L S[k]:=gJ rN
     have rQ:((S.take (k+1)).any fun q=>(L q).contains i)=(((S.take k).any fun q=>(L q).contains i)||(L S[k]).contains i):=by rw[Ao,Iq];simp[rN]
     have hqS:=Ac rN;rw[rQ];generalize S[k]=q at *;generalize ((S.take k).any fun q=>(L q).contains i)=b0 at *
     have hLl:(L q).length<2^30:=by obtain⟨s,r,m,e,W,h⟩:=(hS.po _ hqS).ex;rw[h,Af,Bv];have h1:=W.le;have h2:=Dh (fun k=>decide (aP.dot q.1 (C.getD k V0)=q.2)) (List.range C.length);rw[Bv] at h2;have h3:(kC (fun i=>C.getD i V0) C.length q.1 q.2).length<=C.length:=h2;omega
     have d5:(dU L q).length=5:=rfl;have d4:(List.drop 4 (dU L q)).getD 0 aC=.bB 0 1 (yR (L q)):=rfl;have dl4:1<=(List.drop 4 (dU L q)).length:=Ab _;refine aL ?_;refine bQ ?_;refine Tz ?_;refine bR ?_;refine bP [9] (fun c vs H'=>H'=H3/\vs=[.bool (b0||((L q).take c).contains i)]) 0 (L q).length (Az _) (by omega) (by decide) ?_ ?_ ?_ ?_ ?_
     . exact zq
     . exact⟨rfl,by simp only[sm,zB,seval,hv];simp⟩
     . rintro c g2 H4 h0 hc PM e4 ⟨rfl,_⟩;have x6:g2 6=.bB 0 5 (S.map (dU L)):=(by rw[PM 6 rfl];simp only[zB,seval];exact w6);have x10:g2 10=.int .i64 k:=(by rw[PM 10 rfl];simp only[zB,seval];exact e3);simp only[↓zP,zG,seval,e4,x6,x10,aB,hSl,rN,Zj,d4,dl4,eK];exact Zaf
     . rintro c g2 H4 h0 hc PM e4 ⟨rfl,WM⟩;simp only[zM] at WM;have x6:g2 6=.bB 0 5 (S.map (dU L)):=(by rw[PM 6 rfl];simp only[zB,seval];exact w6);have x10:g2 10=.int .i64 k:=(by rw[PM 10 rfl];simp only[zB,seval];exact e3);have x8:g2 8=.int .i64 i:=(by rw[PM 8 rfl];simp only[zB,seval];exact w8);have jr:=BA hc
       have htc:((L q).take (c+1)).contains i=(((L q).take c).contains i||(L q)[c]==i):=by
        rw[Cg];simp only[Dm,List.contains_iff_mem,Ca,Ao,Ad hc,Fu,Ap,Cb];constructor
        . rintro(h|h)
          . exact .inl h
          exact .inr h.symm
        rintro(h|h)
        . exact .inl h
        exact .inr h.symm
       rw[htc,<-Bool.or_assoc];generalize (L q)[c]=p at *;generalize (b0||((L q).take c).contains i)=b1 at *;have hpi:((p:Int)==(i:Int))=(p==i):=(by rw[Cg,Ca,Ca];omega);refine aL ?_
       cases b1 with
       |true=>simp only[↓zP,zJ,seval,WM];exact⟨trivial,rfl⟩
       |false=>simp only[↓zP,zJ,seval,WM,x6,x10,x8,e4,aB,hSl,rN,Zj,d4,dl4,eK,hc,jr,hpi];exact⟨trivial,rfl⟩
     rintro g2 H4 PM ⟨rfl,WM⟩;rw[Ay] at WM;refine Tx ?_;exact⟨trivial,WM⟩
   rintro g H3 oO ⟨rfl,hv⟩;rw[Ay] at hv;simp only[zM] at hv;have hP:(S.any fun q=>(L q).contains i)=gQ S L i:=rfl;rw[hP] at hv;have w5:g 5=.bB 0 3 (cJ C):=(by rw[oO 5 rfl];simp only[zB,seval];exact u5);have w7:g 7=.ref ob 0:=(by rw[oO 7 rfl];simp only[zB,seval];exact u7);have w8:g 8=.int .i64 i:=(by rw[oO 8 rfl];simp only[zB,seval];exact e2);have hg:=dC hi;have FA:C.getD i V0=C[i]:=by simp[List.getD,hi]
   have ve:((List.range (i+1)).filter (gQ S L)).map (fun k=>C.getD k V0)=((List.range i).filter (gQ S L)).map (fun k=>C.getD k V0)++(if gQ S L i then [C[i]] else []):=by
    rw[Ff,Ja,Cx];congr 1;simp only[Jk,Jt];split
    . rw[Cd,FA];rfl
    rfl
   have vI:(((List.range i).filter (gQ S L)).map fun k=>C.getD k V0).length<=64:=by rw[Af];have :=Dh (gQ S L) (List.range i);rw[Bv] at this;omega
   refine Tx ?_;apply hK;clear hK K;rw[ve];generalize ((List.range i).filter (gQ S L)).map (fun k=>C.getD k V0)=aY at *;generalize C[i]=x at *
   cases hu:gQ S L i with
   |false=>rw[hu] at hv;simp only[↓zP,zJ,seval,hv];exact⟨q0,qn,v,qv,qo,qe⟩
   |true=>
    rw[hu] at hv;simp only[↓zP,zG,seval,hv];obtain⟨H5,z1,z2,z3,z4,z5⟩:=Has.push (.inr qo) (ys:=[cT x]) (bytes:=24) rfl (by rw[aU,Aq,Bm];omega);refine Dz ?_;have w2:=(z4 ob (by omega) (by rw[qv];simp)).trans qv;simp only[↓zP,zJ,seval,zD,w5,w7,w8,qv,aB,aU,hi,hg,oL (aV x)];rw[eL];simp only[z1,cF,zJ,seval,zD,w2];refine⟨by omega,(if_neg (by omega)).trans ((z4 0 (by omega) (by rw[q0];simp)).trans q0),by omega,_,rfl,?_,fun h=>?_⟩
    . rw[show cJ (aY++[x])=cJ aY++[cT x] from by simp[cJ]];exact .inr ⟨H3.next,rfl,by simp only[aA.bC];omega,by rw[aA.aD,if_neg (by omega)];exact z3⟩
    simp at h
 rintro f2 H2 eO ⟨q0,qn,v,qv,qo,qe⟩;have u2:f2 2=.ref 0 0:=by rw[eO 2 rfl];simp only[zB,seval];exact a2
 have u7:f2 7=.ref ob 0:=eO 7 rfl;refine Tx ?_;apply hK;clear hK K;have hL:((List.range C.length).filter (gQ S L)).map (fun k=>C.getD k V0)=iF C S L:=rfl;rw[hL] at qo qe;simp only[↓zP,zJ,seval,u2,u7,qv,q0];refine⟨rfl,_,by simp only[↓zP,zR,seval,u2];rfl,?_⟩;exact Zau
theorem z6 (tag:Nat) {l C:List aP.V} (hlen:l.length<2^30) (hC:Ord l C) {S:List (aP.V×Int)} {L:aP.V×Int->List Nat} (hS:xJ C S L) (H:aA):
 Sg 144 [.bB tag 3 (cJ l)] H (.ret (.agg [(iZ l C S L).1,.int .i64 (iZ l C S L).2])) H:=(aTk hlen hC hS H).DE tag
theorem k9 (H:aA):Sg 144 [.aR] H (.ret (.agg [.aR,.int .i64 120])) H:=by
 refine So aJj Zah ?_ H;unfold aCm;dsimp only;refine bQ ?_;simp only[↓zP,zG,Nat.reduceLT];refine fD ?_;simp only[↓zP,zJ,Nat.reduceLT,Nat.reduceEqDiff,Nat.reduceAdd];refine⟨fun h=>absurd h (by decide),fun _=>?_⟩;refine bR ?_;refine aJ fun K hK=>?_;simp only[↓zP,zG,Nat.reduceLT];refine bP [] (fun i _ H=>H.get 0=some (.cells [.aR,.int .i64 0] false)) 0 0 (Az _) (by omega) (by decide) ?_ ?_ ?_ ?_ ?_
 . simp only[zB];rfl
 . simp only[zI]
 . rintro i f H1 h0 hi hk e1 g0;have f0:f 0=.aR:=hk 0 rfl;simp only[↓zP,zJ,Nat.reduceLT,Nat.reduceEqDiff,e1,f0];exact Zaf
 . rintro i f H1 h0 hi hk;exact absurd hi (An _)
 rintro f H1 hk g0;have f0:f 0=.aR:=hk 0 rfl;have f2:f 2=.ref 0 0:=hk 2 rfl;simp only[↓zP];apply hK;clear hK K;refine bQ ?_;simp only[↓zP,zG,Nat.reduceLT,f0];refine bZ (Vm _) ?_;simp only[↓zP,zG,Nat.reduceLT];refine fD ?_;simp only[↓zP,zG,Nat.reduceLT];refine bZ (Ld _) ?_;simp only[↓zP,zG,Nat.reduceLT];refine bR ?_;refine aJ fun K hK=>?_;simp only[↓zP,zJ,Nat.reduceLT,Nat.reduceEqDiff,Nat.reduceAdd,f2,g0];refine⟨rfl,_,by simp only[↓zP,zR,Nat.reduceEqDiff,Nat.reduceAdd,f2,g0];rfl,?_⟩;rfl
theorem aHd {a b:List aP.V} (ha:a.length<2^30) (hb:b.length<2^30) (H:aA):
 Sg 145 [.bB 0 3 (cJ a),.bB 0 3 (cJ b)] H (.ret (.bool (decide (a=b)))) H:=by
 have Qv:Nat.blt 0 2=true:=rfl;refine So aWw (by simp only[sf,dK Qv]) ?_ H;unfold aLu;dsimp only;refine bQ ?_;simp only[↓zP,zG,Nat.reduceLT];refine bR ?_;refine aJ fun K hK=>?_;by_cases hl:a.length=b.length
 . have hd:((a.length:Int) != (b.length:Int))=false:=by simp[hl]
   simp only[↓zP,zJ,Nat.reduceLT,Nat.reduceEqDiff,aU,hd];apply hK;clear hK K;refine aJ fun K hK=>?_;simp only[↓zP,zG,Nat.reduceLT];refine bP [] (fun i _ H=>a.take i=b.take i) 0 a.length (Az _) (by omega) (by decide) ?_ ?_ ?_ ?_ ?_
   . simp only[zB];rfl
   . rfl
   . rintro i f H1 h0 hi hk e1 _;have f0:f 0=.bB 0 3 (cJ a):=hk 0 rfl;simp only[↓zP,zJ,Nat.reduceLT,Nat.reduceEqDiff,e1,f0,aU];exact Zaf
   . rintro i f H1 h0 hi hk e1 hJ;have f0:f 0=.bB 0 3 (cJ a):=hk 0 rfl;have f1:f 1=.bB 0 3 (cJ b):=hk 1 rfl;have hib:i<b.length:=(by omega);have g1:=dC hi;have g2:=dC hib;have d1:(cT a[i]).take 3=cT a[i]:=rfl;have d2:(cT b[i]).take 3=cT b[i]:=rfl;refine aL ?_;refine bQ ?_;refine Dz ?_;simp only[↓zP,zJ,Nat.reduceLT,Nat.reduceEqDiff,Nat.reduceAdd,zD,reduceCtorEq,e1,f0,f1,aB,aU,hi,hib,g1,g2,oL (aV a[i]),oL (aV b[i]),nB];refine bR ?_;by_cases he:a[i]=b[i]
     . simp only[↓zP,zJ,Aj he];rw[Ao,Ao,hJ,Ad hi,Ad hib,he]
     simp only[↓zP,zJ,Nat.reduceLT,Ag he];refine Rx ?_;rw[Ag fun h=>he (by subst h;rfl)];rfl
   rintro f H1 hk hJ;rw[Ay,hl,Ay] at hJ;simp only[↓zP];apply hK;clear hK K;simp only[↓zP,zG,Nat.reduceLT];refine Rx ?_;rw[Aj hJ];rfl
 have hd:((a.length:Int) != (b.length:Int))=true:=De.2 (by omega);simp only[↓zP,zJ,Nat.reduceLT,Nat.reduceEqDiff,aU,hd];refine Rx ?_;rw[Ag fun h=>hl (by rw[h])];rfl
theorem z8 (t1 t2:Nat) {a b:List aP.V} (ha:a.length<2^30) (hb:b.length<2^30) (H:aA):
 Sg 145 [.bB t1 3 (cJ a),.bB t2 3 (cJ b)] H (.ret (.bool (decide (a=b)))) H:=((aHd ha hb H).DE t1).aHm t2
theorem Pv {tag:Nat} (ht:Nat.blt tag 2=true) {l C:List aP.V} (hlen:l.length<2^30) (hC:Ord l C) {S:List (aP.V×Int)} {L:aP.V×Int->List Nat} (hS:xJ C S L) (H:aA):
 Sg 115 [.agg [.bB tag 3 (cJ l)]] H (.ret (.int .i64 (NJ l C S L))) H:=by
 refine So aJg ZaJ ?_ H;unfold aCj;dsimp only;have hH:=fun H=>z6 tag hlen hC hS H;unfold NJ;have h0:=Sb (l:=l) (C:=C) (S:=S) (L:=L);generalize iZ l C S L=o at *;obtain⟨ov,oc⟩:=o;dsimp only at hH h0 ⊢;refine bQ ?_;simp only[↓zP,zJ,Nat.reduceLT];refine fD ?_;simp only[↓zP,zJ,Nat.reduceLT,Nat.reduceEqDiff];refine bZ (hH _) ?_;simp only[↓zP,zJ,Nat.reduceLT,Nat.reduceEqDiff,Nat.reduceAdd];refine bR ?_;by_cases hc:oc=0
 . subst hc;obtain⟨hSn,rfl,aVe⟩:=h0 rfl;have cP:=Nt hS hSn;have qY:lB 3 (cJ (iF C S L))=.bB 0 3 (cJ (iF C S L)):=if_neg (by simpa [cJ] using cP);rw[qY]
   have FF:(iF C S L).length<2^30:=by have hCl:C.length<=l.length:=tU C l (Ha (fun {a b} (h:iU a b) (e:a=b)=>iU.j8 b (by rw[e] at h;exact h)) hC.Rb) fun v hv=>(hC.mem v).1 hv;have :=Dh (gQ S L) (List.range C.length);rw[Bv] at this;simp only[iF,Af];omega
   have hb:((0:Int)==0)=true:=rfl;have hE:=fun H=>z8 0 tag FF hlen H;refine aJ fun K hK=>?_;simp only[↓zP,zJ,Nat.reduceLT,Nat.reduceEqDiff,Nat.reduceAdd,Nat.reduceLeDiff,hb];refine bZ (hE _) ?_;by_cases he:iF C S L=l
   . have hd:=Aj he;simp only[↓zP,zJ,Nat.reduceLT,Nat.reduceEqDiff,hd];apply hK;clear hK K;simp only[↓zP,zJ,Nat.reduceLT,Nat.reduceEqDiff,Nat.reduceAdd];refine Rx ?_;rw[if_neg (fun h=>h.2 he)];rfl
   have hd:=Ag he;simp only[↓zP,zJ,Nat.reduceLT,Nat.reduceEqDiff,hd];refine Rx ?_;rw[if_pos ⟨trivial,he⟩];rfl
 have hb:(oc==0)=false:=Bl.2 hc;refine bQ ?_;simp only[↓zP,zJ,Nat.reduceLT,Nat.reduceEqDiff,Nat.reduceAdd,hb];refine bR ?_;simp only[↓zP,zJ,Nat.reduceLT,Nat.reduceEqDiff,Nat.reduceAdd];refine Rx ?_;rw[if_neg (fun h=>hc h.1)];rfl
theorem Ol (H:aA):Sg 115 [.agg [.aR]] H (.ret (.int .i64 120)) H:=by
 refine So aJg Zah ?_ H;unfold aCj;dsimp only;refine bQ ?_;refine Ty ?_;refine fD ?_;refine Ty ?_;refine bZ (k9 _) ?_;refine Ty ?_;refine bR ?_;have hb:((120:Int)==0)=false:=by decide
 refine bQ ?_;simp only[↓zP,zJ,seval,hb];refine bR ?_;refine Ty ?_;refine Rx ?_;rfl
theorem Oj {p:AV×List aP.V} (h:vY p) (hlen:p.2.length<2^30) (H:aA):Sg 115 [.agg [p.1]] H (.ret (.int .i64 (vC p.2))) H:=by
 rcases h with ⟨h1,h2⟩|h1
 . rw[h1,h2,NI];exact Ol H
 rw[h1];exact Pv rfl hlen (xE _) (uO (xE _).Rb) H
theorem YJ (tag:Nat) {l:List aP.V} {M:Nat} (hl:∀v∈l,cH M v) (hM:M<=2^18) (hlen:l.length<=64) {S:List (aP.V×Int)} {L:aP.V×Int->List Nat} (hS:xJ l S L) (ht:Nat.blt tag 2=true) (H:aA):
 Sg 146 [.agg [.bB tag 3 (cJ l)]] H (.ret (yU L S)) H:=by
 refine Sp aJk ZaJ (by simp only[KD]) ?_ H;unfold aCn;dsimp only;have hF:=fun H=>Oi tag hl hM hlen hS H;refine Ty ?_;refine bZ (hF _) ?_;refine Tz ?_;refine Rx ?_;rfl
theorem Va (tag:Nat) {l:List aP.V} {M:Nat} (hl:∀v∈l,cH M v) (hM:M<=2^18) (hlen:l.length<=64) {S:List (aP.V×Int)} {L:aP.V×Int->List Nat} (hS:xJ l S L) (cP:S≠[]) (ht:Nat.blt tag 2=true) (H:aA):
 Sg 146 [.agg [.bB tag 3 (cJ l)]] H (.ret (.bB (H.next+2) 5 (S.map (dU L)))) (H.alloc .tok):=by
 refine mD fG ZaJ (by simpa using cP) (eJ (pY L) S) ?_ H;refine cY fit aJk (Ak rfl) ?_;unfold aCn;dsimp only;have hF:=fun H=>Vf tag hl hM hlen hS cP H;refine Ty ?_;refine bZ (hF _) ?_;refine Ty ?_;refine Rx ?_;exact⟨_,rfl,.inr ⟨_,rfl,by simp,by rw[aA.aG,if_pos (by simp)]⟩⟩
def EJ (on:List Nat) (m a b:Nat):Bool:=(List.range m).any fun i=>(on.getD i 0==a&&on.getD ((i+1)%on.length) 0==b)||(on.getD i 0==b&&on.getD ((i+1)%on.length) 0==a)
def PS (S:List (aP.V×Int)) (L:aP.V×Int->List Nat) (a b:Nat):Bool:=S.any fun q=>EJ (L q) (L q).length a b
def FR (S:List (aP.V×Int)) (L:aP.V×Int->List Nat) (a j:Nat):List (Int×Int):=((List.range j).filter fun b=>decide (a<b)&&PS S L a b).map fun b:Nat=>(((a:Nat):Int),((b:Nat):Int))
def PO (S:List (aP.V×Int)) (L:aP.V×Int->List Nat) (N i:Nat):List (Int×Int):=(List.range i).flatMap fun a=>FR S L a N
theorem VW (S:List (aP.V×Int)) (L:aP.V×Int->List Nat) (a j:Nat):(FR S L a j).length<=j:=by
 rw[FR,Af];have :=Dh (fun b=>decide (a<b)&&PS S L a b) (List.range j)
 rwa [Bv] at this
theorem bt (S:List (aP.V×Int)) (L:aP.V×Int->List Nat) (N i:Nat):(PO S L N i).length<=i*N:=by
 have :=tK (fun a=>FR S L a N) N (fun a=>VW S L a N) (List.range i)
 rwa [Bv] at this
theorem zy (S:List (aP.V×Int)) (L:aP.V×Int->List Nat) (a:Nat):FR S L a (a+1)=[]:=by
 have :((List.range (a+1)).filter fun b=>decide (a<b)&&PS S L a b)=[]:=by rw[List.filter_eq_nil_iff];intro b hb;rw[Au] at hb;rw[Ag (by omega)];simp
 rw[FR,this];rfl
theorem aTj {S:List (aP.V×Int)} {L:aP.V×Int->List Nat} {a j:Nat} (h:a<j):FR S L a (j+1)=FR S L a j++(if PS S L a j then [((a:Int),(j:Int))] else []):=by simp only[FR];rw[Ff,Ja,Cx,Jk,Jt,Aj h,Co];cases PS S L a j<;>rfl
theorem bDc (S:List (aP.V×Int)) (L:aP.V×Int->List Nat) (N i:Nat):PO S L N (i+1)=PO S L N i++FR S L i N:=by simp only[PO];rw[Ff,It];simp
theorem aQu (on:List Nat) (m a b:Nat):EJ on (m+1) a b=(EJ on m a b||((on.getD m 0==a&&on.getD ((m+1)%on.length) 0==b)||(on.getD m 0==b&&on.getD ((m+1)%on.length) 0==a))):=by simp only[EJ];rw[Ff,Iq];simp
theorem kz {tag:Nat} (ht:Nat.blt tag 2=true) {l:List aP.V} {M:Nat} (hl:∀v∈l,cH M v) (hM:M<=2^18) (hlen:l.length<=64) {S:List (aP.V×Int)} {L:aP.V×Int->List Nat} (hS:xJ l S L) (Pe:S.length<=64) (H:aA):
 Sg 195 [.agg [.bB tag 3 (cJ l)]] H (.ret (lB 2 ((PO S L l.length l.length).map pC))) H:=by
 refine eQ fit fG aXz (Ak rfl) ZaJ ?_ H;unfold aMx;dsimp only;have hF:=fun H=>YJ tag hl hM hlen hS ht H;have hLw:=aHw hS hlen;refine Ty ?_;refine bZ (hF _) ?_;refine Tz ?_;have fF:(cJ l).length=l.length:=aU _;refine bP [3] (fun i vs H'=>H'.get 0=some (.cells [.bB tag 3 (cJ l)] false)/\1<=H'.next/\∃v,vs=[v]/\Own H' 2 v ((PO S L l.length i).map pC)/\(PO S L l.length i=[]->v=.aR)) 0 l.length (Az _) (by omega) (by decide) ?_ ?_ ?_ ?_ ?_
 . exact zq
 . exact⟨by simp only[zI,seval],by simp only[zI,seval],.aR,by simp only[sm,zB,seval],.nil _ _,fun _=>rfl⟩
 . rintro i f H1 h0 hi hk e1 ⟨g0,_⟩;have f1:f 1=.ref 0 0:=hk 1 rfl;simp only[↓zP,zJ,seval,e1,f1,g0,fF];exact Zaf
 . rintro i f H1 h0 hi hk e1 ⟨g0,gn,v,hv,ho,hn⟩;simp only[zM] at hv;have f1:f 1=.ref 0 0:=hk 1 rfl;have f4:f 4=yU L S:=hk 4 rfl;have wi:IntKind.i64.wrap ((i:Int)+1)=((i+1:Nat):Int):=(wrap_i64 (by omega) (by omega)).trans (by omega);refine aL ?_;simp only[↓zP,zJ,seval,e1,wi];refine bP [3] (fun j vs H'=>H'.get 0=some (.cells [.bB tag 3 (cJ l)] false)/\1<=H'.next/\∃v,vs=[v]/\Own H' 2 v ((PO S L l.length i++FR S L i j).map pC)/\(PO S L l.length i++FR S L i j=[]->v=.aR)) (i+1) l.length (by omega) (by omega) (by decide) ?_ ?_ ?_ ?_ ?_
   . exact zq
   . exact⟨g0,gn,v,by simp only[sm,zB,seval,hv],by rw[zy,Ch];exact ho,by rw[zy,Ch];exact hn⟩
   . rintro j f2 H2 h0 hj eO e2 ⟨EW,_⟩;have u1:f2 1=.ref 0 0:=(by rw[eO 1 rfl];simp only[zB,seval];exact f1);simp only[↓zP,zJ,seval,e2,u1,EW,fF];exact Zaf
   . rintro j f2 H2 yN hj eO e2 ⟨EW,gn',v2,sU,ho2,SQ⟩;simp only[zM] at sU;have u4:f2 4=yU L S:=(by rw[eO 4 rfl];simp only[zB,seval];exact f4);have u5:f2 5=.int .i64 i:=by rw[eO 5 rfl];simp only[zB,seval];exact e1
     have hXl:(PO S L l.length i++FR S L i j).length<2^20:=by have h1:=bt S L l.length i;have h2:=VW S L i j;have h3:i*l.length<=64*64:=Bt (by omega) hlen;rw[Ba];omega
     refine aL ?_;refine bQ ?_;refine Tz ?_;refine bR ?_;refine aJ fun K hK=>?_;refine Ty ?_;refine bP [7] (fun k vs H'=>H'=H2/\vs=[.bool ((S.take k).any fun q=>EJ (L q) (L q).length i j)]) 0 S.length (Az _) (by omega) (by decide) ?_ ?_ ?_ ?_ ?_
     . exact zq
     . exact⟨rfl,by simp only[sm,zB,seval];rfl⟩
     . rintro k f3 H3 h0 rN oO e3 _;have w4:f3 4=yU L S:=by rw[oO 4 rfl];simp only[zB,seval];exact u4
       rcases jJ L S with ⟨h,e⟩|⟨h,e⟩
       . rw[e] at w4;subst h;simp only[↓zP,zG,seval,e3,w4];exact⟨trivial,trivial,Bn AV.bool (Bs.2 (by simp at rN;simp[rN]))⟩
       rw[e] at w4;simp only[↓zP,zG,seval,e3,w4,Af];exact Zaf
     . rintro k f3 H3 h0 rN oO e3 ⟨rfl,Pn⟩;simp only[zM] at Pn
       have w4:f3 4=.bB 0 5 (S.map (dU L)):=by
        rw[oO 4 rfl];simp only[zB,seval];rw[u4]
        rcases jJ L S with ⟨h,e⟩|⟨h,e⟩
        . rw[h] at rN;exact absurd rN (An _)
        exact e
       have w5:f3 5=.int .i64 i:=(by rw[oO 5 rfl];simp only[zB,seval];exact u5);have w6:f3 6=.int .i64 j:=(by rw[oO 6 rfl];simp only[zB,seval];exact e2);have Zj:(S.map (dU L)).getD k []=dU L S[k]:=gJ rN
       have rQ:((S.take (k+1)).any fun q=>EJ (L q) (L q).length i j)=(((S.take k).any fun q=>EJ (L q) (L q).length i j)||EJ (L S[k]) (L S[k]).length i j):=by rw[Ao,Iq];simp[rN]
       have hSl:(S.map (dU L)).length=S.length:=Af ..;have hLl:=hLw _ (Ac rN);rw[rQ];generalize S[k]=q at *;generalize ((S.take k).any fun q=>EJ (L q) (L q).length i j)=b0 at *;have d5:(dU L q).length=5:=rfl;have d4:(List.drop 4 (dU L q)).getD 0 aC=.bB 0 1 (yR (L q)):=rfl;have dl4:1<=(List.drop 4 (dU L q)).length:=Ab _;refine aL ?_;refine bQ ?_;simp only[↓zP,zG,seval,w4,e3,aB,hSl,rN,Zj,d4,dl4];refine fD ?_;refine Tz ?_;refine bR ?_;generalize L q=on at *;refine bP [7] (fun c vs H'=>H'=H3/\vs=[.bool (b0||EJ on c i j)]) 0 on.length (Az _) (by omega) (by decide) ?_ ?_ ?_ ?_ ?_
       . exact zq
       . exact⟨rfl,by simp only[sm,zB,seval,Pn];simp[EJ]⟩
       . rintro c f4 H4 h0 hc PM e4 _;have x9:f4 9=.bB 0 1 (yR on):=PM 9 rfl;simp only[↓zP,zG,seval,e4,x9,eK];exact Zaf
       . rintro c f4 H4 h0 hc PM e4 ⟨rfl,WM⟩;simp only[zM] at WM;have x9:f4 9=.bB 0 1 (yR on):=PM 9 rfl;have x5:f4 5=.int .i64 i:=(by rw[PM 5 rfl];simp only[zB,seval];exact w5);have x6:f4 6=.int .i64 j:=(by rw[PM 6 rfl];simp only[zB,seval];exact w6);have wj:IntKind.i64.wrap ((c:Int)+1)=((c+1:Nat):Int):=(wrap_i64 (by omega) (by omega)).trans (by omega);have nz:¬((on.length:Int)=0):=(by omega);have hm:(c+1)%on.length<on.length:=Di _ (by omega);have tm:((c+1:Nat):Int).tmod (on.length:Int)=(((c+1)%on.length:Nat):Int):=rfl;have jr:=BA hc;have hgb:=BA hm;have CX:∀x y:Nat,((x:Int)==(y:Int))=(x==y):=fun x y=>by rw[Cg,Ca,Ca];omega
         rw[aQu,<-Bool.or_assoc];rw[show on.getD c 0=on[c] by simp[List.getD,hc],show on.getD ((c+1)%on.length) 0=on[(c+1)%on.length] by simp[List.getD,hm]];generalize (b0||EJ on c i j)=b1 at *;generalize on[c]=p at *;generalize on[(c+1)%on.length]=p' at *;have hA:=CX p i;have hB:=CX p' j;have hC:=CX p j;have hD:=CX p' i;generalize (p==i)=A at *;generalize (p'==j)=B at *;generalize (p==j)=C at *;generalize (p'==i)=D at *;refine aL ?_
         cases b1 with
         |true=>simp only[↓zP,zJ,seval,WM,mG];exact⟨trivial,rfl⟩
         |false=>
          cases A with
          |true=>
           cases B with
           |true=>simp only[↓zP,zJ,seval,WM,x9,x5,x6,e4,aB,eK,hc,jr,hgb,wj,nz,tm,hm,hA,hB,mG];exact⟨trivial,rfl⟩
           |false=>
            cases C with
            |true=>simp only[↓zP,zJ,seval,WM,x9,x5,x6,e4,aB,eK,hc,jr,hgb,wj,nz,tm,hm,hA,hB,hC,hD];exact⟨trivial,rfl⟩
            |false=>simp only[↓zP,zJ,seval,WM,x9,x5,x6,e4,aB,eK,hc,jr,hgb,wj,nz,tm,hm,hA,hB,hC];exact⟨trivial,rfl⟩
          |false=>
           cases C with
           |true=>simp only[↓zP,zJ,seval,WM,x9,x5,x6,e4,aB,eK,hc,jr,hgb,wj,nz,tm,hm,hA,hC,hD];exact⟨trivial,by simp⟩
           |false=>simp only[↓zP,zJ,seval,WM,x9,x5,x6,e4,aB,eK,hc,jr,hA,hC];exact⟨trivial,rfl⟩
       rintro f4 H4 PM ⟨rfl,WM⟩;refine Tx ?_;exact⟨trivial,WM⟩
     rintro f3 H3 oO ⟨rfl,Pn⟩;rw[Ay] at Pn;simp only[zM] at Pn;have hP:(S.any fun q=>EJ (L q) (L q).length i j)=PS S L i j:=rfl;rw[hP] at Pn;have w5:f3 5=.int .i64 i:=(by rw[oO 5 rfl];simp only[zB,seval];exact u5);have w6:f3 6=.int .i64 j:=(by rw[oO 6 rfl];simp only[zB,seval];exact e2);have w3:f3 3=v2:=(by rw[oO 3 rfl];simp only[zB,seval];exact sU);refine Tx ?_;apply hK;clear hK K;rw[aTj (by omega),<-Eb];generalize PO S L l.length i++FR S L i j=X at *
     cases hu:PS S L i j with
     |false=>rw[hu] at Pn;simp only[↓zP,zJ,seval,Pn];exact⟨EW,gn',v2,by rw[w3],ho2,SQ⟩
     |true=>
      rw[hu] at Pn;obtain⟨H5,z1,z2,z3,z4,z5⟩:=Has.push (.inr ho2) (ys:=[pC ((i:Int),(j:Int))]) (bytes:=16) rfl (by rw[Af,Aq,Bm];omega);have hpc:[AV.int .i64 (i:Int),.int .i64 (j:Int)]=pC ((i:Int),(j:Int)):=rfl;simp only[↓zP,zJ,seval,Pn,w3,w5,w6,hpc,zp];rw[eL];simp only[z1,cF,seval];refine⟨(z4 0 (by omega) (by rw[EW];simp)).trans EW,by omega,_,rfl,?_,fun h=>?_⟩
      . rw[Cx];exact .inr ⟨H3.next,rfl,by omega,z3⟩
      simp at h
   rintro f2 H2 eO ⟨EW,gn',v2,sU,ho2,SQ⟩;simp only[zM] at sU;refine Tx ?_;rw[bDc];exact⟨EW,gn',v2,by rw[sU],ho2,SQ⟩
 rintro f H1 hk ⟨g0,gn,v,hv,ho,hn⟩;simp only[zM] at hv;simp only[↓zP,seval,hv];refine Rx ?_;refine⟨v,0,rfl,?_⟩
 rcases ho with ⟨rfl,h2⟩|⟨k,rfl,_,_⟩
 . rw[h2];exact fun _=>rfl
 have cP:¬(PO S L l.length l.length).map pC=[]:=fun h=>by cases hn (by simpa using h)
 have MK:dR ((PO S L l.length l.length).map pC)=true:=eJ aGq _;intro nw;rw[show lB 2 ((PO S L l.length l.length).map pC)=.bB 0 2 ((PO S L l.length l.length).map pC) from if_neg cP];simp[fT,jH,MK,JD]
end Go.Proofs.YtgggiembljfnhaaGreatDoor
