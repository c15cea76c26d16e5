/-
  Part of the proof of statement 12
-/
import Derived.Test.YtgggiembljfnhaaGreatDoorB31
import Derived.Test.YtgggiembljfnhaaGreatDoorB32
import Derived.Test.YtgggiembljfnhaaGreatDoorB07
import Derived.Test.YtgggiembljfnhaaGreatDoorB23
import Derived.Test.YtgggiembljfnhaaGreatDoorB25
set_option linter.unusedVariables false
set_option linter.unusedSimpArgs false
set_option maxRecDepth 100000
set_option maxHeartbeats 16000000
namespace Go.Proofs.YtgggiembljfnhaaGreatDoor
open Go Go.Av Go.aP Go.uE
attribute [local congr] aT aI aL aH aX aQ aM aF aY
attribute [local irreducible] FC bS eF
theorem AL {q x:aP.V×Int}:∀{S:List (aP.V×Int)},x∈uG q S↔x=q\/x∈S
 |[]=>by simp[uG]
 |s::r=>by
  unfold uG;split
  . simp
  rw[Am,AL,Am];exact Zba
theorem VA {q:aP.V×Int}:∀{S:List (aP.V×Int)},(S.Pairwise fun a b=>iY a.1 b.1)->(∀s∈S,s.1≠q.1)->(uG q S).Pairwise fun a b=>iY a.1 b.1
 |[],_,_=>by simp[uG]
 |s::r,h,cQ=>by
  rw[Cl] at h;unfold uG
  cases hv:uD q.1 s.1 with
  |true=>
   have hq:=BI.1 hv;rw[if_pos rfl,Cl];refine⟨fun x hx=>?_,Cl.2 h⟩
   rcases Am.1 hx with rfl|hx
   . exact hq
   exact iY.trans hq (h.1 x hx)
  |false=>
   rw[if_neg (by decide),Cl]
   have hsq:iY s.1 q.1:=by
    rcases iY.total (cQ s Ar) with h1|h1
    . exact h1
    rw[BI.2 h1] at hv;cases hv
   refine⟨fun x hx=>?_,VA h.2 fun x hx=>cQ x (Au _ hx)⟩
   rcases AL.1 hx with rfl|hx
   . exact hsq
   exact h.1 x hx
structure GJ (l:List aP.V) (K:List (aP.V×Int)):Prop where
 Rh:K.Pairwise fun a b=>iY a.1 b.1
 is:∀q∈K,pS (fun i=>l.getD i V0) l.length q.1 q.2
theorem GJ.nodup {l:List aP.V} {K:List (aP.V×Int)} (h:GJ l K):K.Nodup:=Hb (fun {a b} (h:iY a.1 b.1) (e:a=b)=>iY.j9 b.1 (by rw[e] at h;exact h)) h.Rh
theorem GJ.len {l:List aP.V} {K:List (aP.V×Int)} (h:GJ l K) (hl:l.length<=64):K.length<2^20:=by have h1:=BQ (N:=l.length) (p:=fun i=>l.getD i V0) h.nodup h.is;have h2:l.length*(l.length*(l.length*2))<=64*(64*(64*2)):=Bt hl (Bt hl (Bt hl (Ab _)));omega
theorem GJ.ins {l:List aP.V} {K:List (aP.V×Int)} (h:GJ l K) {q:aP.V×Int} (hq:pS (fun i=>l.getD i V0) l.length q.1 q.2) (hk:(K.any fun x=>decide (x.1=q.1))=false):GJ l (uG q K) where
 Rh:=VA h.Rh fun s hs e=>by rw[Da] at hk;exact hk s hs (by simpa using e)
 is:=fun x hx=>by
  rcases AL.1 hx with rfl|hx
  . exact hq
  exact h.is x hx
theorem GJ.known {l:List aP.V} {K:List (aP.V×Int)} (h:GJ l K) {q:aP.V×Int} (hk:(K.any fun x=>decide (x.1=q.1))=true) (hq:pS (fun i=>l.getD i V0) l.length q.1 q.2):q∈K:=by
 obtain⟨x,hx,e⟩:=Bz.1 hk;have e:=Cu e;have RC:=h.is x hx;rw[e] at RC;have :=RC.uniq hq;have :x=q:=Prod.ext e this
 rwa [<-this]
def EE (L:aP.V×Int->List Nat) (H:aA) (v:AV) (K:List (aP.V×Int)):Prop:=
 (K=[]/\v=.aO)\/(K≠[]/\∃k,v=.bD (k+2) 5 (K.map (dW L))/\k<H.next/\H.get k=some .tok)
theorem EE.dH {L:aP.V×Int->List Nat} {H H':aA} {v:AV} {K:List (aP.V×Int)} (h:EE L H v K) (hn:H.next<=H'.next) (hk:∀k,k<H.next->H.get k=some .tok->H'.get k=some .tok):EE L H' v K:=by
 rcases h with h|⟨h,k,rfl,h1,h2⟩
 . exact .inl h
 exact .inr ⟨h,k,rfl,by omega,hk k h1 h2⟩
theorem EE.sound {L:aP.V×Int->List Nat} {H:aA} {v:AV} {K:List (aP.V×Int)} (h:EE L H v K) {f:FuncId} {rest:List AV} {H1 H2:aA} {out:Out} (hS:Sg f (yT L K::rest) H1 out H2):Sg f (v::rest) H1 out H2:=by
 rcases h with ⟨h1,rfl⟩|⟨h1,k,rfl,_,_⟩
 . rcases jM L K with ⟨_,e⟩|⟨h2,_⟩
   . rwa [e] at hS
   exact absurd h1 h2
 rcases jM L K with ⟨h2,_⟩|⟨_,e⟩
 . exact absurd h2 h1
 rw[e] at hS;exact hS.DB (k+2)
theorem EE.aVe {L:aP.V×Int->List Nat} {f:FuncId} {args:List AV} (ha:bO args=true) {K:List (aP.V×Int)} (h:∃out H',(∃v,out=.ret v/\EE L H' v K)/\Sg f args ⟨0,.nil⟩ out H') (H:aA):Sg f args H (.ret (yT L K)) H:=by
 obtain⟨out,H',⟨v,rfl,hr⟩,hS⟩:=h;refine hS.frame eZ ha (tk:=none) (fun k' rR=>by cases rR) (n:=0) H ?_
 rcases hr with ⟨rfl,rfl⟩|⟨h1,k,rfl,_,_⟩
 . rfl
 have hf:dT (K.map (dW L))=true:=eK (qC L) _
 rcases jM L K with ⟨h2,_⟩|⟨_,e⟩
 . exact absurd h2 h1
 rw[e];simp[Out.av,fG,fA,hf,IZ]
theorem Lh {l:List aP.V} {M:Nat} (hl:∀v∈l,cG M v) (hM:M<=2^18) (hlen:l.length<=64) {S:List (aP.V×Int)} {L:aP.V×Int->List Nat} (hS:xF l S L):
 ∃out H',(∃v,out=.ret v/\EE L H' v S)/\Sg 192 [.bD 0 3 (cH l)] ⟨0,.nil⟩ out H':=by
 have Qz:Nat.blt 0 2=true:=rfl;refine cZ fit aKj (Ai rfl) ?_;unfold aDl;dsimp only;have cY:∀k (h:k<l.length),l.getD k V0=l[k]:=fun k h=>by simp[List.getD,h]
 refine Tz ?_;refine bP [3] (fun i vs H'=>cJ H'/\∃v K,vs=[v]/\EE L H' v K/\GJ l K/\jD (fun i=>l.getD i V0) l.length i 0 0 K) 0 l.length (Az _) (by omega) (by decide) ?_ ?_ ?_ ?_ ?_
 . exact zq
 . refine⟨.nil 0,.aO,[],by simp only[sm,zB,seval],.inl ⟨rfl,rfl⟩,⟨.nil,fun q hq=>by cases hq⟩,.zero⟩
 . rintro i f H1 h0 hi hk e1 ⟨hf,w,K,hv,hR,hK,hT⟩;have f0:f 0=.bD 0 3 (cH l):=hk 0 rfl;simp only[↓zP,zG,seval,e1,f0,aU];exact Zae
 . rintro i f H1 h0 hi hk e1 ⟨hf,w,K,hv,hR,hK,hT⟩;simp only[zM] at hv;have f0:f 0=.bD 0 3 (cH l):=hk 0 rfl;have w1:IntKind.i64.wrap ((i:Int)+1)=((i+1:Nat):Int):=by rw[wrap_i64 (by omega) (by omega)];rfl
   refine aJ ?_;simp only[↓zP,zJ,seval,e1,w1];refine bP [3] (fun j vs H'=>cJ H'/\∃v K,vs=[v]/\EE L H' v K/\GJ l K/\jD (fun i=>l.getD i V0) l.length i j 0 K) (i+1) l.length (by omega) (by omega) (by decide) ?_ ?_ ?_ ?_ ?_
   . exact zq
   . exact⟨hf,w,K,by simp only[sm,zB,seval,hv],hR,hK,hT.j0⟩
   . rintro j f2 H2 h0 hj eP e2 ⟨FY,w2,K2,sY,hR2,bW,hT2⟩;have k0:f2 0=.bD 0 3 (cH l):=Zbl;simp only[↓zP,zG,seval,e2,k0,aU];exact Zae
   . rintro j f2 H2 yL hj eP e2 ⟨FY,w2,K2,sY,hR2,bW,hT2⟩;simp only[zM] at sY;have k0:f2 0=.bD 0 3 (cH l):=Zbl;have k4:f2 4=.int .i64 i:=Zbj;have wj2:IntKind.i64.wrap ((j:Int)+1)=((j+1:Nat):Int):=(by rw[wrap_i64 (by omega) (by omega)];rfl);refine aJ ?_;simp only[↓zP,zJ,seval,e2,wj2];refine bP [3] (fun k vs H'=>cJ H'/\∃v K,vs=[v]/\EE L H' v K/\GJ l K/\jD (fun i=>l.getD i V0) l.length i j k K) (j+1) l.length (by omega) (by omega) (by decide) ?_ ?_ ?_ ?_ ?_
     . exact zq
     . exact⟨FY,w2,K2,by simp only[sm,zB,seval,sY],hR2,bW,hT2.k0⟩
     . rintro k f3 H3 h0 tQ oT e3 ⟨hf3,w3,K3,Pr,hR3,Ls,hT3⟩;have u0:f3 0=.bD 0 3 (cH l):=(by rw[oT 0 rfl];simp only[zB,seval];exact k0);simp only[↓zP,zG,seval,e3,u0,aU];exact Zae
     . rintro k f3 H3 wo tQ oT e3 ⟨hf3,w3,K3,Pr,hR3,Ls,hT3⟩;simp only[zM] at Pr;have u0:f3 0=.bD 0 3 (cH l):=(by rw[oT 0 rfl];simp only[zB,seval];exact k0);have u4:f3 4=.int .i64 i:=(by rw[oT 4 rfl];simp only[zB,seval];exact k4);have u5:f3 5=.int .i64 j:=(by rw[oT 5 rfl];simp only[zB,seval];exact e2);have MN:i<l.length:=(by omega);have MP:j<l.length:=(by omega);have gi:=dD MN;have gj:=dD MP;have gk:=dD tQ;have ni:=hl _ (Ac MN);have nj:=hl _ (Ac MP);have nk:=hl _ (Ac tQ);have hnm:=Yb ni nj nk hM;have hMM:(M+M)*(M+M)<=2^19*2^19:=Bt (by omega) (by omega);have hBM:2*((M+M)*(M+M))*M<=2^39*2^18:=Bt (by omega) hM;have aVz:cG (2*((M+M)*(M+M))) (gL (aP.bC (aP.sub l[j] l[i]) (aP.sub l[k] l[i]))):=sZ (oB (gM nj ni) (gM nk ni))
       have nS:fC (fun i=>l.getD i V0) i j k=(gL (aP.bC (aP.sub l[j] l[i]) (aP.sub l[k] l[i])),aP.dot (gL (aP.bC (aP.sub l[j] l[i]) (aP.sub l[k] l[i]))) l[i]):=by simp only[fC,vec,cY i MN,cY j MP,cY k tQ]
       have hcd:∀q,q∈jB (fun i=>l.getD i V0) i j k↔(fC (fun i=>l.getD i V0) i j k).1≠V0/\(q=fC (fun i=>l.getD i V0) i j k\/q=(aP.neg (fC (fun i=>l.getD i V0) i j k).1,-(fC (fun i=>l.getD i V0) i j k).2)):=fun q=>by
        unfold jB;by_cases hz:(fC (fun i=>l.getD i V0) i j k).1=V0
        . rw[if_pos hz];exact⟨fun h=>(by cases h),fun h=>absurd hz h.1⟩
        rw[if_neg hz,Am,Cc];exact⟨fun h=>⟨hz,h⟩,fun h=>h.2⟩
       rw[nS] at hcd;generalize gL (aP.bC (aP.sub l[j] l[i]) (aP.sub l[k] l[i]))=n0 at *;generalize hBv:2*((M+M)*(M+M))=B at *;have hp:∀k (h:k<l.length),l.getD k V0=l[k]:=cY;refine aJ ?_;refine bQ ?_;refine jV 1 (by decide) hf3.at1 fun H4 n4 e4=>?_;simp only[↓zP,zJ,seval,zD,u0,u4,u5,e3,aB,aU,MN,MP,tQ,gi,gj,gk,oL (aV l[i]),oL (aV l[j]),oL (aV l[k])];refine fP (hnm _) ?_;simp only[↓zP,zJ,seval,zD,oL (aV n0)];refine bR ?_;generalize hX:(H4.set H3.next _).set H3.next _=H5;have y7:H5.get H3.next=some (.cells (cU n0) false):=Zai;have yn:H3.next<H5.next:=by subst hX;simp only[aA.aW];omega
       have yf:cJ H5:=fun j hj=>by subst hX;simp only[aA.aW] at hj;rw[aA.aC,if_neg (by omega),aA.aC,if_neg (by omega),e4];exact hf3 j (by omega)
       have yr:EE L H5 w3 K3:=by refine hR3.dH (by omega) fun k h1 h2=>?_;subst hX;rw[aA.aC,if_neg (by omega),aA.aC,if_neg (by omega),e4];exact h2
       clear hX;refine Ty ?_
       let nn:Nat->aP.V:=fun t=>if t=1 then aP.neg n0 else n0
       have bFx:∀t,cG B (nn t):=fun t=>by
        simp only[nn];split
        . exact IH aVz
        exact aVz
       have bFy:∀t,nn t=V0↔n0=V0:=fun t=>by
        simp only[nn];split
        . constructor
          . intro h;exact Ew fun hc=>TF hc h
          intro h;rw[h];rfl
        exact Iff.rfl
       have aVk:∀t,t<2->n0≠V0->(nn t,aP.dot (nn t) l[i])∈jB (fun i=>l.getD i V0) i j k:=fun t ht hz=>by
        rw[hcd];refine⟨hz,?_⟩
        match t,ht with
        |0,_=>exact .inl rfl
        |1,_=>exact .inr (by simp only[nn,if_true,pG])
       refine bP [3] (fun t vs H'=>H'.get H3.next=some (.cells (cU (nn t)) false)/\H3.next<H'.next/\cJ H'/\∃v K',vs=[v]/\EE L H' v K'/\GJ l K'/\(∀q∈K3,q∈K')/\∀u,u<t->n0≠V0->pS (fun i=>l.getD i V0) l.length (nn u) (aP.dot (nn u) l[i])->(nn u,aP.dot (nn u) l[i])∈K') 0 2 (by decide) (by decide) (by decide) ?_ ?_ ?_ ?_ ?_
       . exact zq
       . exact⟨y7,yn,yf,w3,K3,by simp only[sm,zB,seval,Pr],yr,Ls,fun q hq=>hq,fun u hu=>absurd hu (Ap _)⟩
       . rintro t f6 H6 h0 ht hk6 e6 ⟨g7,gn,gf,w6,K6,hv6,hR6,hK6,FG,wD⟩;simp only[↓zP,zG,seval,e6];exact Zae
       . rintro t f6 H6 h0 ht hk6 e6 ⟨g7,gn,gf,w6,K6,hv6,hR6,hK6,FG,wD⟩;simp only[zM] at hv6;have v0:f6 0=.bD 0 3 (cH l):=(by rw[hk6 0 rfl];simp only[zB,seval];exact u0);have v4:f6 4=.int .i64 i:=(by rw[hk6 4 rfl];simp only[zB,seval];exact u4);have v7:f6 7=.ref H3.next 0:=hk6 7 rfl;have hnB:=bFx t;have hnV:=bFy t;have bEw:=aVk t ht
         have xh:nn (t+1)=aP.sub V0 (nn t):=by
          match t,ht with
          |0,_=>simp[nn,aP.neg,aP.sub,V0]
          |1,_=>simp[nn,aP.neg,aP.sub,V0]
         have hd:=qJ hnB ni (by omega)
         have aSc:∀K':List (aP.V×Int),(∀q∈K6,q∈K')->(n0≠V0->pS (fun i=>l.getD i V0) l.length (nn t) (aP.dot (nn t) l[i])->(nn t,aP.dot (nn t) l[i])∈K')->∀u,u<t+1->n0≠V0->pS (fun i=>l.getD i V0) l.length (nn u) (aP.dot (nn u) l[i])->(nn u,aP.dot (nn u) l[i])∈K':=fun K' h1 h2 u hu hz hF=>by
          by_cases e:u=t
          . subst e;exact h2 hz hF
          exact h1 _ (wD u (by omega) hz hF)
         rw[xh];have ex:=fun H=>Vj 0 hl (by omega) (n:=nn t) (d:=aP.dot (nn t) l[i]) hnB (by omega) H
         have hF:n0≠V0->(CZ l (nn t,aP.dot (nn t) l[i])=true↔pS (fun i=>l.getD i V0) l.length (nn t) (aP.dot (nn t) l[i])):=fun hz=>by
          rw[IN];constructor
          . rintro⟨h1,h2⟩;exact xS MN MP tQ (bEw hz) h1 h2
          intro h;exact⟨h.le,h.lt⟩
         have kn:=fun H=>hR6.sound (ml L K6 (by have :=hK6.len hlen;omega) (nn t) H);have hsb:=wY (a:=V0) (b:=nn t) (A:=0) (B:=B) ⟨by decide,by decide,by decide⟩ hnB (by omega);generalize nn t=n at *;generalize Zg:aP.dot n l[i]=d at *;refine aJ ?_;refine bQ ?_;refine Dz ?_;simp only[↓zP,zJ,seval,zD,v0,v4,v7,g7,aB,aU,MN,gi,oL (aV l[i]),oL (aV n)];refine fP (hd _) ?_;simp only[↓zP,zJ,seval,zD];refine fF ?_;simp only[↓zP,zJ,seval,hv6,v7,g7,oL (aV n)];refine bY (kn _) ?_;refine Tz ?_;refine fF ?_;simp only[↓zP,zJ,seval,v7,g7,oL (aV n),UX];refine bR ?_;refine aN fun K7 hK7=>?_
         have fin:∀(f7:dE) (H7:aA) (w':AV) (K':List (aP.V×Int)),f7 3=w'->EE L H7 w' K'->f7 7=.ref H3.next 0->H7.get H3.next=some (.cells (cU n) false)->H3.next<H7.next->cJ H7->GJ l K'->(∀q∈K6,q∈K')->(n0≠V0->pS (fun i=>l.getD i V0) l.length n d->(n,d)∈K')->K7 f7 [] H7:=by
          intro f7 H7 w' K' a3 ar a7 ag an af aK as1 as2;apply hK7;clear hK7 K7;simp only[↓zP,zJ,seval,a7,ag,oL (aV n)];rw[show [AV.int .i64 0,.int .i64 0,.int .i64 0]=cU V0 from rfl];refine bY (hsb _) ?_;simp only[↓zP,zJ,seval,a7,ag,oL (aV n),oL (aV (aP.sub V0 n))]
          refine⟨trivial,an,af.set an _,w',K',by rw[a3],ar.dH (by simp) (fun k h1 h2=>by
           rw[aA.aC];split
           . rename_i e;subst e;rw[ag] at h2;cases h2
           exact h2),aK,fun q hq=>as1 q (FG q hq),aSc K' as1 as2⟩
         cases xc:K6.any fun q=>decide (q.1=n) with
         |true=>refine Ty ?_;exact fin _ H6 w6 K6 (by simp only[zB,seval];exact hv6) hR6 Za5 g7 gn gf hK6 (fun q hq=>hq) (fun _ hFq=>hK6.known (q:=(n,d)) xc hFq)
         |false=>
          by_cases hz:n=V0
          . have d1:=Aj hz;simp only[↓zP,zJ,seval,d1];exact fin _ H6 w6 K6 (by simp only[zB,seval];exact hv6) hR6 Za5 g7 gn gf hK6 (fun q hq=>hq) (fun h=>absurd (hnV.1 hz) h)
          have d1:=Ag hz;have Pu:n0≠V0:=fun h=>hz (hnV.2 h);simp only[↓zP,zJ,seval,d1,v0,v7,g7,oL (aV n)];refine bY (ex _) ?_
          cases SZ:CZ l (n,d) with
          |false=>
           refine Tz ?_
           exact fin _ H6 w6 K6 (by simp only[zB,seval];exact hv6) hR6 Za5 g7 gn gf hK6 (fun q hq=>hq) (fun _ hFq=>by
            have :=(hF Pu).2 hFq
            rw[SZ] at this;cases this)
          |true=>
           have hFq:=(hF Pu).1 SZ;have hqS:(n,d)∈S:=(hS.fl.mem (n,d)).2 hFq;have bGg:=fun H=>Vp 0 hl hM hlen (d:=d) hnB (by omega) (hS.po (n,d) hqS) H;have bFl:=fun H=>hR6.sound (YY L K6 (hK6.len hlen) (n,d) H);refine Tz ?_;refine Dz ?_;simp only[↓zP,zJ,seval,zD,hv6,v0,v7,g7,oL (aV n)];refine fP (bGg _) ?_;simp only[↓zP,zJ,seval,zD,cU];rw[show [AV.int .i64 n.x,.int .i64 n.y,.int .i64 n.z,.int .i64 d,.bD 0 1 (yP (L (n,d)))]=dW L (n,d) from rfl];refine iQ (by decide) ZaN (bFl _) (by simp) (fun x hx hp=>?_) ?_
           . have hx7:x.2=H3.next:=by
              simp only[Am,Bj,Df] at hx
              rcases hx with rfl|rfl<;>rfl
             rw[hx7,aA.aG,if_neg (by omega)]
           simp only[↓zP,zJ,seval,zD];exact fin _ (H6.alloc .tok) _ (uG (n,d) K6) zq (.inr ⟨fun h=>by have :=Ny (n,d) K6;rw[h] at this;simp at this,H6.next,rfl,by simp,by rw[aA.aG,if_pos rfl]⟩) Za5 (by rw[aA.aG,if_neg (by omega)];exact g7) Zaf (gf.alloc _) (hK6.ins hFq xc) (fun q hq=>AL.2 (.inr hq)) (fun _ _=>AL.2 (.inl rfl))
       rintro f6 H6 hk6 ⟨g7,gn,gf,w6,K6,hv6,hR6,hK6,FG,wD⟩;refine Tx ?_;refine⟨gf,w6,K6,hv6,hR6,hK6,hT3.step FG fun q hq hF=>?_⟩;obtain⟨hz,h⟩:=(hcd q).1 hq
       rcases h with rfl|rfl
       . exact wD 0 (by decide) hz hF
       have :=wD 1 (by decide) hz (by simp only[nn,if_true,pG];exact hF);simpa only[nn,if_true,pG] using this
     rintro f3 H3 oT ⟨hf3,w3,K3,Pr,hR3,Ls,hT3⟩;refine Tx ?_;exact⟨hf3,w3,K3,Pr,hR3,Ls,hT3.kN⟩
   rintro f2 H2 eP ⟨FY,w2,K2,sY,hR2,bW,hT2⟩;refine Tx ?_;exact⟨FY,w2,K2,sY,hR2,bW,hT2.jN⟩
 rintro f H1 hk ⟨hf,w,K,hv,hR,hK,hT⟩;simp only[zM] at hv;have :K=S:=pB.uniq ⟨hT.all hK.is,hK.Rh⟩ hS.fl;subst this;simp only[↓zP,seval,hv];refine Rx ?_;exact⟨w,rfl,hR⟩
theorem Ol (tag:Nat) {l:List aP.V} {M:Nat} (hl:∀v∈l,cG M v) (hM:M<=2^18) (hlen:l.length<=64) {S:List (aP.V×Int)} {L:aP.V×Int->List Nat} (hS:xF l S L) (H:aA):
 Sg 192 [.bD tag 3 (cH l)] H (.ret (yT L S)) H:=(EE.aVe (by simp only[sf,dL (show Nat.blt 0 2=true from rfl)]) (Lh hl hM hlen hS) H).DB tag
theorem Vk (tag:Nat) {l:List aP.V} {M:Nat} (hl:∀v∈l,cG M v) (hM:M<=2^18) (hlen:l.length<=64) {S:List (aP.V×Int)} {L:aP.V×Int->List Nat} (hS:xF l S L) (cQ:S≠[]) (H:aA):
 Sg 192 [.bD tag 3 (cH l)] H (.ret (.bD (H.next+2) 5 (S.map (dW L)))) (H.alloc .tok):=by
 refine(mG eZ (by simp only[sf,dL (show Nat.blt 0 2=true from rfl)]) (by simpa using cQ) (eK (qC L) S) ?_ H).DB tag;obtain⟨out,H',⟨v,h1,h2⟩,hS'⟩:=Lh hl hM hlen hS;refine⟨out,H',⟨v,h1,?_⟩,hS'⟩
 rcases h2 with ⟨h,_⟩|⟨_,k,e,h3,h4⟩
 . exact absurd h cQ
 exact .inr ⟨k,e,h3,h4⟩
def wH (x:aP.V):List aP.V->List aP.V
 |[]=>[x]
 |o::r=>if uD x o then x::o::r else if o=x then o::r else o::wH x r
theorem Su {x:aP.V}:∀{S:List aP.V} {i:Nat},(∀s∈S.take i,uD x s=false/\s≠x)->wH x S=S.take i++wH x (S.drop i)
 |[],i,_=>by simp
 |s::r,0,_=>by simp
 |s::r,i+1,h=>by have h1:=h s (by simp);have ih:=Su (x:=x) (S:=r) (i:=i) fun y hy=>h y (by simp[hy]);rw[wH,h1.1,if_neg (by decide),if_neg h1.2,Dp,Iu,Er,<-ih]
theorem VB (x:aP.V):∀S:List aP.V,(wH x S).length<=S.length+1
 |[]=>Ab _
 |s::r=>by
  have :=VB x r;unfold wH;split
  . simp
  split
  . simp
  simp;omega
theorem Nz {x y:aP.V}:∀{S:List aP.V},y∈wH x S↔y=x\/y∈S
 |[]=>by simp[wH]
 |s::r=>by
  unfold wH;split
  . simp
  split
  . rename_i h;subst h;simp
  rw[Am,Nz,Am];exact Zba
theorem VC {x:aP.V}:∀{S:List aP.V},S.Pairwise iY->(wH x S).Pairwise iY
 |[],_=>by simp[wH]
 |s::r,h=>by
  have h':=Cl.1 h;unfold wH
  cases hv:uD x s with
  |true=>
   have hq:=BI.1 hv;rw[if_pos rfl,Cl];refine⟨fun y hy=>?_,h⟩
   rcases Am.1 hy with rfl|hy
   . exact hq
   exact iY.trans hq (h'.1 y hy)
  |false=>
   rw[if_neg (by decide)];by_cases he:s=x
   . rw[if_pos he];exact h
   rw[if_neg he,Cl]
   have hsq:iY s x:=by
    rcases iY.total he with h1|h1
    . exact h1
    rw[BI.2 h1] at hv;cases hv
   refine⟨fun y hy=>?_,VC h'.2⟩
   rcases Nz.1 hy with rfl|hy
   . exact hsq
   exact h'.1 y hy
theorem aBk {l C:List aP.V} (hlen:l.length<=64) (hC:Ord l C) (H:aA):
 Sg 191 [.bD 0 3 (cH l)] H (.ret (lG 3 (cH C))) H:=by
 have Qz:Nat.blt 0 2=true:=rfl;refine eC fit eZ aKi (Ai rfl) (by simp only[sf,dL Qz]) ?_ H;unfold aDk;dsimp only;refine Tz ?_;refine bP [3] (fun i vs H'=>∃v X,vs=[v]/\Own H' 3 v (cH X)/\(X=[]->v=.aO)/\X.Pairwise iY/\(∀y,y∈X↔y∈l.take i)/\X.length<=i) 0 l.length (Az _) (by omega) (by decide) ?_ ?_ ?_ ?_ ?_
 . exact zq
 . exact⟨.aO,[],by simp only[sm,zB,seval],.nil _ _,fun _=>rfl,.nil,fun y=>by simp,Ab _⟩
 . rintro i f H1 h0 hi hk e1 ⟨v,X,hv,ho,hn,hs,hm,hl⟩;have f0:f 0=.bD 0 3 (cH l):=hk 0 rfl;simp only[↓zP,zG,seval,e1,f0,aU];exact Zae
 . rintro i f H1 h0 hi hk e1 ⟨v,X,hv,ho,hn,hs,hm,hl⟩;simp only[zM] at hv;have f0:f 0=.bD 0 3 (cH l):=hk 0 rfl;have EX:(cH l).getD i []=cU l[i]:=gK hi;have pT:l.take (i+1)=l.take i++[l[i]]:=by rw[An];simp[hi]
   rw[pT];generalize l[i]=x at *;have dx:(cU x).length=3:=rfl;refine aJ ?_;refine aN fun K hK=>?_;refine Tz ?_;apply hK;clear hK K;refine aN fun K hK=>?_;refine Tz ?_;apply hK;clear hK K;refine aN fun K hK=>?_;refine Ty ?_
   obtain⟨tg,hX3⟩:∃tg,∀j,j<X.length->f 3=.bD tg 3 (cH X):=by
    rcases ho with ⟨_,h2⟩|⟨k,rR,_,_⟩
    . exact⟨0,fun j h=>by rw[show X=[] by simpa [cH] using h2] at h;exact absurd h (Ap _)⟩
    exact⟨k+2,fun j h=>by rw[hv,rR]⟩
   have push:∀(HA:aA) (w:AV) (Y:List aP.V) (y:aP.V),Own HA 3 w (cH Y)->Y.length<2^21->
    ∃H5,dR HA 3 24 false w [cU y]=some (.bD (HA.next+2) 3 (cH (Y++[y])),H5)/\Own H5 3 (.bD (HA.next+2) 3 (cH (Y++[y]))) (cH (Y++[y])):=fun HA w Y y ho hY=>by
    obtain⟨H5,z1,z2,z3,z4,z5⟩:=Has.push (.inr ho) (ys:=[cU y]) (bytes:=24) rfl (by simp only[cH,Af,As,Bm];omega);have e:cH (Y++[y])=cH Y++[cU y]:=(by simp only[cH,Ct,Cb,Fo]);exact⟨H5,by rw[z1,e],by rw[e];exact .inr ⟨HA.next,rfl,by omega,z3⟩⟩
   refine bP [5,6] (fun k vs H'=>∃w Y put,vs=[w,.bool put]/\Own H' 3 w (cH Y)/\(Y=[]->w=.aO)/\Y.length<=k+1/\(if put then Y++X.drop k=wH x X/\∀o∈X.drop k,o≠x else Y=X.take k/\∀s∈X.take k,uD x s=false/\s≠x)) 0 X.length (Az _) (by omega) (by decide) ?_ ?_ ?_ ?_ ?_
   . exact zq
   . exact⟨.aO,[],false,by simp only[sm,zB,seval],.nil _ _,fun _=>rfl,by simp,by simp⟩
   . rintro k g H2 Nl rR wz e2 ⟨w,Y,put,hw,hoY,hnY,hlY,hp⟩;have g3:g 3=v:=by rw[wz 3 rfl];simp only[zB,seval];exact hv
     rcases ho with ⟨h1,h2⟩|⟨k',h1,_,_⟩
     . have hX0:X=[]:=(by simpa [cH] using h2);subst hX0;simp only[↓zP,zG,seval,e2,g3,h1];exact⟨trivial,trivial,Bn AV.bool (Bs.2 (by simp at rR;simp[rR]))⟩
     simp only[↓zP,zG,seval,e2,g3,h1,aU];exact Zae
   . rintro k g H2 Nl rR wz e2 ⟨w,Y,put,hw,hoY,hnY,hlY,hp⟩;simp only[zM] at hw;have g0:g 0=.bD 0 3 (cH l):=(by rw[wz 0 rfl];simp only[zB,seval];exact f0);have g4:g 4=.int .i64 i:=(by rw[wz 4 rfl];simp only[zB,seval];exact e1);have g3:g 3=.bD tg 3 (cH X):=(by rw[wz 3 rfl];simp only[zB,seval];exact hX3 k rR);have Zk:(cH X).getD k []=cU X[k]:=gK rR;have dk:(cU X[k]).length=3:=rfl;have hlX:(cH X).length=X.length:=aU _;have FB:(cH l).length=l.length:=aU _;have htx:(cU x).take 3=cU x:=rfl;have aFp:(cU X[k]).take 3=cU X[k]:=rfl;have hls:=Rc x X[k];have hXs:X.length<=64:=(by omega);have hdr:X.drop k=X[k]::X.drop (k+1):=Dk rR;have pT:X.take (k+1)=X.take k++[X[k]]:=by rw[An];simp[rR]
     have hDs:∀d∈X.drop (k+1),iY X[k] d:=by have :=hs.drop (i:=k);rw[hdr] at this;exact(Cl.1 this).1
     have hnp:(∀s∈X.take k,uD x s=false/\s≠x)->wH x X=X.take k++wH x (X[k]::X.drop (k+1)):=fun h=>by
      have :=Su h
      rwa [hdr] at this
     rw[hdr] at hp;rw[pT];have hTl:(X.take k).length<=k:=(by rw[Cz];exact Nat.min_le_left _ _);generalize X[k]=o at *;generalize X.take k=T at *;generalize X.drop (k+1)=D at *;refine aJ ?_;refine bQ ?_;refine Dz ?_;simp only[↓zP,zJ,seval,zD,g0,g3,g4,e2,aB,hlX,FB,hi,rR,EX,Zk,dx,dk,htx,aFp];refine fP (hls _) ?_;simp only[↓zP,zJ,seval,zD];refine bR ?_;refine aN fun K1 hK1=>?_
     have key:∀(f':dE) (HA:aA) (w:AV) (Y:List aP.V) (Lz:Bool),f' 5=w->f' 6=.bool Lz->f' 0=.bD 0 3 (cH l)->f' 3=.bD tg 3 (cH X)->f' 4=.int .i64 i->f' 7=.int .i64 k->Own HA 3 w (cH Y)->(Y=[]->w=.aO)->Y.length<=k+1->
      (if Lz then((o≠x/\Y++o::D=wH x X)\/(o=x/\Y++D=wH x X))/\∀d∈D,d≠x else Y=T/\∀s∈T++[o],uD x s=false/\s≠x)->K1 f' [] HA:=by
      intro f' HA w Y Lz v5 v6 v0 v3 v4 v7 hY hYn hYl eW;apply hK1;clear hK1 K1;refine bQ ?_;refine Dz ?_;simp only[↓zP,zJ,seval,zD,v0,v3,v4,v7,aB,hlX,FB,hi,rR,EX,Zk,dx,dk,htx,aFp,nG];refine bR ?_;by_cases hox:o=x
      . cases Lz with
        |false=>simp only[Bb,Bp] at eW;exact absurd hox (eW.2 o (by simp)).2
        |true=>
         simp only[if_true] at eW;simp only[↓zP,zJ,seval,Aj hox];refine⟨w,Y,true,by simp only[seval,v5,v6],hY,hYn,by omega,?_⟩;simp only[if_true]
         rcases eW.1 with h|h
         . exact absurd hox h.1
         exact⟨h.2,eW.2⟩
      obtain⟨H5,z1,z2⟩:=push HA w Y o hY (by omega);simp only[↓zP,zJ,seval,Ag hox,v5,v3,v7,aB,hlX,rR,Zk,dk,oL dk];rw[eL];simp only[z1,cE,seval];refine⟨_,Y++[o],Lz,by simp only[seval,v6],z2,fun h=>by simp at h,by simp;omega,?_⟩
      cases Lz with
      |true=>
       simp only[if_true] at eW ⊢
       rcases eW.1 with h|h
       . exact⟨by rw[<-h.2];simp,eW.2⟩
       exact absurd h.1 hox
      |false=>simp only[Bb,Bp] at eW ⊢;rw[eW.1];exact⟨rfl,eW.2⟩
     clear hK1;refine aN fun K2 bW=>?_;refine Dz ?_
     cases put with
     |true=>
      simp only[if_true] at hp;simp only[↓zP,zJ,seval,zD,hw,mJ];apply bW;clear bW K2;refine Tz ?_
      exact key _ H2 w Y true (by simp only[zB,seval];exact hw.1) (by simp only[zB,seval];exact hw.2) (by simp only[zB,seval];exact g0) (by simp only[zB,seval];exact g3) (by simp only[zB,seval];exact g4) (by simp only[zB,seval];exact e2) hoY hnY hlY (by
       simp only[if_true]
       exact⟨.inl ⟨hp.2 o (by simp),hp.1⟩,fun d hd=>hp.2 d (by simp[hd])⟩)
     |false=>
      simp only[Bb,Bp] at hp;obtain⟨hYT,bU⟩:=hp;have hX':=hnp bU
      cases hb:uD x o with
      |true=>have fJ:=BI.1 hb;obtain⟨H5,z1,z2⟩:=push H2 w Y x hoY (by omega);simp only[↓zP,zJ,seval,zD,hw];apply bW;clear bW K2;simp only[↓zP,zJ,seval,hw,g0,g4,aB,FB,hi,EX,dx,oL dx];rw[eL];simp only[z1,cE,seval];refine key _ H5 _ (Y++[x]) true zq zq (by simp only[zB,seval];exact g0) (by simp only[zB,seval];exact g3) (by simp only[zB,seval];exact g4) (by simp only[zB,seval];exact e2) z2 (fun h=>by simp at h) (by simp[hYT];omega) ?_;simp only[if_true];refine⟨.inl ⟨fun h=>iY.j9 _ (h▸fJ),?_⟩,fun d hd h=>iY.j9 _ (h▸iY.trans fJ (hDs d hd))⟩;rw[hX',hYT,wH,if_pos hb];simp
      |false=>
       by_cases qc:x=o
       . obtain⟨H5,z1,z2⟩:=push H2 w Y x hoY (by omega);simp only[↓zP,zJ,seval,zD,hw,g0,g3,g4,e2,aB,hlX,rR,Zk,dk,aFp,FB,hi,EX,dx,htx,nG,Aj qc];apply bW;clear bW K2;simp only[↓zP,zJ,seval,hw,g0,g4,aB,FB,hi,EX,dx,oL dx];rw[eL];simp only[z1,cE,seval];refine key _ H5 _ (Y++[x]) true zq zq (by simp only[zB,seval];exact g0) (by simp only[zB,seval];exact g3) (by simp only[zB,seval];exact g4) (by simp only[zB,seval];exact e2) z2 (fun h=>by simp at h) (by simp[hYT];omega) ?_;simp only[if_true];refine⟨.inr ⟨qc.symm,?_⟩,fun d hd h=>iY.j9 _ (h▸qc▸hDs d hd)⟩;rw[hX',hYT,wH,hb,if_neg (by decide),if_pos qc.symm,qc];simp
       simp only[↓zP,zJ,seval,zD,hw,g0,g3,g4,e2,aB,hlX,rR,Zk,dk,aFp,FB,hi,EX,dx,oL dx,nG,Ag qc];apply bW;clear bW K2;refine Tz ?_;refine key _ H2 w Y false (by simp only[zB,seval];exact hw.1) (by simp only[zB,seval];exact hw.2) (by simp only[zB,seval];exact g0) (by simp only[zB,seval];exact g3) (by simp only[zB,seval];exact g4) (by simp only[zB,seval];exact e2) hoY hnY hlY ?_;simp only[Bb,Bp];refine⟨hYT,fun s BX=>?_⟩
       rcases Ao.1 BX with h|h
       . exact bU s h
       rw[Cc] at h;subst h;exact⟨hb,fun h=>qc h.symm⟩
   rintro g H2 wz ⟨w,Y,put,hw,hoY,hnY,hlY,hp⟩;simp only[zM] at hw;have g0:g 0=.bD 0 3 (cH l):=(by rw[wz 0 rfl];simp only[zB,seval];exact f0);have g4:g 4=.int .i64 i:=(by rw[wz 4 rfl];simp only[zB,seval];exact e1);have FB:(cH l).length=l.length:=aU _;have htx:(cU x).take 3=cU x:=rfl;rw[Hi,Ch,Ax] at hp
   have done:∀(HA:aA) (w':AV) (Y':List aP.V),Own HA 3 w' (cH Y')->(Y'=[]->w'=.aO)->Y'=wH x X->∃v X',[w']=[v]/\Own HA 3 v (cH X')/\(X'=[]->v=.aO)/\X'.Pairwise iY/\(∀y,y∈X'↔y∈l.take i++[x])/\X'.length<=i+1:=fun HA w' Y' h1 h2 h3=>⟨w',Y',rfl,h1,h2,h3▸VC hs,fun y=>by rw[h3,Nz,Ao,Cc,hm];exact Or.comm,by have :=VB x X;rw[h3];omega⟩
   simp only[gE];apply hK;clear hK K
   cases put with
   |true=>simp only[if_true] at hp;simp only[↓zP,zJ,seval,hw];exact done H2 w Y hoY hnY hp.1
   |false=>simp only[Bb,Bp] at hp;obtain⟨H5,z1,z2⟩:=push H2 w Y x hoY (by omega);simp only[↓zP,zJ,seval,hw,g0,g4,aB,FB,hi,EX,dx,oL dx];rw[eL];simp only[z1,cE,seval];refine done H5 _ _ z2 (fun h=>by simp at h) ?_;have :=Su (x:=x) (S:=X) (i:=X.length) (by rw[Ax];exact hp.2);rw[this,Ax,Hi,hp.1];rfl
 rintro f H1 hk ⟨v,X,hv,ho,hn,hs,hm,hl⟩;simp only[zM] at hv;rw[Ax] at hm;have hXC:X=C:=Ord.uniq ⟨hs,hm⟩ hC;subst hXC;simp only[↓zP,seval,hv];refine Rx ?_;refine⟨v,0,rfl,?_⟩
 rcases ho with ⟨rfl,h2⟩|⟨k,rfl,_,_⟩
 . rw[show X=[] by simpa [cH] using h2];exact fun _=>rfl
 have cQ:X≠[]:=fun h=>by cases hn h
 have ML:dT (cH X)=true:=by have :=dL Qz X;simpa [AV.free] using this
 have BW:lG 3 (cH X)=.bD 0 3 (cH X):=by simp[lG,cH,cQ]
 intro nw;rw[BW];simp[fG,fA,ML,IZ]
theorem Yc (tag:Nat) {l C:List aP.V} (hlen:l.length<=64) (hC:Ord l C) (H:aA):
 Sg 191 [.bD tag 3 (cH l)] H (.ret (lG 3 (cH C))) H:=(aBk hlen hC H).DB tag
theorem Vr (H:aA):Sg 191 [.aO] H (.ret .aO) H:=by
 refine So aKi Zag ?_ H;unfold aDk;dsimp only;refine Tz ?_;refine bP [3] (fun i vs H'=>vs=[.aO]) 0 0 (Az _) (by omega) (by decide) ?_ ?_ ?_ ?_ ?_
 . exact zq
 . exact ZaN
 . rintro i f H1 h0 hi hk e1 hv;have f0:f 0=.aO:=hk 0 rfl;simp only[↓zP,zG,seval,e1,f0];exact Zae
 . rintro i f H1 h0 hi hk;exact absurd hi (Ap _)
 rintro f H1 hk hv;simp only[zM] at hv;simp only[↓zP,seval,hv];exact ZaQ
theorem Lg (H:aA):Sg 192 [.aO] H (.ret .aO) H:=by
 refine So aKj Zag ?_ H;unfold aDl;dsimp only;refine Tz ?_;refine bP [3] (fun i vs H'=>vs=[.aO]) 0 0 (Az _) (by omega) (by decide) ?_ ?_ ?_ ?_ ?_
 . exact zq
 . exact ZaN
 . rintro i f H1 h0 hi hk e1 hv;have f0:f 0=.aO:=hk 0 rfl;simp only[↓zP,zG,seval,e1,f0];exact Zae
 . rintro i f H1 h0 hi hk;exact absurd hi (Ap _)
 rintro f H1 hk hv;simp only[zM] at hv;simp only[↓zP,seval,hv];exact ZaQ
theorem aTy {l C:List aP.V} (hlen:l.length<2^30) (hC:Ord l C) {S:List (aP.V×Int)} {L:aP.V×Int->List Nat} (hS:xF C S L) (H:aA):
 Sg 144 [.bD 0 3 (cH l)] H (.ret (.agg [(jC l C S L).1,.int .i64 (jC l C S L).2])) H:=by
 have Qz:Nat.blt 0 2=true:=rfl;refine eC fit eZ aJy (Ai rfl) (by simp only[sf,dL Qz]) ?_ H;unfold aDa;dsimp only;refine bQ ?_;refine Tz ?_;refine fF ?_;simp only[↓zP,zJ,seval,aU];refine⟨fun h=>?_,fun hle=>?_⟩
 . have SP:64<l.length:=by omega
   refine Rx ?_;rw[show jC l C S L=(.aO,2) from if_pos SP];exact ZaE
 have SP:¬(64<l.length):=by omega
 refine fF ?_;refine Tz ?_;refine bP [] (fun i _ H=>(∀v∈l.take i,Zw v=true)/\H.get 0=some (.cells [.aO,.int .i64 0] false)/\1<=H.next) 0 l.length (Az _) (by omega) (by decide) ?_ ?_ ?_ ?_ ?_
 . exact zq
 . exact⟨fun v hv=>by simp at hv,by simp only[zI,seval],by simp only[zI,seval]⟩
 . rintro i f H1 h0 hi hk e1 ⟨gT,g0,hn⟩;have f0:f 0=.bD 0 3 (cH l):=hk 0 rfl;simp only[↓zP,zG,seval,e1,f0,aU];exact Zae
 . rintro i f H1 h0 hi hk e1 ⟨gT,g0,hn⟩;have f0:f 0=.bD 0 3 (cH l):=hk 0 rfl;have f2:f 2=.ref 0 0:=hk 2 rfl;have hg:=dD hi;have FE:=Ac hi
   have hx:∀v,v∈l.take (i+1)->v∈l.take i\/v=l[i]:=fun v hv=>by
    exact Zas
   generalize l[i]=x at *;refine aJ ?_;refine bQ ?_;refine Tz ?_;refine bR ?_;refine bP [] (fun j _ H=>(∀c,c<j->¬(x.at c>262144)/\¬(x.at c< -262144))/\H.get 0=some (.cells [.aO,.int .i64 0] false)/\1<=H.next) 0 3 (Az _) (by decide) (by decide) ?_ ?_ ?_ ?_ ?_
   . exact zq
   . exact⟨fun c hc=>absurd hc (Ap _),g0,hn⟩
   . rintro j g H2 Nl hj eP e2 hJ;simp only[↓zP,zG,seval,e2];exact Zae
   . rintro j g H2 Nl hj eP e2 ⟨hc,ET,JJ⟩;have u0:g 0=.bD 0 3 (cH l):=Zbl;have u2:g 2=.ref 0 0:=(by rw[eP 2 rfl];simp only[zB,seval];exact f2);have u3:g 3=.int .i64 i:=Zbk;have MO:j<=2:=by omega
     have Pk:(x.at j>262144\/x.at j< -262144)->l.all Zw=false:=fun h=>by rw[<-Ei,Aw];intro ha;have :=ha x FE;simp only[Zw,Aw,Ay,Bd] at this;have :=this j hj;omega
     refine aJ ?_;have hdl:1<=(List.drop j (cU x)).length:=(by rw[Fq,aV];omega);have hdg:(List.drop j (cU x)).getD 0 aD=.int .i64 (x.at j):=(by rw[<-kQ x hj];simp[List.getD]);refine aN fun K2 bW=>?_;by_cases c1:x.at j>262144
     . have d1:=Aj c1;simp only[↓zP,zJ,seval,e2,u0,u3,aB,aU,hi,hg,hj,hdl,hdg,d1];apply bW;clear bW K2;simp only[↓zP,zJ,seval,u2,ET];refine⟨rfl,_,by simp only[↓zP,zR,seval,u2];rfl,?_⟩;exact Zaw
     have d1:=Ag c1;by_cases c2:x.at j< -262144
     . have d2:=Aj c2;simp only[↓zP,zJ,seval,e2,u0,u3,aB,aU,hi,hg,hj,hdl,hdg,d1,d2];apply bW;clear bW K2;simp only[↓zP,zJ,seval,u2,ET];refine⟨rfl,_,by simp only[↓zP,zR,seval,u2];rfl,?_⟩;exact Zaw
     have d2:=Ag c2;simp only[↓zP,zJ,seval,e2,u0,u3,aB,aU,hi,hg,hj,hdl,hdg,d1,d2];apply bW;clear bW K2;refine Tz ?_;refine⟨fun c h=>?_,ET,JJ⟩;by_cases hcj:c=j
     . subst hcj;exact⟨c1,c2⟩
     exact hc c (by omega)
   rintro f2 H2 eP ⟨hc,ET,JJ⟩;refine Tx ?_;refine⟨fun v hv=>?_,ET,JJ⟩
   rcases hx v hv with h|rfl
   . exact gT v h
   simp only[Zw,Aw,Ay,Bd];exact fun c h=>hc c h
 rintro f H1 hk ⟨gT,g0,hn⟩;rw[Ax] at gT;have bU:l.all Zw=true:=Aw.2 gT;have f0:f 0=.bD 0 3 (cH l):=hk 0 rfl;have a2:f 2=.ref 0 0:=hk 2 rfl;refine Tx ?_;refine bR ?_;have hNr:∀v∈C,cG (2^18) v:=fun v hv=>Nw.1 (gT v ((hC.mem v).1 hv))
 have hCl:C.length<=64:=by have :=tU C l (Hb (fun {a b} (h:iY a b) (e:a=b)=>iY.j9 b (by rw[e] at h;exact h)) hC.Rh) fun v hv=>(hC.mem v).1 hv;omega
 have nS:∀H,Sg 192 [lG 3 (cH C)] H (.ret (yT L S)) H:=fun H=>by
  by_cases hc:C=[]
  . subst hc
    have hSn:S=[]:=Ey.2 fun q hq=>by obtain⟨i,j,k,_,_,h,_⟩:=gC ((hS.fl.mem q).1 hq);exact absurd h (Ap _)
    subst hSn;exact Lg H
  rw[show lG 3 (cH C)=.bD 0 3 (cH C) from if_neg (by simpa [cH] using hc)];exact Ol 0 hNr (Ab _) hCl hS H
 have hsd:∀H,Sg 191 [.bD 0 3 (cH l)] H (.ret (lG 3 (cH C))) H:=Yc 0 (by omega) hC;refine bQ ?_;simp only[↓zP,zG,seval,f0];refine bY (hsd _) ?_;refine Tz ?_;refine fF ?_;refine Tz ?_;refine bY (nS _) ?_;refine Tz ?_;refine bR ?_;by_cases o8:S=[]
 . have hO:jC l C S L=(.aO,120):=(if_neg SP).trans ((if_neg (by rw[bU];decide)).trans (if_pos (by rw[o8];decide)));refine aN fun K hK=>?_;rw[show yT L S=.aO by rw[o8];rfl];simp only[↓zP,zJ,seval,a2,g0];refine⟨rfl,_,by simp only[↓zP,zR,seval,a2];rfl,?_⟩;rw[hO];exact ZaE
 have hS4:¬S.length<4:=by have :=hS.fl.four (NC hC.Rh) o8;omega
 have ML:yT L S=.bD 0 5 (S.map (dW L)):=by
  rcases jM L S with ⟨h,_⟩|⟨_,h⟩
  . exact absurd h o8
  exact h
 have hCe:cH C≠[]:=fun h=>o8 (Ey.2 fun q hq=>by
  obtain⟨i,j,k,_,_,h',_⟩:=gC ((hS.fl.mem q).1 hq);have :C.length=0:=by rw[<-aU,h];rfl
  omega)
 rw[show lG 3 (cH C)=.bD 0 3 (cH C) from if_neg hCe,ML];have XY:((S.length:Int)==0)=false:=Bq.2 fun h=>o8 (Cm (by omega));refine bQ ?_;simp only[↓zP,zG,seval,Af,XY];refine bR ?_;by_cases Ph:64<S.length
 . have hO:jC l C S L=(.aO,2):=(if_neg SP).trans ((if_neg (by rw[bU];decide)).trans ((if_neg hS4).trans (if_pos Ph)));refine aN fun K hK=>?_;simp only[↓zP,zJ,seval,a2,g0,Af];refine⟨fun _=>?_,fun h=>absurd Ph (by omega)⟩;refine⟨rfl,_,by simp only[↓zP,zR,seval,a2];rfl,?_⟩;rw[hO];exact ZaE
 refine bQ ?_;simp only[↓zP,zJ,seval,Af];refine⟨fun h=>absurd h (by omega),fun _=>?_⟩;refine bR ?_;have hO:jC l C S L=(lG 3 (cH (iH C S L)),0):=(if_neg SP).trans ((if_neg (by rw[bU];decide)).trans ((if_neg hS4).trans (if_neg Ph)));rw[hO];refine bQ ?_;refine Ty ?_;refine bR ?_;refine aN fun K hK=>?_;refine Tz ?_;have nx0:¬(0=H1.next):=by omega
 generalize hX:(H1.alloc _).set H1.next _=H4;have y0:H4.get 0=some (.cells [.aO,.int .i64 0] false):=by subst hX;rw[aA.aC,if_neg nx0,aA.aG,if_neg nx0];exact g0
 have yb:H4.get H1.next=some (.cells [.aO,.int .i64 0] false):=by subst hX;rw[aA.aC,if_pos rfl]
 have yn:H4.next=H1.next+1:=by subst hX;simp only[aA.aW,aA.aR]
 clear hX;generalize H1.next=ob at *;have hSl:(S.map (dW L)).length=S.length:=Af ..;refine bP [] (fun i _ H'=>H'.get 0=some (.cells [.aO,.int .i64 0] false)/\ob<H'.next/\∃v,H'.get ob=some (.cells [v,.int .i64 0] false)/\Own H' 3 v (cH (((List.range i).filter (gS S L)).map fun k=>C.getD k V0))/\(((List.range i).filter (gS S L)).map (fun k=>C.getD k V0)=[]->v=.aO)) 0 C.length (Az _) (by omega) (by decide) ?_ ?_ ?_ ?_ ?_
 . exact zq
 . exact⟨y0,by omega,.aO,yb,.nil _ _,fun _=>rfl⟩
 . rintro i f2 H2 h0 hi eP e2 _;have u5:f2 5=.bD 0 3 (cH C):=eP 5 rfl;simp only[↓zP,zG,seval,e2,u5,aU];exact Zae
 . rintro i f2 H2 h0 hi eP e2 ⟨q0,qn,v,qv,qo,qe⟩;have u5:f2 5=.bD 0 3 (cH C):=eP 5 rfl;have u6:f2 6=.bD 0 5 (S.map (dW L)):=eP 6 rfl;have u7:f2 7=.ref ob 0:=eP 7 rfl;refine aJ ?_;refine bQ ?_;refine Tz ?_;refine bR ?_;refine aN fun K hK=>?_;refine Tz ?_;refine bP [9] (fun k vs H'=>H'=H2/\vs=[.bool ((S.take k).any fun q=>(L q).contains i)]) 0 S.length (Az _) (by omega) (by decide) ?_ ?_ ?_ ?_ ?_
   . exact zq
   . exact⟨rfl,by simp only[sm,zB,seval];rfl⟩
   . rintro k g H3 h0 rR oT e3 _;have w6:g 6=.bD 0 5 (S.map (dW L)):=(by rw[oT 6 rfl];simp only[zB,seval];exact u6);simp only[↓zP,zG,seval,e3,w6,hSl];exact Zae
   . rintro k g H3 h0 rR oT e3 ⟨rfl,hv⟩;simp only[zM] at hv;have w6:g 6=.bD 0 5 (S.map (dW L)):=(by rw[oT 6 rfl];simp only[zB,seval];exact u6);have w8:g 8=.int .i64 i:=(by rw[oT 8 rfl];simp only[zB,seval];exact e2);have Zl:(S.map (dW L)).getD k []=dW L S[k]:=gK rR
     have pT:((S.take (k+1)).any fun q=>(L q).contains i)=(((S.take k).any fun q=>(L q).contains i)||(L S[k]).contains i):=by rw[An,Iq];simp[rR]
     have hqS:=Ac rR;rw[pT];generalize S[k]=q at *;generalize ((S.take k).any fun q=>(L q).contains i)=b0 at *
     have hLl:(L q).length<2^30:=by obtain⟨s,r,m,e,W,h⟩:=(hS.po _ hqS).ex;rw[h,Af,Bw];have h1:=W.le;have h2:=Dh (fun k=>decide (aP.dot q.1 (C.getD k V0)=q.2)) (List.range C.length);rw[Bw] at h2;have h3:(kI (fun i=>C.getD i V0) C.length q.1 q.2).length<=C.length:=h2;omega
     have d5:(dW L q).length=5:=rfl;have d4:(List.drop 4 (dW L q)).getD 0 aD=.bD 0 1 (yP (L q)):=rfl;have dl4:1<=(List.drop 4 (dW L q)).length:=Ab _;refine aJ ?_;refine bQ ?_;refine Tz ?_;refine bR ?_;refine bP [9] (fun c vs H'=>H'=H3/\vs=[.bool (b0||((L q).take c).contains i)]) 0 (L q).length (Az _) (by omega) (by decide) ?_ ?_ ?_ ?_ ?_
     . exact zq
     . exact⟨rfl,by simp only[sm,zB,seval,hv];simp⟩
     . rintro c g2 H4 h0 hc PO e4 ⟨rfl,_⟩;have x6:g2 6=.bD 0 5 (S.map (dW L)):=(by rw[PO 6 rfl];simp only[zB,seval];exact w6);have x10:g2 10=.int .i64 k:=(by rw[PO 10 rfl];simp only[zB,seval];exact e3);simp only[↓zP,zG,seval,e4,x6,x10,aB,hSl,rR,Zl,d4,dl4,eM];exact Zae
     . rintro c g2 H4 h0 hc PO e4 ⟨rfl,WS⟩;simp only[zM] at WS;have x6:g2 6=.bD 0 5 (S.map (dW L)):=(by rw[PO 6 rfl];simp only[zB,seval];exact w6);have x10:g2 10=.int .i64 k:=(by rw[PO 10 rfl];simp only[zB,seval];exact e3);have x8:g2 8=.int .i64 i:=(by rw[PO 8 rfl];simp only[zB,seval];exact w8);have jv:=AW hc
       have htc:((L q).take (c+1)).contains i=(((L q).take c).contains i||(L q)[c]==i):=by
        rw[Ci];simp only[Dm,List.contains_iff_mem,Cf,An,Ad hc,Fu,Ao,Cc];constructor
        . rintro(h|h)
          . exact .inl h
          exact .inr h.symm
        rintro(h|h)
        . exact .inl h
        exact .inr h.symm
       rw[htc,<-Bool.or_assoc];generalize (L q)[c]=p at *;generalize (b0||((L q).take c).contains i)=b1 at *;have hpi:((p:Int)==(i:Int))=(p==i):=(by rw[Ci,Cf,Cf];omega);refine aJ ?_
       cases b1 with
       |true=>simp only[↓zP,zJ,seval,WS];exact⟨trivial,rfl⟩
       |false=>simp only[↓zP,zJ,seval,WS,x6,x10,x8,e4,aB,hSl,rR,Zl,d4,dl4,eM,hc,jv,hpi];exact⟨trivial,rfl⟩
     rintro g2 H4 PO ⟨rfl,WS⟩;rw[Ax] at WS;refine Tx ?_;exact⟨trivial,WS⟩
   rintro g H3 oT ⟨rfl,hv⟩;rw[Ax] at hv;simp only[zM] at hv;have hP:(S.any fun q=>(L q).contains i)=gS S L i:=rfl;rw[hP] at hv;have w5:g 5=.bD 0 3 (cH C):=(by rw[oT 5 rfl];simp only[zB,seval];exact u5);have w7:g 7=.ref ob 0:=(by rw[oT 7 rfl];simp only[zB,seval];exact u7);have w8:g 8=.int .i64 i:=(by rw[oT 8 rfl];simp only[zB,seval];exact e2);have hg:=dD hi;have EX:C.getD i V0=C[i]:=by simp[List.getD,hi]
   have vn:((List.range (i+1)).filter (gS S L)).map (fun k=>C.getD k V0)=((List.range i).filter (gS S L)).map (fun k=>C.getD k V0)++(if gS S L i then [C[i]] else []):=by
    rw[Fg,Jb,Ct];congr 1;simp only[Jl,Ju];split
    . rw[Cb,EX];rfl
    rfl
   have vD:(((List.range i).filter (gS S L)).map fun k=>C.getD k V0).length<=64:=by rw[Af];have :=Dh (gS S L) (List.range i);rw[Bw] at this;omega
   refine Tx ?_;apply hK;clear hK K;rw[vn];generalize ((List.range i).filter (gS S L)).map (fun k=>C.getD k V0)=bB at *;generalize C[i]=x at *
   cases hu:gS S L i with
   |false=>rw[hu] at hv;simp only[↓zP,zJ,seval,hv];exact⟨q0,qn,v,qv,qo,qe⟩
   |true=>
    rw[hu] at hv;simp only[↓zP,zG,seval,hv];obtain⟨H5,z1,z2,z3,z4,z5⟩:=Has.push (.inr qo) (ys:=[cU x]) (bytes:=24) rfl (by rw[aU,As,Bm];omega);refine Dz ?_;have w2:=(z4 ob (by omega) (by rw[qv];simp)).trans qv;simp only[↓zP,zJ,seval,zD,w5,w7,w8,qv,aB,aU,hi,hg,oL (aV x)];rw[eL];simp only[z1,cE,zJ,seval,zD,w2];refine⟨by omega,(if_neg (by omega)).trans ((z4 0 (by omega) (by rw[q0];simp)).trans q0),by omega,_,rfl,?_,fun h=>?_⟩
    . rw[show cH (bB++[x])=cH bB++[cU x] from by simp[cH]];exact .inr ⟨H3.next,rfl,by simp only[aA.aW];omega,by rw[aA.aC,if_neg (by omega)];exact z3⟩
    simp at h
 rintro f2 H2 eP ⟨q0,qn,v,qv,qo,qe⟩;have u2:f2 2=.ref 0 0:=by rw[eP 2 rfl];simp only[zB,seval];exact a2
 have u7:f2 7=.ref ob 0:=eP 7 rfl;refine Tx ?_;apply hK;clear hK K;have hL:((List.range C.length).filter (gS S L)).map (fun k=>C.getD k V0)=iH C S L:=rfl;rw[hL] at qo qe;simp only[↓zP,zJ,seval,u2,u7,qv,q0];refine⟨rfl,_,by simp only[↓zP,zR,seval,u2];rfl,?_⟩;refine⟨_,2,rfl,fun nw=>?_⟩
 exact Zaz
theorem aAm (tag:Nat) {l C:List aP.V} (hlen:l.length<2^30) (hC:Ord l C) {S:List (aP.V×Int)} {L:aP.V×Int->List Nat} (hS:xF C S L) (H:aA):
 Sg 144 [.bD tag 3 (cH l)] H (.ret (.agg [(jC l C S L).1,.int .i64 (jC l C S L).2])) H:=(aTy hlen hC hS H).DB tag
theorem lk (H:aA):Sg 144 [.aO] H (.ret (.agg [.aO,.int .i64 120])) H:=by
 refine So aJy Zag ?_ H;unfold aDa;dsimp only;refine bQ ?_;simp only[↓zP,zG,Nat.reduceLT];refine fF ?_;simp only[↓zP,zJ,Nat.reduceLT,Nat.reduceEqDiff,Nat.reduceAdd];refine⟨fun h=>absurd h (by decide),fun _=>?_⟩;refine bR ?_;refine aN fun K hK=>?_;simp only[↓zP,zG,Nat.reduceLT];refine bP [] (fun i _ H=>H.get 0=some (.cells [.aO,.int .i64 0] false)) 0 0 (Az _) (by omega) (by decide) ?_ ?_ ?_ ?_ ?_
 . simp only[zB];rfl
 . simp only[zI]
 . rintro i f H1 h0 hi hk e1 g0;have f0:f 0=.aO:=hk 0 rfl;simp only[↓zP,zJ,Nat.reduceLT,Nat.reduceEqDiff,e1,f0];exact Zae
 . rintro i f H1 h0 hi hk;exact absurd hi (Ap _)
 rintro f H1 hk g0;have f0:f 0=.aO:=hk 0 rfl;have f2:f 2=.ref 0 0:=hk 2 rfl;simp only[↓zP];apply hK;clear hK K;refine bQ ?_;simp only[↓zP,zG,Nat.reduceLT,f0];refine bY (Vr _) ?_;simp only[↓zP,zG,Nat.reduceLT];refine fF ?_;simp only[↓zP,zG,Nat.reduceLT];refine bY (Lg _) ?_;simp only[↓zP,zG,Nat.reduceLT];refine bR ?_;refine aN fun K hK=>?_;simp only[↓zP,zJ,Nat.reduceLT,Nat.reduceEqDiff,Nat.reduceAdd,f2,g0];refine⟨rfl,_,by simp only[↓zP,zR,Nat.reduceEqDiff,Nat.reduceAdd,f2,g0];rfl,?_⟩;rfl
theorem aHs {a b:List aP.V} (ha:a.length<2^30) (hb:b.length<2^30) (H:aA):
 Sg 145 [.bD 0 3 (cH a),.bD 0 3 (cH b)] H (.ret (.bool (decide (a=b)))) H:=by
 have Qz:Nat.blt 0 2=true:=rfl;refine So aXn (by simp only[sf,dL Qz]) ?_ H;unfold aMj;dsimp only;refine bQ ?_;simp only[↓zP,zG,Nat.reduceLT];refine bR ?_;refine aN fun K hK=>?_;by_cases hl:a.length=b.length
 . have hd:((a.length:Int) != (b.length:Int))=false:=by simp[hl]
   simp only[↓zP,zJ,Nat.reduceLT,Nat.reduceEqDiff,aU,hd];apply hK;clear hK K;refine aN fun K hK=>?_;simp only[↓zP,zG,Nat.reduceLT];refine bP [] (fun i _ H=>a.take i=b.take i) 0 a.length (Az _) (by omega) (by decide) ?_ ?_ ?_ ?_ ?_
   . simp only[zB];rfl
   . rfl
   . rintro i f H1 h0 hi hk e1 _;have f0:f 0=.bD 0 3 (cH a):=hk 0 rfl;simp only[↓zP,zJ,Nat.reduceLT,Nat.reduceEqDiff,e1,f0,aU];exact Zae
   . rintro i f H1 h0 hi hk e1 hJ;have f0:f 0=.bD 0 3 (cH a):=hk 0 rfl;have f1:f 1=.bD 0 3 (cH b):=hk 1 rfl;have hib:i<b.length:=(by omega);have g1:=dD hi;have g2:=dD hib;have d1:(cU a[i]).take 3=cU a[i]:=rfl;have d2:(cU b[i]).take 3=cU b[i]:=rfl;refine aJ ?_;refine bQ ?_;refine Dz ?_;simp only[↓zP,zJ,Nat.reduceLT,Nat.reduceEqDiff,Nat.reduceAdd,zD,reduceCtorEq,e1,f0,f1,aB,aU,hi,hib,g1,g2,oL (aV a[i]),oL (aV b[i]),nG];refine bR ?_;by_cases he:a[i]=b[i]
     . simp only[↓zP,zJ,Aj he];rw[An,An,hJ,Ad hi,Ad hib,he]
     simp only[↓zP,zJ,Nat.reduceLT,Ag he];refine Rx ?_;rw[Ag fun h=>he (by subst h;rfl)];rfl
   rintro f H1 hk hJ;rw[Ax,hl,Ax] at hJ;simp only[↓zP];apply hK;clear hK K;simp only[↓zP,zG,Nat.reduceLT];refine Rx ?_;rw[Aj hJ];rfl
 have hd:((a.length:Int) != (b.length:Int))=true:=Dd.2 (by omega);simp only[↓zP,zJ,Nat.reduceLT,Nat.reduceEqDiff,aU,hd];refine Rx ?_;rw[Ag fun h=>hl (by rw[h])];rfl
theorem aAo (t1 t2:Nat) {a b:List aP.V} (ha:a.length<2^30) (hb:b.length<2^30) (H:aA):
 Sg 145 [.bD t1 3 (cH a),.bD t2 3 (cH b)] H (.ret (.bool (decide (a=b)))) H:=((aHs ha hb H).DB t1).aIb t2
theorem Py {tag:Nat} (ht:Nat.blt tag 2=true) {l C:List aP.V} (hlen:l.length<2^30) (hC:Ord l C) {S:List (aP.V×Int)} {L:aP.V×Int->List Nat} (hS:xF C S L) (H:aA):
 Sg 115 [.agg [.bD tag 3 (cH l)]] H (.ret (.int .i64 (NL l C S L))) H:=by
 refine So aJv ZaK ?_ H;unfold aCx;dsimp only;have hH:=fun H=>aAm tag hlen hC hS H;unfold NL;have h0:=Sj (l:=l) (C:=C) (S:=S) (L:=L);generalize jC l C S L=o at *;obtain⟨ov,oc⟩:=o;dsimp only at hH h0 ⊢;refine bQ ?_;simp only[↓zP,zJ,Nat.reduceLT];refine fF ?_;simp only[↓zP,zJ,Nat.reduceLT,Nat.reduceEqDiff];refine bY (hH _) ?_;simp only[↓zP,zJ,Nat.reduceLT,Nat.reduceEqDiff,Nat.reduceAdd];refine bR ?_;by_cases hc:oc=0
 . subst hc;obtain⟨hSn,rfl,aVv⟩:=h0 rfl;have cQ:=Nv hS hSn;have rB:lG 3 (cH (iH C S L))=.bD 0 3 (cH (iH C S L)):=if_neg (by simpa [cH] using cQ);rw[rB]
   have FB:(iH C S L).length<2^30:=by have hCl:C.length<=l.length:=tU C l (Hb (fun {a b} (h:iY a b) (e:a=b)=>iY.j9 b (by rw[e] at h;exact h)) hC.Rh) fun v hv=>(hC.mem v).1 hv;have :=Dh (gS S L) (List.range C.length);rw[Bw] at this;simp only[iH,Af];omega
   have hb:((0:Int)==0)=true:=rfl;have hE:=fun H=>aAo 0 tag FB hlen H;refine aN fun K hK=>?_;simp only[↓zP,zJ,Nat.reduceLT,Nat.reduceEqDiff,Nat.reduceAdd,Nat.reduceLeDiff,hb];refine bY (hE _) ?_;by_cases he:iH C S L=l
   . have hd:=Aj he;simp only[↓zP,zJ,Nat.reduceLT,Nat.reduceEqDiff,hd];apply hK;clear hK K;simp only[↓zP,zJ,Nat.reduceLT,Nat.reduceEqDiff,Nat.reduceAdd];refine Rx ?_;rw[if_neg (fun h=>h.2 he)];rfl
   have hd:=Ag he;simp only[↓zP,zJ,Nat.reduceLT,Nat.reduceEqDiff,hd];refine Rx ?_;rw[if_pos ⟨trivial,he⟩];rfl
 have hb:(oc==0)=false:=Bq.2 hc;refine bQ ?_;simp only[↓zP,zJ,Nat.reduceLT,Nat.reduceEqDiff,Nat.reduceAdd,hb];refine bR ?_;simp only[↓zP,zJ,Nat.reduceLT,Nat.reduceEqDiff,Nat.reduceAdd];refine Rx ?_;rw[if_neg (fun h=>hc h.1)];rfl
theorem On (H:aA):Sg 115 [.agg [.aO]] H (.ret (.int .i64 120)) H:=by
 refine So aJv Zag ?_ H;unfold aCx;dsimp only;refine bQ ?_;refine Ty ?_;refine fF ?_;refine Ty ?_;refine bY (lk _) ?_;refine Ty ?_;refine bR ?_;have hb:((120:Int)==0)=false:=by decide
 refine bQ ?_;simp only[↓zP,zJ,seval,hb];refine bR ?_;refine Ty ?_;exact ZaQ
theorem Om {p:AV×List aP.V} (h:vS p) (hlen:p.2.length<2^30) (H:aA):Sg 115 [.agg [p.1]] H (.ret (.int .i64 (uY p.2))) H:=by
 rcases h with ⟨h1,h2⟩|h1
 . rw[h1,h2,NK];exact On H
 rw[h1];exact Py rfl hlen (wZ _) (uL (wZ _).Rh) H
theorem YN (tag:Nat) {l:List aP.V} {M:Nat} (hl:∀v∈l,cG M v) (hM:M<=2^18) (hlen:l.length<=64) {S:List (aP.V×Int)} {L:aP.V×Int->List Nat} (hS:xF l S L) (ht:Nat.blt tag 2=true) (H:aA):
 Sg 146 [.agg [.bD tag 3 (cH l)]] H (.ret (yT L S)) H:=by
 refine Sp aJz ZaK (by simp only[JZ]) ?_ H;unfold aDb;dsimp only;have hF:=fun H=>Ol tag hl hM hlen hS H;refine Ty ?_;refine bY (hF _) ?_;refine Tz ?_;exact ZaQ
theorem Ve (tag:Nat) {l:List aP.V} {M:Nat} (hl:∀v∈l,cG M v) (hM:M<=2^18) (hlen:l.length<=64) {S:List (aP.V×Int)} {L:aP.V×Int->List Nat} (hS:xF l S L) (cQ:S≠[]) (ht:Nat.blt tag 2=true) (H:aA):
 Sg 146 [.agg [.bD tag 3 (cH l)]] H (.ret (.bD (H.next+2) 5 (S.map (dW L)))) (H.alloc .tok):=by
 refine mG eZ ZaK (by simpa using cQ) (eK (qC L) S) ?_ H;refine cZ fit aJz (Ai rfl) ?_;unfold aDb;dsimp only;have hF:=fun H=>Vk tag hl hM hlen hS cQ H;refine Ty ?_;refine bY (hF _) ?_;refine Ty ?_;refine Rx ?_;exact⟨_,rfl,.inr ⟨_,rfl,by simp,by rw[aA.aG,if_pos (by simp)]⟩⟩
def EH (on:List Nat) (m a b:Nat):Bool:=(List.range m).any fun i=>(on.getD i 0==a&&on.getD ((i+1)%on.length) 0==b)||(on.getD i 0==b&&on.getD ((i+1)%on.length) 0==a)
def PV (S:List (aP.V×Int)) (L:aP.V×Int->List Nat) (a b:Nat):Bool:=S.any fun q=>EH (L q) (L q).length a b
def FL (S:List (aP.V×Int)) (L:aP.V×Int->List Nat) (a j:Nat):List (Int×Int):=((List.range j).filter fun b=>decide (a<b)&&PV S L a b).map fun b:Nat=>(((a:Nat):Int),((b:Nat):Int))
def PR (S:List (aP.V×Int)) (L:aP.V×Int->List Nat) (N i:Nat):List (Int×Int):=(List.range i).flatMap fun a=>FL S L a N
theorem Va (S:List (aP.V×Int)) (L:aP.V×Int->List Nat) (a j:Nat):(FL S L a j).length<=j:=by
 rw[FL,Af];have :=Dh (fun b=>decide (a<b)&&PV S L a b) (List.range j)
 rwa [Bw] at this
theorem cc (S:List (aP.V×Int)) (L:aP.V×Int->List Nat) (N i:Nat):(PR S L N i).length<=i*N:=by
 have :=tL (fun a=>FL S L a N) N (fun a=>Va S L a N) (List.range i)
 rwa [Bw] at this
theorem aAl (S:List (aP.V×Int)) (L:aP.V×Int->List Nat) (a:Nat):FL S L a (a+1)=[]:=by
 have :((List.range (a+1)).filter fun b=>decide (a<b)&&PV S L a b)=[]:=by rw[List.filter_eq_nil_iff];intro b hb;rw[Ay] at hb;rw[Ag (by omega)];simp
 rw[FL,this];rfl
theorem aTx {S:List (aP.V×Int)} {L:aP.V×Int->List Nat} {a j:Nat} (h:a<j):FL S L a (j+1)=FL S L a j++(if PV S L a j then [((a:Int),(j:Int))] else []):=by simp only[FL];rw[Fg,Jb,Ct,Jl,Ju,Aj h,Co];cases PV S L a j<;>rfl
theorem bDw (S:List (aP.V×Int)) (L:aP.V×Int->List Nat) (N i:Nat):PR S L N (i+1)=PR S L N i++FL S L i N:=by simp only[PR];rw[Fg,It];simp
theorem aRj (on:List Nat) (m a b:Nat):EH on (m+1) a b=(EH on m a b||((on.getD m 0==a&&on.getD ((m+1)%on.length) 0==b)||(on.getD m 0==b&&on.getD ((m+1)%on.length) 0==a))):=by simp only[EH];rw[Fg,Iq];simp
theorem lh {tag:Nat} (ht:Nat.blt tag 2=true) {l:List aP.V} {M:Nat} (hl:∀v∈l,cG M v) (hM:M<=2^18) (hlen:l.length<=64) {S:List (aP.V×Int)} {L:aP.V×Int->List Nat} (hS:xF l S L) (Ph:S.length<=64) (H:aA):
 Sg 195 [.agg [.bD tag 3 (cH l)]] H (.ret (lG 2 ((PR S L l.length l.length).map pC))) H:=by
 refine eC fit eZ aYq (Ai rfl) ZaK ?_ H;unfold aNm;dsimp only;have hF:=fun H=>YN tag hl hM hlen hS ht H;have hLw:=aIl hS hlen;refine Ty ?_;refine bY (hF _) ?_;refine Tz ?_;have fJ:(cH l).length=l.length:=aU _;refine bP [3] (fun i vs H'=>H'.get 0=some (.cells [.bD tag 3 (cH l)] false)/\1<=H'.next/\∃v,vs=[v]/\Own H' 2 v ((PR S L l.length i).map pC)/\(PR S L l.length i=[]->v=.aO)) 0 l.length (Az _) (by omega) (by decide) ?_ ?_ ?_ ?_ ?_
 . exact zq
 . exact⟨by simp only[zI,seval],by simp only[zI,seval],.aO,by simp only[sm,zB,seval],.nil _ _,fun _=>rfl⟩
 . rintro i f H1 h0 hi hk e1 ⟨g0,_⟩;have f1:f 1=.ref 0 0:=hk 1 rfl;simp only[↓zP,zJ,seval,e1,f1,g0,fJ];exact Zae
 . rintro i f H1 h0 hi hk e1 ⟨g0,gn,v,hv,ho,hn⟩;simp only[zM] at hv;have f1:f 1=.ref 0 0:=hk 1 rfl;have f4:f 4=yT L S:=hk 4 rfl;have wi:IntKind.i64.wrap ((i:Int)+1)=((i+1:Nat):Int):=(wrap_i64 (by omega) (by omega)).trans (by omega);refine aJ ?_;simp only[↓zP,zJ,seval,e1,wi];refine bP [3] (fun j vs H'=>H'.get 0=some (.cells [.bD tag 3 (cH l)] false)/\1<=H'.next/\∃v,vs=[v]/\Own H' 2 v ((PR S L l.length i++FL S L i j).map pC)/\(PR S L l.length i++FL S L i j=[]->v=.aO)) (i+1) l.length (by omega) (by omega) (by decide) ?_ ?_ ?_ ?_ ?_
   . exact zq
   . exact⟨g0,gn,v,by simp only[sm,zB,seval,hv],by rw[aAl,Ch];exact ho,by rw[aAl,Ch];exact hn⟩
   . rintro j f2 H2 h0 hj eP e2 ⟨ET,_⟩;have u1:f2 1=.ref 0 0:=(by rw[eP 1 rfl];simp only[zB,seval];exact f1);simp only[↓zP,zJ,seval,e2,u1,ET,fJ];exact Zae
   . rintro j f2 H2 yL hj eP e2 ⟨ET,gn',v2,sY,pt,SY⟩;simp only[zM] at sY;have u4:f2 4=yT L S:=(by rw[eP 4 rfl];simp only[zB,seval];exact f4);have u5:f2 5=.int .i64 i:=by rw[eP 5 rfl];simp only[zB,seval];exact e1
     have hXl:(PR S L l.length i++FL S L i j).length<2^20:=by have h1:=cc S L l.length i;have h2:=Va S L i j;have h3:i*l.length<=64*64:=Bt (by omega) hlen;rw[Ba];omega
     refine aJ ?_;refine bQ ?_;refine Tz ?_;refine bR ?_;refine aN fun K hK=>?_;refine Ty ?_;refine bP [7] (fun k vs H'=>H'=H2/\vs=[.bool ((S.take k).any fun q=>EH (L q) (L q).length i j)]) 0 S.length (Az _) (by omega) (by decide) ?_ ?_ ?_ ?_ ?_
     . exact zq
     . exact⟨rfl,by simp only[sm,zB,seval];rfl⟩
     . rintro k f3 H3 h0 rR oT e3 _;have w4:f3 4=yT L S:=by rw[oT 4 rfl];simp only[zB,seval];exact u4
       rcases jM L S with ⟨h,e⟩|⟨h,e⟩
       . rw[e] at w4;subst h;simp only[↓zP,zG,seval,e3,w4];exact⟨trivial,trivial,Bn AV.bool (Bs.2 (by simp at rR;simp[rR]))⟩
       rw[e] at w4;simp only[↓zP,zG,seval,e3,w4,Af];exact Zae
     . rintro k f3 H3 h0 rR oT e3 ⟨rfl,Pr⟩;simp only[zM] at Pr
       have w4:f3 4=.bD 0 5 (S.map (dW L)):=by
        rw[oT 4 rfl];simp only[zB,seval];rw[u4]
        rcases jM L S with ⟨h,e⟩|⟨h,e⟩
        . rw[h] at rR;exact absurd rR (Ap _)
        exact e
       have w5:f3 5=.int .i64 i:=(by rw[oT 5 rfl];simp only[zB,seval];exact u5);have w6:f3 6=.int .i64 j:=(by rw[oT 6 rfl];simp only[zB,seval];exact e2);have Zl:(S.map (dW L)).getD k []=dW L S[k]:=gK rR
       have pT:((S.take (k+1)).any fun q=>EH (L q) (L q).length i j)=(((S.take k).any fun q=>EH (L q) (L q).length i j)||EH (L S[k]) (L S[k]).length i j):=by rw[An,Iq];simp[rR]
       have hSl:(S.map (dW L)).length=S.length:=Af ..;have hLl:=hLw _ (Ac rR);rw[pT];generalize S[k]=q at *;generalize ((S.take k).any fun q=>EH (L q) (L q).length i j)=b0 at *;have d5:(dW L q).length=5:=rfl;have d4:(List.drop 4 (dW L q)).getD 0 aD=.bD 0 1 (yP (L q)):=rfl;have dl4:1<=(List.drop 4 (dW L q)).length:=Ab _;refine aJ ?_;refine bQ ?_;simp only[↓zP,zG,seval,w4,e3,aB,hSl,rR,Zl,d4,dl4];refine fF ?_;refine Tz ?_;refine bR ?_;generalize L q=on at *;refine bP [7] (fun c vs H'=>H'=H3/\vs=[.bool (b0||EH on c i j)]) 0 on.length (Az _) (by omega) (by decide) ?_ ?_ ?_ ?_ ?_
       . exact zq
       . exact⟨rfl,by simp only[sm,zB,seval,Pr];simp[EH]⟩
       . rintro c f4 H4 h0 hc PO e4 _;have x9:f4 9=.bD 0 1 (yP on):=PO 9 rfl;simp only[↓zP,zG,seval,e4,x9,eM];exact Zae
       . rintro c f4 H4 h0 hc PO e4 ⟨rfl,WS⟩;simp only[zM] at WS;have x9:f4 9=.bD 0 1 (yP on):=PO 9 rfl;have x5:f4 5=.int .i64 i:=(by rw[PO 5 rfl];simp only[zB,seval];exact w5);have x6:f4 6=.int .i64 j:=(by rw[PO 6 rfl];simp only[zB,seval];exact w6);have wj:IntKind.i64.wrap ((c:Int)+1)=((c+1:Nat):Int):=(wrap_i64 (by omega) (by omega)).trans (by omega);have nz:¬((on.length:Int)=0):=(by omega);have hm:(c+1)%on.length<on.length:=Di _ (by omega);have tm:((c+1:Nat):Int).tmod (on.length:Int)=(((c+1)%on.length:Nat):Int):=rfl;have jv:=AW hc;have hgb:=AW hm;have KI:∀x y:Nat,((x:Int)==(y:Int))=(x==y):=fun x y=>by rw[Ci,Cf,Cf];omega
         rw[aRj,<-Bool.or_assoc];rw[show on.getD c 0=on[c] by simp[List.getD,hc],show on.getD ((c+1)%on.length) 0=on[(c+1)%on.length] by simp[List.getD,hm]];generalize (b0||EH on c i j)=b1 at *;generalize on[c]=p at *;generalize on[(c+1)%on.length]=p' at *;have hA:=KI p i;have hB:=KI p' j;have hC:=KI p j;have hD:=KI p' i;generalize (p==i)=A at *;generalize (p'==j)=B at *;generalize (p==j)=C at *;generalize (p'==i)=D at *;refine aJ ?_
         cases b1 with
         |true=>simp only[↓zP,zJ,seval,WS,mJ];exact⟨trivial,rfl⟩
         |false=>
          cases A with
          |true=>
           cases B with
           |true=>simp only[↓zP,zJ,seval,WS,x9,x5,x6,e4,aB,eM,hc,jv,hgb,wj,nz,tm,hm,hA,hB,mJ];exact⟨trivial,rfl⟩
           |false=>
            cases C with
            |true=>simp only[↓zP,zJ,seval,WS,x9,x5,x6,e4,aB,eM,hc,jv,hgb,wj,nz,tm,hm,hA,hB,hC,hD];exact⟨trivial,rfl⟩
            |false=>simp only[↓zP,zJ,seval,WS,x9,x5,x6,e4,aB,eM,hc,jv,hgb,wj,nz,tm,hm,hA,hB,hC];exact⟨trivial,rfl⟩
          |false=>
           cases C with
           |true=>simp only[↓zP,zJ,seval,WS,x9,x5,x6,e4,aB,eM,hc,jv,hgb,wj,nz,tm,hm,hA,hC,hD];exact⟨trivial,by simp⟩
           |false=>simp only[↓zP,zJ,seval,WS,x9,x5,x6,e4,aB,eM,hc,jv,hA,hC];exact⟨trivial,rfl⟩
       rintro f4 H4 PO ⟨rfl,WS⟩;refine Tx ?_;exact⟨trivial,WS⟩
     rintro f3 H3 oT ⟨rfl,Pr⟩;rw[Ax] at Pr;simp only[zM] at Pr;have hP:(S.any fun q=>EH (L q) (L q).length i j)=PV S L i j:=rfl;rw[hP] at Pr;have w5:f3 5=.int .i64 i:=(by rw[oT 5 rfl];simp only[zB,seval];exact u5);have w6:f3 6=.int .i64 j:=(by rw[oT 6 rfl];simp only[zB,seval];exact e2);have w3:f3 3=v2:=(by rw[oT 3 rfl];simp only[zB,seval];exact sY);refine Tx ?_;apply hK;clear hK K;rw[aTx (by omega),<-Ek];generalize PR S L l.length i++FL S L i j=X at *
     cases hu:PV S L i j with
     |false=>rw[hu] at Pr;simp only[↓zP,zJ,seval,Pr];exact⟨ET,gn',v2,by rw[w3],pt,SY⟩
     |true=>
      rw[hu] at Pr;obtain⟨H5,z1,z2,z3,z4,z5⟩:=Has.push (.inr pt) (ys:=[pC ((i:Int),(j:Int))]) (bytes:=16) rfl (by rw[Af,As,Bm];omega);have hpc:[AV.int .i64 (i:Int),.int .i64 (j:Int)]=pC ((i:Int),(j:Int)):=rfl;simp only[↓zP,zJ,seval,Pr,w3,w5,w6,hpc,aAg];rw[eL];simp only[z1,cE,seval];refine⟨(z4 0 (by omega) (by rw[ET];simp)).trans ET,by omega,_,rfl,?_,fun h=>?_⟩
      . rw[Ct];exact .inr ⟨H3.next,rfl,by omega,z3⟩
      simp at h
   rintro f2 H2 eP ⟨ET,gn',v2,sY,pt,SY⟩;simp only[zM] at sY;refine Tx ?_;rw[bDw];exact⟨ET,gn',v2,by rw[sY],pt,SY⟩
 rintro f H1 hk ⟨g0,gn,v,hv,ho,hn⟩;simp only[zM] at hv;simp only[↓zP,seval,hv];refine Rx ?_;refine⟨v,0,rfl,?_⟩
 rcases ho with ⟨rfl,h2⟩|⟨k,rfl,_,_⟩
 . rw[h2];exact fun _=>rfl
 have cQ:¬(PR S L l.length l.length).map pC=[]:=fun h=>by cases hn Zbi
 have ML:dT ((PR S L l.length l.length).map pC)=true:=eK aHf _;intro nw;rw[show lG 2 ((PR S L l.length l.length).map pC)=.bD 0 2 ((PR S L l.length l.length).map pC) from if_neg cQ];simp[fG,fA,ML,IZ]
end Go.Proofs.YtgggiembljfnhaaGreatDoor
