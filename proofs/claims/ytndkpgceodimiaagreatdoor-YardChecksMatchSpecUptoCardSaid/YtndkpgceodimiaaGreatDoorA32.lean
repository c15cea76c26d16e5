/-
  Part of the proof of statement 10
-/
import Derived.Test.YtndkpgceodimiaaGreatDoorA30
import Derived.Test.YtndkpgceodimiaaGreatDoorA31
import Derived.Test.YtndkpgceodimiaaGreatDoorA07
import Derived.Test.YtndkpgceodimiaaGreatDoorA23
import Derived.Test.YtndkpgceodimiaaGreatDoorA25
import Derived.Test.YtndkpgceodimiaaGreatDoorA26
set_option linter.unusedVariables false
set_option maxRecDepth 100000
set_option maxHeartbeats 16000000
namespace Go.Proofs.YtndkpgceodimiaaGreatDoor
open Go Go.Av Go.aI Go.sK
attribute [local congr] aV aO aP aL aX aR aQ aH aY
attribute [local irreducible] FC bY eX
theorem AP {q x:aI.V×Int}:∀{S:List (aI.V×Int)},x∈uQ q S↔x=q\/x∈S
 |[]=>by simp[uQ]
 |s::r=>by
  unfold uQ;split
  · simp
  rw[Ap,AP,Ap];constructor
  · rintro(h|h|h)
    · exact .inr (.inl h)
    · exact .inl h
    exact .inr (.inr h)
  rintro(h|h|h)
  · exact .inr (.inl h)
  · exact .inl h
  exact .inr (.inr h)
theorem VS {q:aI.V×Int}:∀{S:List (aI.V×Int)},(S.Pairwise fun a b=>iI a.1 b.1)->(∀s∈S,s.1≠q.1)->(uQ q S).Pairwise fun a b=>iI a.1 b.1
 |[],_,_=>by simp[uQ]
 |s::r,h,cK=>by
  rw[Cl] at h;unfold uQ
  cases hv:uJ q.1 s.1 with
  |true=>
   have hq:=BM.1 hv;rw[if_pos rfl,Cl];refine⟨fun x hx=>?_,Cl.2 h⟩
   rcases Ap.1 hx with rfl|hx
   · exact hq
   exact iI.trans hq (h.1 x hx)
  |false=>
   rw[if_neg (by decide),Cl]
   have hsq:iI s.1 q.1:=by
    rcases iI.total (cK s Ax) with h1|h1
    · exact h1
    rw[BM.2 h1] at hv;cases hv
   refine⟨fun x hx=>?_,VS h.2 fun x hx=>cK x (Ay _ hx)⟩
   rcases AP.1 hx with rfl|hx
   · exact hsq
   exact h.1 x hx
structure GL (l:List aI.V) (K:List (aI.V×Int)):Prop where
 Rw:K.Pairwise fun a b=>iI a.1 b.1
 is:∀q∈K,pP (fun i=>l.getD i V0) l.length q.1 q.2
theorem GL.nodup {l:List aI.V} {K:List (aI.V×Int)} (h:GL l K):K.Nodup:=Ha (fun {a b} (h:iI a.1 b.1) (e:a=b)=>iI.km b.1 (by rw[e] at h;exact h)) h.Rw
theorem GL.len {l:List aI.V} {K:List (aI.V×Int)} (h:GL l K) (hl:l.length<=64):K.length<2^20:=by have h1:=BW (N:=l.length) (p:=fun i=>l.getD i V0) h.nodup h.is;have h2:l.length*(l.length*(l.length*2))<=64*(64*(64*2)):=Bq hl (Bq hl (Bq hl (Ak _)));omega
theorem GL.ins {l:List aI.V} {K:List (aI.V×Int)} (h:GL l K) {q:aI.V×Int} (hq:pP (fun i=>l.getD i V0) l.length q.1 q.2) (hk:(K.any fun x=>decide (x.1=q.1))=false):GL l (uQ q K) where
 Rw:=VS h.Rw fun s hs e=>by rw[Ek] at hk;exact hk s hs (by simpa using e)
 is:=fun x hx=>by
  rcases AP.1 hx with rfl|hx
  · exact hq
  exact h.is x hx
theorem GL.known {l:List aI.V} {K:List (aI.V×Int)} (h:GL l K) {q:aI.V×Int} (hk:(K.any fun x=>decide (x.1=q.1))=true) (hq:pP (fun i=>l.getD i V0) l.length q.1 q.2):q∈K:=by
 obtain⟨x,hx,e⟩:=Bu.1 hk;have e:=Cc e;have RS:=h.is x hx;rw[e] at RS;have :=RS.uniq hq;have :x=q:=Prod.ext e this
 rwa [<-this]
def EE (L:aI.V×Int->List Nat) (H:aA) (v:AV) (K:List (aI.V×Int)):Prop:=
 (K=[]/\v=.aS)\/(K≠[]/\∃k,v=.aU (k+2) 5 (K.map (cU L))/\k<H.next/\H.get k=some .tok)
theorem EE.yq {L:aI.V×Int->List Nat} {H H':aA} {v:AV} {K:List (aI.V×Int)} (h:EE L H v K) (hn:H.next<=H'.next) (hk:∀k,k<H.next->H.get k=some .tok->H'.get k=some .tok):EE L H' v K:=by
 rcases h with h|⟨h,k,rfl,h1,h2⟩
 · exact .inl h
 exact .inr ⟨h,k,rfl,by omega,hk k h1 h2⟩
theorem EE.sound {L:aI.V×Int->List Nat} {H:aA} {v:AV} {K:List (aI.V×Int)} (h:EE L H v K) {f:FuncId} {rest:List AV} {H1 H2:aA} {out:Out} (hS:Sg f (yZ L K::rest) H1 out H2):Sg f (v::rest) H1 out H2:=by
 rcases h with ⟨h1,rfl⟩|⟨h1,k,rfl,_,_⟩
 · rcases jG L K with ⟨_,e⟩|⟨h2,_⟩
   · rwa [e] at hS
   exact absurd h1 h2
 rcases jG L K with ⟨h2,_⟩|⟨_,e⟩
 · exact absurd h2 h1
 rw[e] at hS;exact hS.CV (k+2)
theorem EE.aTq {L:aI.V×Int->List Nat} {f:FuncId} {args:List AV} (ha:bL args=true) {K:List (aI.V×Int)} (h:∃out H',(∃v,out=.ret v/\EE L H' v K)/\Sg f args ⟨0,.nil⟩ out H') (H:aA):Sg f args H (.ret (yZ L K)) H:=by
 obtain⟨out,H',⟨v,rfl,hr⟩,hS⟩:=h;refine hS.frame eU ha (tk:=none) (fun k' rF=>by cases rF) (n:=0) H ?_
 rcases hr with ⟨rfl,rfl⟩|⟨h1,k,rfl,_,_⟩
 · rfl
 have hf:dM (K.map (cU L))=true:=dW (qE L) _
 rcases jG L K with ⟨h2,_⟩|⟨_,e⟩
 · exact absurd h2 h1
 rw[e];simp[Out.av,gK,fU,hf,FW]
theorem Ly {l:List aI.V} {M:Nat} (hl:∀v∈l,bT M v) (hM:M<=2^18) (hlen:l.length<=64) {S:List (aI.V×Int)} {L:aI.V×Int->List Nat} (hS:wD l S L):
 ∃out H',(∃v,out=.ret v/\EE L H' v S)/\Sg 180 [.aU 0 3 (bS l)] ⟨0,.nil⟩ out H':=by
 have RP:Nat.blt 0 2=true:=rfl;refine eD fit aJt (Aj rfl) ?_;unfold aDg;dsimp only;have cT:∀k (h:k<l.length),l.getD k V0=l[k]:=fun k h=>by simp[List.getD,h]
 simp only[↓zP,zG,seval];refine bN [3] (fun i vs H'=>cW H'/\∃v K,vs=[v]/\EE L H' v K/\GL l K/\iV (fun i=>l.getD i V0) l.length i 0 0 K) 0 l.length (Az _) (by omega) (by decide) ?_ ?_ ?_ ?_ ?_
 · simp only[zB,seval]
 · refine⟨.nil 0,.aS,[],by simp only[sm,zB,seval],.inl ⟨rfl,rfl⟩,⟨.nil,fun q hq=>by cases hq⟩,.zero⟩
 · rintro i f H1 h0 hi hk e1 ⟨hf,w,K,hv,hR,hK,hT⟩;have f0:f 0=.aU 0 3 (bS l):=hk 0 rfl;simp only[↓zP,zG,seval,e1,f0,aN];exact tB (by omega)
 · rintro i f H1 h0 hi hk e1 ⟨hf,w,K,hv,hR,hK,hT⟩;simp only[zM] at hv;have f0:f 0=.aU 0 3 (bS l):=hk 0 rfl;have w1:IntKind.i64.wrap ((i:Int)+1)=((i+1:Nat):Int):=by rw[wrap_i64 (by omega) (by omega)];rfl
   refine aF ?_;simp only[↓zP,zJ,seval,e1,w1];refine bN [3] (fun j vs H'=>cW H'/\∃v K,vs=[v]/\EE L H' v K/\GL l K/\iV (fun i=>l.getD i V0) l.length i j 0 K) (i+1) l.length (by omega) (by omega) (by decide) ?_ ?_ ?_ ?_ ?_
   · simp only[zB,seval]
   · exact⟨hf,w,K,by simp only[sm,zB,seval,hv],hR,hK,hT.j0⟩
   · rintro j f2 H2 h0 hj dP e2 ⟨hf2,w2,K2,pU,hR2,bK,hT2⟩;have k0:f2 0=.aU 0 3 (bS l):=(by rw[dP 0 rfl];simp only[zB,seval];exact f0);simp only[↓zP,zG,seval,e2,k0,aN];exact tB (by omega)
   · rintro j f2 H2 yS hj dP e2 ⟨hf2,w2,K2,pU,hR2,bK,hT2⟩;simp only[zM] at pU;have k0:f2 0=.aU 0 3 (bS l):=(by rw[dP 0 rfl];simp only[zB,seval];exact f0);have k4:f2 4=.int .i64 i:=(by rw[dP 4 rfl];simp only[zB,seval];exact e1);have wj2:IntKind.i64.wrap ((j:Int)+1)=((j+1:Nat):Int):=(by rw[wrap_i64 (by omega) (by omega)];rfl);refine aF ?_;simp only[↓zP,zJ,seval,e2,wj2];refine bN [3] (fun k vs H'=>cW H'/\∃v K,vs=[v]/\EE L H' v K/\GL l K/\iV (fun i=>l.getD i V0) l.length i j k K) (j+1) l.length (by omega) (by omega) (by decide) ?_ ?_ ?_ ?_ ?_
     · simp only[zB,seval]
     · exact⟨hf2,w2,K2,by simp only[sm,zB,seval,pU],hR2,bK,hT2.k0⟩
     · rintro k f3 H3 h0 xW mB e3 ⟨hf3,w3,K3,UA,hR3,FZ,hT3⟩;have u0:f3 0=.aU 0 3 (bS l):=(by rw[mB 0 rfl];simp only[zB,seval];exact k0);simp only[↓zP,zG,seval,e3,u0,aN];exact tB (by omega)
     · rintro k f3 H3 xl xW mB e3 ⟨hf3,w3,K3,UA,hR3,FZ,hT3⟩;simp only[zM] at UA;have u0:f3 0=.aU 0 3 (bS l):=(by rw[mB 0 rfl];simp only[zB,seval];exact k0);have u4:f3 4=.int .i64 i:=(by rw[mB 4 rfl];simp only[zB,seval];exact k4);have u5:f3 5=.int .i64 j:=(by rw[mB 5 rfl];simp only[zB,seval];exact e2);have MN:i<l.length:=(by omega);have Mk:j<l.length:=(by omega);have gi:=cF MN;have gj:=cF Mk;have gk:=cF xW;have ni:=hl _ (Ac MN);have nj:=hl _ (Ac Mk);have nk:=hl _ (Ac xW);have hnm:=Yq ni nj nk hM;have hMM:(M+M)*(M+M)<=2^19*2^19:=Bq (by omega) (by omega);have hBM:2*((M+M)*(M+M))*M<=2^39*2^18:=Bq (by omega) hM;have aUl:bT (2*((M+M)*(M+M))) (gJ (aI.aT (aI.sub l[j] l[i]) (aI.sub l[k] l[i]))):=tG (kK (fV nj ni) (fV nk ni))
       have qQ:fB (fun i=>l.getD i V0) i j k=(gJ (aI.aT (aI.sub l[j] l[i]) (aI.sub l[k] l[i])),aI.dot (gJ (aI.aT (aI.sub l[j] l[i]) (aI.sub l[k] l[i]))) l[i]):=by simp only[fB,vec,cT i MN,cT j Mk,cT k xW]
       have hcd:∀q,q∈iS (fun i=>l.getD i V0) i j k↔(fB (fun i=>l.getD i V0) i j k).1≠V0/\(q=fB (fun i=>l.getD i V0) i j k\/q=(aI.neg (fB (fun i=>l.getD i V0) i j k).1,-(fB (fun i=>l.getD i V0) i j k).2)):=fun q=>by
        unfold iS;by_cases hz:(fB (fun i=>l.getD i V0) i j k).1=V0
        · rw[if_pos hz];exact⟨fun h=>(by cases h),fun h=>absurd hz h.1⟩
        rw[if_neg hz,Ap,Bn];exact⟨fun h=>⟨hz,h⟩,fun h=>h.2⟩
       rw[qQ] at hcd;generalize gJ (aI.aT (aI.sub l[j] l[i]) (aI.sub l[k] l[i]))=n0 at *;generalize hBv:2*((M+M)*(M+M))=B at *;have hp:∀k (h:k<l.length),l.getD k V0=l[k]:=cT;refine aF ?_;refine bQ ?_;refine lN 1 (by decide) hf3.at1 fun H4 n4 e4=>?_;simp only[↓zP,zJ,seval,zD,u0,u4,u5,e3,aB,aN,MN,Mk,xW,gi,gj,gk,oL (aM l[i]),oL (aM l[j]),oL (aM l[k])];refine eE (hnm _) ?_;simp only[↓zP,zJ,seval,zD,oL (aM n0)];refine bR ?_;generalize hX:(H4.set H3.next _).set H3.next _=H5;have y7:H5.get H3.next=some (.cells (cG n0) false):=(by subst hX;rw[aA.aC,if_pos rfl]);have yn:H3.next<H5.next:=by subst hX;simp only[aA.aW];omega
       have yf:cW H5:=fun j hj=>by subst hX;simp only[aA.aW] at hj;rw[aA.aC,if_neg (by omega),aA.aC,if_neg (by omega),e4];exact hf3 j (by omega)
       have yr:EE L H5 w3 K3:=by refine hR3.yq (by omega) fun k h1 h2=>?_;subst hX;rw[aA.aC,if_neg (by omega),aA.aC,if_neg (by omega),e4];exact h2
       clear hX;simp only[↓zP,zJ,seval]
       let nn:Nat->aI.V:=fun t=>if t=1 then aI.neg n0 else n0
       have bDu:∀t,bT B (nn t):=fun t=>by
        simp only[nn];split
        · exact JB aUl
        exact aUl
       have bDv:∀t,nn t=V0↔n0=V0:=fun t=>by
        simp only[nn];split
        · constructor
          · intro h;exact Ey fun hc=>TO hc h
          intro h;rw[h];rfl
        exact Iff.rfl
       have aTv:∀t,t<2->n0≠V0->(nn t,aI.dot (nn t) l[i])∈iS (fun i=>l.getD i V0) i j k:=fun t ht hz=>by
        rw[hcd];refine⟨hz,?_⟩
        match t,ht with
        |0,_=>exact .inl rfl
        |1,_=>exact .inr (by simp only[nn,if_true,oZ])
       refine bN [3] (fun t vs H'=>H'.get H3.next=some (.cells (cG (nn t)) false)/\H3.next<H'.next/\cW H'/\∃v K',vs=[v]/\EE L H' v K'/\GL l K'/\(∀q∈K3,q∈K')/\∀u,u<t->n0≠V0->pP (fun i=>l.getD i V0) l.length (nn u) (aI.dot (nn u) l[i])->(nn u,aI.dot (nn u) l[i])∈K') 0 2 (by decide) (by decide) (by decide) ?_ ?_ ?_ ?_ ?_
       · simp only[zB,seval]
       · exact⟨y7,yn,yf,w3,K3,by simp only[sm,zB,seval,UA],yr,FZ,fun q hq=>hq,fun u hu=>absurd hu (As _)⟩
       · rintro t f6 H6 h0 ht hk6 e6 ⟨g7,gn,gf,w6,K6,hv6,hR6,hK6,AN,wM⟩;simp only[↓zP,zG,seval,e6];exact tB (by omega)
       · rintro t f6 H6 h0 ht hk6 e6 ⟨g7,gn,gf,w6,K6,hv6,hR6,hK6,AN,wM⟩;simp only[zM] at hv6;have v0:f6 0=.aU 0 3 (bS l):=(by rw[hk6 0 rfl];simp only[zB,seval];exact u0);have v4:f6 4=.int .i64 i:=(by rw[hk6 4 rfl];simp only[zB,seval];exact u4);have v7:f6 7=.ref H3.next 0:=hk6 7 rfl;have hnB:=bDu t;have hnV:=bDv t;have bCs:=aTv t ht
         have xt:nn (t+1)=aI.sub V0 (nn t):=by
          match t,ht with
          |0,_=>simp[nn,aI.neg,aI.sub,V0]
          |1,_=>simp[nn,aI.neg,aI.sub,V0]
         have hd:=qM hnB ni (by omega)
         have aQo:∀K':List (aI.V×Int),(∀q∈K6,q∈K')->(n0≠V0->pP (fun i=>l.getD i V0) l.length (nn t) (aI.dot (nn t) l[i])->(nn t,aI.dot (nn t) l[i])∈K')->∀u,u<t+1->n0≠V0->pP (fun i=>l.getD i V0) l.length (nn u) (aI.dot (nn u) l[i])->(nn u,aI.dot (nn u) l[i])∈K':=fun K' h1 h2 u hu hz hF=>by
          by_cases e:u=t
          · subst e;exact h2 hz hF
          exact h1 _ (wM u (by omega) hz hF)
         rw[xt];have ex:=fun H=>Vz 0 hl (by omega) (n:=nn t) (d:=aI.dot (nn t) l[i]) hnB (by omega) H
         have hF:n0≠V0->(CU l (nn t,aI.dot (nn t) l[i])=true↔pP (fun i=>l.getD i V0) l.length (nn t) (aI.dot (nn t) l[i])):=fun hz=>by
          rw[JF];constructor
          · rintro⟨h1,h2⟩;exact xY MN Mk xW (bCs hz) h1 h2
          intro h;exact⟨h.le,h.lt⟩
         have kn:=fun H=>hR6.sound (nf L K6 (by have :=hK6.len hlen;omega) (nn t) H);have hsb:=xF (a:=V0) (b:=nn t) (A:=0) (B:=B) ⟨by decide,by decide,by decide⟩ hnB (by omega);generalize nn t=n at *;generalize Zv:aI.dot n l[i]=d at *;refine aF ?_;refine bQ ?_;refine Dz ?_;simp only[↓zP,zJ,seval,zD,v0,v4,v7,g7,aB,aN,MN,gi,oL (aM l[i]),oL (aM n)];refine eE (hd _) ?_;simp only[↓zP,zJ,seval,zD];refine fM ?_;simp only[↓zP,zJ,seval,hv6,v7,g7,oL (aM n)];refine bW (kn _) ?_;simp only[↓zP,zG,seval];refine fM ?_;simp only[↓zP,zJ,seval,v7,g7,oL (aM n),HH];refine bR ?_;refine aG fun K7 hK7=>?_
         have fin:∀(f7:dD) (H7:aA) (w':AV) (K':List (aI.V×Int)),f7 3=w'->EE L H7 w' K'->f7 7=.ref H3.next 0->H7.get H3.next=some (.cells (cG n) false)->H3.next<H7.next->cW H7->GL l K'->(∀q∈K6,q∈K')->(n0≠V0->pP (fun i=>l.getD i V0) l.length n d->(n,d)∈K')->K7 f7 [] H7:=by
          intro f7 H7 w' K' a3 ar a7 ag an af aK as1 as2;apply hK7;clear hK7 K7;simp only[↓zP,zJ,seval,a7,ag,oL (aM n)];rw[show [AV.int .i64 0,.int .i64 0,.int .i64 0]=cG V0 from rfl];refine bW (hsb _) ?_;simp only[↓zP,zJ,seval,a7,ag,oL (aM n),oL (aM (aI.sub V0 n))]
          refine⟨trivial,an,af.set an _,w',K',by rw[a3],ar.yq (by simp) (fun k h1 h2=>by
           rw[aA.aC];split
           · rename_i e;subst e;rw[ag] at h2;cases h2
           exact h2),aK,fun q hq=>as1 q (AN q hq),aQo K' as1 as2⟩
         cases xm:K6.any fun q=>decide (q.1=n) with
         |true=>simp only[↓zP,zJ,seval];exact fin _ H6 w6 K6 (by simp only[zB,seval];exact hv6) hR6 (by simp only[zB,seval];exact v7) g7 gn gf hK6 (fun q hq=>hq) (fun _ hFq=>hK6.known (q:=(n,d)) xm hFq)
         |false=>
          by_cases hz:n=V0
          · have d1:=Af hz;simp only[↓zP,zJ,seval,d1];exact fin _ H6 w6 K6 (by simp only[zB,seval];exact hv6) hR6 (by simp only[zB,seval];exact v7) g7 gn gf hK6 (fun q hq=>hq) (fun h=>absurd (hnV.1 hz) h)
          have d1:=Ae hz;have QL:n0≠V0:=fun h=>hz (hnV.2 h);simp only[↓zP,zJ,seval,d1,v0,v7,g7,oL (aM n)];refine bW (ex _) ?_
          cases Sy:CU l (n,d) with
          |false=>
           simp only[↓zP,zG,seval]
           exact fin _ H6 w6 K6 (by simp only[zB,seval];exact hv6) hR6 (by simp only[zB,seval];exact v7) g7 gn gf hK6 (fun q hq=>hq) (fun _ hFq=>by
            have :=(hF QL).2 hFq
            rw[Sy] at this;cases this)
          |true=>
           have hFq:=(hF QL).1 Sy;have hqS:(n,d)∈S:=(hS.fl.mem (n,d)).2 hFq;have bEd:=fun H=>WH 0 hl hM hlen (d:=d) hnB (by omega) (hS.po (n,d) hqS) H;have bDi:=fun H=>hR6.sound (Yn L K6 (hK6.len hlen) (n,d) H);simp only[↓zP,zG,seval];refine Dz ?_;simp only[↓zP,zJ,seval,zD,hv6,v0,v7,g7,oL (aM n)];refine eE (bEd _) ?_;simp only[↓zP,zJ,seval,zD,cG];rw[show [AV.int .i64 n.x,.int .i64 n.y,.int .i64 n.z,.int .i64 d,.aU 0 1 (yE (L (n,d)))]=cU L (n,d) from rfl];refine nA (by decide) (by simp only[sm,zB,seval]) (bDi _) (by simp) (fun x hx hp=>?_) ?_
           · have hx7:x.2=H3.next:=by
              simp only[Ap,Br,Dq] at hx
              rcases hx with rfl|rfl<;>rfl
             rw[hx7,aA.aJ,if_neg (by omega)]
           simp only[↓zP,zJ,seval,zD];exact fin _ (H6.alloc .tok) _ (uQ (n,d) K6) (by simp only[zB,seval]) (.inr ⟨fun h=>by have :=OI (n,d) K6;rw[h] at this;simp at this,H6.next,rfl,by simp,by rw[aA.aJ,if_pos rfl]⟩) (by simp only[zB,seval];exact v7) (by rw[aA.aJ,if_neg (by omega)];exact g7) (by simp only[aA.aZ];omega) (gf.alloc _) (hK6.ins hFq xm) (fun q hq=>AP.2 (.inr hq)) (fun _ _=>AP.2 (.inl rfl))
       rintro f6 H6 hk6 ⟨g7,gn,gf,w6,K6,hv6,hR6,hK6,AN,wM⟩;simp only[↓zP,seval];refine⟨gf,w6,K6,hv6,hR6,hK6,hT3.step AN fun q hq hF=>?_⟩;obtain⟨hz,h⟩:=(hcd q).1 hq
       rcases h with rfl|rfl
       · exact wM 0 (by decide) hz hF
       have :=wM 1 (by decide) hz (by simp only[nn,if_true,oZ];exact hF);simpa only[nn,if_true,oZ] using this
     rintro f3 H3 mB ⟨hf3,w3,K3,UA,hR3,FZ,hT3⟩;simp only[↓zP,seval];exact⟨hf3,w3,K3,UA,hR3,FZ,hT3.kN⟩
   rintro f2 H2 dP ⟨hf2,w2,K2,pU,hR2,bK,hT2⟩;simp only[↓zP,seval];exact⟨hf2,w2,K2,pU,hR2,bK,hT2.jN⟩
 rintro f H1 hk ⟨hf,w,K,hv,hR,hK,hT⟩;simp only[zM] at hv;have :K=S:=oV.uniq ⟨hT.all hK.is,hK.Rw⟩ hS.fl;subst this;simp only[↓zP,seval,hv];refine Rx ?_;exact⟨w,rfl,hR⟩
theorem PC (tag:Nat) {l:List aI.V} {M:Nat} (hl:∀v∈l,bT M v) (hM:M<=2^18) (hlen:l.length<=64) {S:List (aI.V×Int)} {L:aI.V×Int->List Nat} (hS:wD l S L) (H:aA):
 Sg 180 [.aU tag 3 (bS l)] H (.ret (yZ L S)) H:=(EE.aTq (by simp only[sf,cV (show Nat.blt 0 2=true from rfl)]) (Ly hl hM hlen hS) H).CV tag
theorem WA (tag:Nat) {l:List aI.V} {M:Nat} (hl:∀v∈l,bT M v) (hM:M<=2^18) (hlen:l.length<=64) {S:List (aI.V×Int)} {L:aI.V×Int->List Nat} (hS:wD l S L) (cK:S≠[]) (H:aA):
 Sg 180 [.aU tag 3 (bS l)] H (.ret (.aU (H.next+2) 5 (S.map (cU L)))) (H.alloc .tok):=by
 refine(mI eU (by simp only[sf,cV (show Nat.blt 0 2=true from rfl)]) (by simpa using cK) (dW (qE L) S) ?_ H).CV tag;obtain⟨out,H',⟨v,h1,h2⟩,hS'⟩:=Ly hl hM hlen hS;refine⟨out,H',⟨v,h1,?_⟩,hS'⟩
 rcases h2 with ⟨h,_⟩|⟨_,k,e,h3,h4⟩
 · exact absurd h cK
 exact .inr ⟨k,e,h3,h4⟩
def wS (x:aI.V):List aI.V->List aI.V
 |[]=>[x]
 |o::r=>if uJ x o then x::o::r else if o=x then o::r else o::wS x r
theorem TJ {x:aI.V}:∀{S:List aI.V} {i:Nat},(∀s∈S.take i,uJ x s=false/\s≠x)->wS x S=S.take i++wS x (S.drop i)
 |[],i,_=>by simp
 |s::r,0,_=>by simp
 |s::r,i+1,h=>by have h1:=h s (by simp);have ih:=TJ (x:=x) (S:=r) (i:=i) fun y hy=>h y (by simp[hy]);rw[wS,h1.1,if_neg (by decide),if_neg h1.2,Dl,Iz,Fc,<-ih]
theorem VU (x:aI.V):∀S:List aI.V,(wS x S).length<=S.length+1
 |[]=>Ak _
 |s::r=>by
  have :=VU x r;unfold wS;split
  · simp
  split
  · simp
  simp;omega
theorem OJ {x y:aI.V}:∀{S:List aI.V},y∈wS x S↔y=x\/y∈S
 |[]=>by simp[wS]
 |s::r=>by
  unfold wS;split
  · simp
  split
  · rename_i h;subst h;simp
  rw[Ap,OJ,Ap];constructor
  · rintro(h|h|h)
    · exact .inr (.inl h)
    · exact .inl h
    exact .inr (.inr h)
  rintro(h|h|h)
  · exact .inr (.inl h)
  · exact .inl h
  exact .inr (.inr h)
theorem VV {x:aI.V}:∀{S:List aI.V},S.Pairwise iI->(wS x S).Pairwise iI
 |[],_=>by simp[wS]
 |s::r,h=>by
  have h':=Cl.1 h;unfold wS
  cases hv:uJ x s with
  |true=>
   have hq:=BM.1 hv;rw[if_pos rfl,Cl];refine⟨fun y hy=>?_,h⟩
   rcases Ap.1 hy with rfl|hy
   · exact hq
   exact iI.trans hq (h'.1 y hy)
  |false=>
   rw[if_neg (by decide)];by_cases he:s=x
   · rw[if_pos he];exact h
   rw[if_neg he,Cl]
   have hsq:iI s x:=by
    rcases iI.total he with h1|h1
    · exact h1
    rw[BM.2 h1] at hv;cases hv
   refine⟨fun y hy=>?_,VV h'.2⟩
   rcases OJ.1 hy with rfl|hy
   · exact hsq
   exact h'.1 y hy
theorem aBg {l C:List aI.V} (hlen:l.length<=64) (hC:Ord l C) (H:aA):
 Sg 179 [.aU 0 3 (bS l)] H (.ret (kC 3 (bS C))) H:=by
 have RP:Nat.blt 0 2=true:=rfl;refine dL fit eU aJs (Aj rfl) (by simp only[sf,cV RP]) ?_ H;unfold aDf;dsimp only;simp only[↓zP,zG,seval];refine bN [3] (fun i vs H'=>∃v X,vs=[v]/\Own H' 3 v (bS X)/\(X=[]->v=.aS)/\X.Pairwise iI/\(∀y,y∈X↔y∈l.take i)/\X.length<=i) 0 l.length (Az _) (by omega) (by decide) ?_ ?_ ?_ ?_ ?_
 · simp only[zB,seval]
 · exact⟨.aS,[],by simp only[sm,zB,seval],.nil _ _,fun _=>rfl,.nil,fun y=>by simp,Ak _⟩
 · rintro i f H1 h0 hi hk e1 ⟨v,X,hv,ho,hn,hs,hm,hl⟩;have f0:f 0=.aU 0 3 (bS l):=hk 0 rfl;simp only[↓zP,zG,seval,e1,f0,aN];exact tB (by omega)
 · rintro i f H1 h0 hi hk e1 ⟨v,X,hv,ho,hn,hs,hm,hl⟩;simp only[zM] at hv;have f0:f 0=.aU 0 3 (bS l):=hk 0 rfl;have MM:(bS l).getD i []=cG l[i]:=eR hi;have nM:l.take (i+1)=l.take i++[l[i]]:=by rw[Al];simp[hi]
   rw[nM];generalize l[i]=x at *;have dx:(cG x).length=3:=rfl;refine aF ?_;refine aG fun K hK=>?_;simp only[↓zP,zG,seval];apply hK;clear hK K;refine aG fun K hK=>?_;simp only[↓zP,zG,seval];apply hK;clear hK K;refine aG fun K hK=>?_;simp only[↓zP,zJ,seval]
   obtain⟨tg,hX3⟩:∃tg,∀j,j<X.length->f 3=.aU tg 3 (bS X):=by
    rcases ho with ⟨_,h2⟩|⟨k,rF,_,_⟩
    · exact⟨0,fun j h=>by rw[show X=[] by simpa [bS] using h2] at h;exact absurd h (As _)⟩
    exact⟨k+2,fun j h=>by rw[hv,rF]⟩
   have push:∀(HA:aA) (w:AV) (Y:List aI.V) (y:aI.V),Own HA 3 w (bS Y)->Y.length<2^21->
    ∃H5,eF HA 3 24 false w [cG y]=some (.aU (HA.next+2) 3 (bS (Y++[y])),H5)/\Own H5 3 (.aU (HA.next+2) 3 (bS (Y++[y]))) (bS (Y++[y])):=fun HA w Y y ho hY=>by
    obtain⟨H5,z1,z2,z3,z4,z5⟩:=Has.push (.inr ho) (ys:=[cG y]) (bytes:=24) rfl (by simp only[bS,Ai,Aq,Bj];omega);have e:bS (Y++[y])=bS Y++[cG y]:=(by simp only[bS,Cf,Bv,Fg]);exact⟨H5,by rw[z1,e],by rw[e];exact .inr ⟨HA.next,rfl,by omega,z3⟩⟩
   refine bN [5,6] (fun k vs H'=>∃w Y put,vs=[w,.bool put]/\Own H' 3 w (bS Y)/\(Y=[]->w=.aS)/\Y.length<=k+1/\(if put then Y++X.drop k=wS x X/\∀o∈X.drop k,o≠x else Y=X.take k/\∀s∈X.take k,uJ x s=false/\s≠x)) 0 X.length (Az _) (by omega) (by decide) ?_ ?_ ?_ ?_ ?_
   · simp only[zB,seval]
   · exact⟨.aS,[],false,by simp only[sm,zB,seval],.nil _ _,fun _=>rfl,by simp,by simp⟩
   · rintro k g H2 Nq rF ke e2 ⟨w,Y,put,hw,hoY,hnY,hlY,hp⟩;have g3:g 3=v:=by rw[ke 3 rfl];simp only[zB,seval];exact hv
     rcases ho with ⟨h1,h2⟩|⟨k',h1,_,_⟩
     · have hX0:X=[]:=(by simpa [bS] using h2);subst hX0;simp only[↓zP,zG,seval,e2,g3,h1];exact⟨trivial,trivial,Bc AV.bool (Bb.2 (by simp at rF;simp[rF]))⟩
     simp only[↓zP,zG,seval,e2,g3,h1,aN];exact tB (by omega)
   · rintro k g H2 Nq rF ke e2 ⟨w,Y,put,hw,hoY,hnY,hlY,hp⟩;simp only[zM] at hw;have g0:g 0=.aU 0 3 (bS l):=(by rw[ke 0 rfl];simp only[zB,seval];exact f0);have g4:g 4=.int .i64 i:=(by rw[ke 4 rfl];simp only[zB,seval];exact e1);have g3:g 3=.aU tg 3 (bS X):=(by rw[ke 3 rfl];simp only[zB,seval];exact hX3 k rF);have VH:(bS X).getD k []=cG X[k]:=eR rF;have dk:(cG X[k]).length=3:=rfl;have hlX:(bS X).length=X.length:=aN _;have xL:(bS l).length=l.length:=aN _;have htx:(cG x).take 3=cG x:=rfl;have aFc:(cG X[k]).take 3=cG X[k]:=rfl;have hls:=Rs x X[k];have hXs:X.length<=64:=(by omega);have hdr:X.drop k=X[k]::X.drop (k+1):=Ct rF;have nM:X.take (k+1)=X.take k++[X[k]]:=by rw[Al];simp[rF]
     have hDs:∀d∈X.drop (k+1),iI X[k] d:=by have :=hs.drop (i:=k);rw[hdr] at this;exact(Cl.1 this).1
     have hnp:(∀s∈X.take k,uJ x s=false/\s≠x)->wS x X=X.take k++wS x (X[k]::X.drop (k+1)):=fun h=>by
      have :=TJ h
      rwa [hdr] at this
     rw[hdr] at hp;rw[nM];have hTl:(X.take k).length<=k:=(by rw[Cq];exact Nat.min_le_left _ _);generalize X[k]=o at *;generalize X.take k=T at *;generalize X.drop (k+1)=D at *;refine aF ?_;refine bQ ?_;refine Dz ?_;simp only[↓zP,zJ,seval,zD,g0,g3,g4,e2,aB,hlX,xL,hi,rF,MM,VH,dx,dk,htx,aFc];refine eE (hls _) ?_;simp only[↓zP,zJ,seval,zD];refine bR ?_;refine aG fun K1 hK1=>?_
     have key:∀(f':dD) (HA:aA) (w:AV) (Y:List aI.V) (MY:Bool),f' 5=w->f' 6=.bool MY->f' 0=.aU 0 3 (bS l)->f' 3=.aU tg 3 (bS X)->f' 4=.int .i64 i->f' 7=.int .i64 k->Own HA 3 w (bS Y)->(Y=[]->w=.aS)->Y.length<=k+1->
      (if MY then((o≠x/\Y++o::D=wS x X)\/(o=x/\Y++D=wS x X))/\∀d∈D,d≠x else Y=T/\∀s∈T++[o],uJ x s=false/\s≠x)->K1 f' [] HA:=by
      intro f' HA w Y MY v5 v6 v0 v3 v4 v7 hY hYn hYl eN;apply hK1;clear hK1 K1;refine bQ ?_;refine Dz ?_;simp only[↓zP,zJ,seval,zD,v0,v3,v4,v7,aB,hlX,xL,hi,rF,MM,VH,dx,dk,htx,aFc,nF];refine bR ?_;by_cases hox:o=x
      · cases MY with
        |false=>simp only[Be,Cm] at eN;exact absurd hox (eN.2 o (by simp)).2
        |true=>
         simp only[if_true] at eN;simp only[↓zP,zJ,seval,Af hox];refine⟨w,Y,true,by simp only[seval,v5,v6],hY,hYn,by omega,?_⟩;simp only[if_true]
         rcases eN.1 with h|h
         · exact absurd hox h.1
         exact⟨h.2,eN.2⟩
      obtain⟨H5,z1,z2⟩:=push HA w Y o hY (by omega);simp only[↓zP,zJ,seval,Ae hox,v5,v3,v7,aB,hlX,rF,VH,dk,oL dk];rw[eL];simp only[z1,bZ,seval];refine⟨_,Y++[o],MY,by simp only[seval,v6],z2,fun h=>by simp at h,by simp;omega,?_⟩
      cases MY with
      |true=>
       simp only[if_true] at eN ⊢
       rcases eN.1 with h|h
       · exact⟨by rw[<-h.2];simp,eN.2⟩
       exact absurd h.1 hox
      |false=>simp only[Be,Cm] at eN ⊢;rw[eN.1];exact⟨rfl,eN.2⟩
     clear hK1;refine aG fun K2 bK=>?_;refine Dz ?_
     cases put with
     |true=>
      simp only[if_true] at hp;simp only[↓zP,zJ,seval,zD,hw,mL];apply bK;clear bK K2;simp only[↓zP,zG,seval]
      exact key _ H2 w Y true (by simp only[zB,seval];exact hw.1) (by simp only[zB,seval];exact hw.2) (by simp only[zB,seval];exact g0) (by simp only[zB,seval];exact g3) (by simp only[zB,seval];exact g4) (by simp only[zB,seval];exact e2) hoY hnY hlY (by
       simp only[if_true]
       exact⟨.inl ⟨hp.2 o (by simp),hp.1⟩,fun d hd=>hp.2 d (by simp[hd])⟩)
     |false=>
      simp only[Be,Cm] at hp;obtain⟨hYT,bM⟩:=hp;have hX':=hnp bM
      cases hb:uJ x o with
      |true=>have eZ:=BM.1 hb;obtain⟨H5,z1,z2⟩:=push H2 w Y x hoY (by omega);simp only[↓zP,zJ,seval,zD,hw];apply bK;clear bK K2;simp only[↓zP,zJ,seval,hw,g0,g4,aB,xL,hi,MM,dx,oL dx];rw[eL];simp only[z1,bZ,seval];refine key _ H5 _ (Y++[x]) true (by simp only[zB,seval]) (by simp only[zB,seval]) (by simp only[zB,seval];exact g0) (by simp only[zB,seval];exact g3) (by simp only[zB,seval];exact g4) (by simp only[zB,seval];exact e2) z2 (fun h=>by simp at h) (by simp[hYT];omega) ?_;simp only[if_true];refine⟨.inl ⟨fun h=>iI.km _ (h▸eZ),?_⟩,fun d hd h=>iI.km _ (h▸iI.trans eZ (hDs d hd))⟩;rw[hX',hYT,wS,if_pos hb];simp
      |false=>
       by_cases qx:x=o
       · obtain⟨H5,z1,z2⟩:=push H2 w Y x hoY (by omega);simp only[↓zP,zJ,seval,zD,hw,g0,g3,g4,e2,aB,hlX,rF,VH,dk,aFc,xL,hi,MM,dx,htx,nF,Af qx];apply bK;clear bK K2;simp only[↓zP,zJ,seval,hw,g0,g4,aB,xL,hi,MM,dx,oL dx];rw[eL];simp only[z1,bZ,seval];refine key _ H5 _ (Y++[x]) true (by simp only[zB,seval]) (by simp only[zB,seval]) (by simp only[zB,seval];exact g0) (by simp only[zB,seval];exact g3) (by simp only[zB,seval];exact g4) (by simp only[zB,seval];exact e2) z2 (fun h=>by simp at h) (by simp[hYT];omega) ?_;simp only[if_true];refine⟨.inr ⟨qx.symm,?_⟩,fun d hd h=>iI.km _ (h▸qx▸hDs d hd)⟩;rw[hX',hYT,wS,hb,if_neg (by decide),if_pos qx.symm,qx];simp
       simp only[↓zP,zJ,seval,zD,hw,g0,g3,g4,e2,aB,hlX,rF,VH,dk,aFc,xL,hi,MM,dx,oL dx,nF,Ae qx];apply bK;clear bK K2;simp only[↓zP,zG,seval];refine key _ H2 w Y false (by simp only[zB,seval];exact hw.1) (by simp only[zB,seval];exact hw.2) (by simp only[zB,seval];exact g0) (by simp only[zB,seval];exact g3) (by simp only[zB,seval];exact g4) (by simp only[zB,seval];exact e2) hoY hnY hlY ?_;simp only[Be,Cm];refine⟨hYT,fun s FE=>?_⟩
       rcases An.1 FE with h|h
       · exact bM s h
       rw[Bn] at h;subst h;exact⟨hb,fun h=>qx h.symm⟩
   rintro g H2 ke ⟨w,Y,put,hw,hoY,hnY,hlY,hp⟩;simp only[zM] at hw;have g0:g 0=.aU 0 3 (bS l):=(by rw[ke 0 rfl];simp only[zB,seval];exact f0);have g4:g 4=.int .i64 i:=(by rw[ke 4 rfl];simp only[zB,seval];exact e1);have xL:(bS l).length=l.length:=aN _;have htx:(cG x).take 3=cG x:=rfl;rw[Gk,Cd,Ao] at hp
   have done:∀(HA:aA) (w':AV) (Y':List aI.V),Own HA 3 w' (bS Y')->(Y'=[]->w'=.aS)->Y'=wS x X->∃v X',[w']=[v]/\Own HA 3 v (bS X')/\(X'=[]->v=.aS)/\X'.Pairwise iI/\(∀y,y∈X'↔y∈l.take i++[x])/\X'.length<=i+1:=fun HA w' Y' h1 h2 h3=>⟨w',Y',rfl,h1,h2,h3▸VV hs,fun y=>by rw[h3,OJ,An,Bn,hm];exact Or.comm,by have :=VU x X;rw[h3];omega⟩
   simp only[gD];apply hK;clear hK K
   cases put with
   |true=>simp only[if_true] at hp;simp only[↓zP,zJ,seval,hw];exact done H2 w Y hoY hnY hp.1
   |false=>simp only[Be,Cm] at hp;obtain⟨H5,z1,z2⟩:=push H2 w Y x hoY (by omega);simp only[↓zP,zJ,seval,hw,g0,g4,aB,xL,hi,MM,dx,oL dx];rw[eL];simp only[z1,bZ,seval];refine done H5 _ _ z2 (fun h=>by simp at h) ?_;have :=TJ (x:=x) (S:=X) (i:=X.length) (by rw[Ao];exact hp.2);rw[this,Ao,Gk,hp.1];rfl
 rintro f H1 hk ⟨v,X,hv,ho,hn,hs,hm,hl⟩;simp only[zM] at hv;rw[Ao] at hm;have hXC:X=C:=Ord.uniq ⟨hs,hm⟩ hC;subst hXC;simp only[↓zP,seval,hv];refine Rx ?_;refine⟨v,0,rfl,?_⟩
 rcases ho with ⟨rfl,h2⟩|⟨k,rfl,_,_⟩
 · rw[show X=[] by simpa [bS] using h2];exact fun _=>rfl
 have cK:X≠[]:=fun h=>by cases hn h
 have JX:dM (bS X)=true:=by have :=cV RP X;simpa [AV.free] using this
 have DK:kC 3 (bS X)=.aU 0 3 (bS X):=by simp[kC,bS,cK]
 intro nw;rw[DK];simp[gK,fU,JX,FW]
theorem Yr (tag:Nat) {l C:List aI.V} (hlen:l.length<=64) (hC:Ord l C) (H:aA):
 Sg 179 [.aU tag 3 (bS l)] H (.ret (kC 3 (bS C))) H:=(aBg hlen hC H).CV tag
theorem WJ (H:aA):Sg 179 [.aS] H (.ret .aS) H:=by
 refine So aJs (by simp only[sf]) ?_ H;unfold aDf;dsimp only;simp only[↓zP,zG,seval];refine bN [3] (fun i vs H'=>vs=[.aS]) 0 0 (Az _) (by omega) (by decide) ?_ ?_ ?_ ?_ ?_
 · simp only[zB,seval]
 · simp only[sm,zB,seval]
 · rintro i f H1 h0 hi hk e1 hv;have f0:f 0=.aS:=hk 0 rfl;simp only[↓zP,zG,seval,e1,f0];exact tB (by omega)
 · rintro i f H1 h0 hi hk;exact absurd hi (As _)
 rintro f H1 hk hv;simp only[zM] at hv;simp only[↓zP,seval,hv];refine Rx ?_;rfl
theorem Lx (H:aA):Sg 180 [.aS] H (.ret .aS) H:=by
 refine So aJt (by simp only[sf]) ?_ H;unfold aDg;dsimp only;simp only[↓zP,zG,seval];refine bN [3] (fun i vs H'=>vs=[.aS]) 0 0 (Az _) (by omega) (by decide) ?_ ?_ ?_ ?_ ?_
 · simp only[zB,seval]
 · simp only[sm,zB,seval]
 · rintro i f H1 h0 hi hk e1 hv;have f0:f 0=.aS:=hk 0 rfl;simp only[↓zP,zG,seval,e1,f0];exact tB (by omega)
 · rintro i f H1 h0 hi hk;exact absurd hi (As _)
 rintro f H1 hk hv;simp only[zM] at hv;simp only[↓zP,seval,hv];refine Rx ?_;rfl
theorem aSp {l C:List aI.V} (hlen:l.length<2^30) (hC:Ord l C) {S:List (aI.V×Int)} {L:aI.V×Int->List Nat} (hS:wD C S L) (H:aA):
 Sg 122 [.aU 0 3 (bS l)] H (.ret (.agg [(iT l C S L).1,.int .i64 (iT l C S L).2])) H:=by
 have RP:Nat.blt 0 2=true:=rfl;refine dL fit eU aJg (Aj rfl) (by simp only[sf,cV RP]) ?_ H;unfold aCt;dsimp only;refine bQ ?_;simp only[↓zP,zG,seval];refine fM ?_;simp only[↓zP,zJ,seval,aN];refine⟨fun h=>?_,fun hle=>?_⟩
 · have Nr:64<l.length:=by omega
   refine Rx ?_;rw[show iT l C S L=(.aS,2) from if_pos Nr];exact⟨_,2,rfl,fun nw=>rfl⟩
 have Nr:¬(64<l.length):=by omega
 refine fM ?_;simp only[↓zP,zG,seval];refine bN [] (fun i _ H=>(∀v∈l.take i,aw v=true)/\H.get 0=some (.cells [.aS,.int .i64 0] false)/\1<=H.next) 0 l.length (Az _) (by omega) (by decide) ?_ ?_ ?_ ?_ ?_
 · simp only[zB,seval]
 · exact⟨fun v hv=>by simp at hv,by simp only[zI,seval],by simp only[zI,seval]⟩
 · rintro i f H1 h0 hi hk e1 ⟨gG,g0,hn⟩;have f0:f 0=.aU 0 3 (bS l):=hk 0 rfl;simp only[↓zP,zG,seval,e1,f0,aN];exact tB (by omega)
 · rintro i f H1 h0 hi hk e1 ⟨gG,g0,hn⟩;have f0:f 0=.aU 0 3 (bS l):=hk 0 rfl;have f2:f 2=.ref 0 0:=hk 2 rfl;have hg:=cF hi;have vO:=Ac hi
   have hx:∀v,v∈l.take (i+1)->v∈l.take i\/v=l[i]:=fun v hv=>by
    rw[Al,An] at hv
    rcases hv with h|h
    · exact .inl h
    simp[hi] at h;exact .inr h
   generalize l[i]=x at *;refine aF ?_;refine bQ ?_;simp only[↓zP,zG,seval];refine bR ?_;refine bN [] (fun j _ H=>(∀c,c<j->¬(x.at c>262144)/\¬(x.at c< -262144))/\H.get 0=some (.cells [.aS,.int .i64 0] false)/\1<=H.next) 0 3 (Az _) (by decide) (by decide) ?_ ?_ ?_ ?_ ?_
   · simp only[zB,seval]
   · exact⟨fun c hc=>absurd hc (As _),g0,hn⟩
   · rintro j g H2 Nq hj dP e2 hJ;simp only[↓zP,zG,seval,e2];exact tB (by omega)
   · rintro j g H2 Nq hj dP e2 ⟨hc,EV,JZ⟩;have u0:g 0=.aU 0 3 (bS l):=(by rw[dP 0 rfl];simp only[zB,seval];exact f0);have u2:g 2=.ref 0 0:=(by rw[dP 2 rfl];simp only[zB,seval];exact f2);have u3:g 3=.int .i64 i:=(by rw[dP 3 rfl];simp only[zB,seval];exact e1);have Mj:j<=2:=by omega
     have EX:(x.at j>262144\/x.at j< -262144)->l.all aw=false:=fun h=>by rw[<-Fe,Aw];intro ha;have :=ha x vO;simp only[aw,Aw,Ba,Bg] at this;have :=this j hj;omega
     refine aF ?_;have Wh:1<=(List.drop j (cG x)).length:=(by rw[Hi,aM];omega);have hdg:(List.drop j (cG x)).getD 0 aD=.int .i64 (x.at j):=(by rw[<-jP x hj];simp[List.getD]);refine aG fun K2 bK=>?_;by_cases c1:x.at j>262144
     · have d1:=Af c1;simp only[↓zP,zJ,seval,e2,u0,u3,aB,aN,hi,hg,hj,Wh,hdg,d1];apply bK;clear bK K2;simp only[↓zP,zJ,seval,u2,EV];refine⟨rfl,_,by simp only[↓zP,zR,seval,u2];rfl,?_⟩;rw[show iT l C S L=(.aS,1) from (if_neg Nr).trans (if_pos (EX (by omega)))];exact⟨_,2,rfl,fun nw=>rfl⟩
     have d1:=Ae c1;by_cases c2:x.at j< -262144
     · have d2:=Af c2;simp only[↓zP,zJ,seval,e2,u0,u3,aB,aN,hi,hg,hj,Wh,hdg,d1,d2];apply bK;clear bK K2;simp only[↓zP,zJ,seval,u2,EV];refine⟨rfl,_,by simp only[↓zP,zR,seval,u2];rfl,?_⟩;rw[show iT l C S L=(.aS,1) from (if_neg Nr).trans (if_pos (EX (by omega)))];exact⟨_,2,rfl,fun nw=>rfl⟩
     have d2:=Ae c2;simp only[↓zP,zJ,seval,e2,u0,u3,aB,aN,hi,hg,hj,Wh,hdg,d1,d2];apply bK;clear bK K2;simp only[↓zP,zG,seval];refine⟨fun c h=>?_,EV,JZ⟩;by_cases hcj:c=j
     · subst hcj;exact⟨c1,c2⟩
     exact hc c (by omega)
   rintro f2 H2 dP ⟨hc,EV,JZ⟩;simp only[↓zP,seval];refine⟨fun v hv=>?_,EV,JZ⟩
   rcases hx v hv with h|rfl
   · exact gG v h
   simp only[aw,Aw,Ba,Bg];exact fun c h=>hc c h
 rintro f H1 hk ⟨gG,g0,hn⟩;rw[Ao] at gG;have bM:l.all aw=true:=Aw.2 gG;have f0:f 0=.aU 0 3 (bS l):=hk 0 rfl;have a2:f 2=.ref 0 0:=hk 2 rfl;simp only[↓zP,seval];refine bR ?_;have hNr:∀v∈C,bT (2^18) v:=fun v hv=>OG.1 (gG v ((hC.mem v).1 hv))
 have hCl:C.length<=64:=by have :=tY C l (Ha (fun {a b} (h:iI a b) (e:a=b)=>iI.km b (by rw[e] at h;exact h)) hC.Rw) fun v hv=>(hC.mem v).1 hv;omega
 have qQ:∀H,Sg 180 [kC 3 (bS C)] H (.ret (yZ L S)) H:=fun H=>by
  by_cases hc:C=[]
  · subst hc
    have wg:S=[]:=Fb.2 fun q hq=>by obtain⟨i,j,k,_,_,h,_⟩:=gC ((hS.fl.mem q).1 hq);exact absurd h (As _)
    subst wg;exact Lx H
  rw[show kC 3 (bS C)=.aU 0 3 (bS C) from if_neg (by simpa [bS] using hc)];exact PC 0 hNr (Ak _) hCl hS H
 have RO:∀H,Sg 179 [.aU 0 3 (bS l)] H (.ret (kC 3 (bS C))) H:=Yr 0 (by omega) hC;refine bQ ?_;simp only[↓zP,zG,seval,f0];refine bW (RO _) ?_;simp only[↓zP,zG,seval];refine fM ?_;simp only[↓zP,zG,seval];refine bW (qQ _) ?_;simp only[↓zP,zG,seval];refine bR ?_;by_cases qc:S=[]
 · have hO:iT l C S L=(.aS,120):=(if_neg Nr).trans ((if_neg (by rw[bM];decide)).trans (if_pos (by rw[qc];decide)));refine aG fun K hK=>?_;rw[show yZ L S=.aS by rw[qc];rfl];simp only[↓zP,zJ,seval,a2,g0];refine⟨rfl,_,by simp only[↓zP,zR,seval,a2];rfl,?_⟩;rw[hO];exact⟨_,2,rfl,fun nw=>rfl⟩
 have hS4:¬S.length<4:=by have :=hS.fl.four (NN hC.Rw) qc;omega
 have JX:yZ L S=.aU 0 5 (S.map (cU L)):=by
  rcases jG L S with ⟨h,_⟩|⟨_,h⟩
  · exact absurd h qc
  exact h
 have hCe:bS C≠[]:=fun h=>qc (Fb.2 fun q hq=>by
  obtain⟨i,j,k,_,_,h',_⟩:=gC ((hS.fl.mem q).1 hq);have :C.length=0:=by rw[<-aN,h];rfl
  omega)
 rw[show kC 3 (bS C)=.aU 0 3 (bS C) from if_neg hCe,JX];have VD:((S.length:Int)==0)=false:=Ce.2 fun h=>qc (Cw (by omega));refine bQ ?_;simp only[↓zP,zG,seval,Ai,VD];refine bR ?_;by_cases HW:64<S.length
 · have hO:iT l C S L=(.aS,2):=(if_neg Nr).trans ((if_neg (by rw[bM];decide)).trans ((if_neg hS4).trans (if_pos HW)));refine aG fun K hK=>?_;simp only[↓zP,zJ,seval,a2,g0,Ai];refine⟨fun _=>?_,fun h=>absurd HW (by omega)⟩;refine⟨rfl,_,by simp only[↓zP,zR,seval,a2];rfl,?_⟩;rw[hO];exact⟨_,2,rfl,fun nw=>rfl⟩
 refine bQ ?_;simp only[↓zP,zJ,seval,Ai];refine⟨fun h=>absurd h (by omega),fun _=>?_⟩;refine bR ?_;have hO:iT l C S L=(kC 3 (bS (gY C S L)),0):=(if_neg Nr).trans ((if_neg (by rw[bM];decide)).trans ((if_neg hS4).trans (if_neg HW)));rw[hO];refine bQ ?_;simp only[↓zP,zJ,seval];refine bR ?_;refine aG fun K hK=>?_;simp only[↓zP,zG,seval];have Wr:¬(0=H1.next):=by omega
 generalize hX:(H1.alloc _).set H1.next _=H4;have y0:H4.get 0=some (.cells [.aS,.int .i64 0] false):=by subst hX;rw[aA.aC,if_neg Wr,aA.aJ,if_neg Wr];exact g0
 have yb:H4.get H1.next=some (.cells [.aS,.int .i64 0] false):=by subst hX;rw[aA.aC,if_pos rfl]
 have yn:H4.next=H1.next+1:=by subst hX;simp only[aA.aW,aA.aZ]
 clear hX;generalize H1.next=ob at *;have Zq:(S.map (cU L)).length=S.length:=Ai ..;refine bN [] (fun i _ H'=>H'.get 0=some (.cells [.aS,.int .i64 0] false)/\ob<H'.next/\∃v,H'.get ob=some (.cells [v,.int .i64 0] false)/\Own H' 3 v (bS (((List.range i).filter (gL S L)).map fun k=>C.getD k V0))/\(((List.range i).filter (gL S L)).map (fun k=>C.getD k V0)=[]->v=.aS)) 0 C.length (Az _) (by omega) (by decide) ?_ ?_ ?_ ?_ ?_
 · simp only[zB,seval]
 · exact⟨y0,by omega,.aS,yb,.nil _ _,fun _=>rfl⟩
 · rintro i f2 H2 h0 hi dP e2 _;have u5:f2 5=.aU 0 3 (bS C):=dP 5 rfl;simp only[↓zP,zG,seval,e2,u5,aN];exact tB (by omega)
 · rintro i f2 H2 h0 hi dP e2 ⟨q0,qn,v,qv,qo,qe⟩;have u5:f2 5=.aU 0 3 (bS C):=dP 5 rfl;have u6:f2 6=.aU 0 5 (S.map (cU L)):=dP 6 rfl;have u7:f2 7=.ref ob 0:=dP 7 rfl;refine aF ?_;refine bQ ?_;simp only[↓zP,zG,seval];refine bR ?_;refine aG fun K hK=>?_;simp only[↓zP,zG,seval];refine bN [9] (fun k vs H'=>H'=H2/\vs=[.bool ((S.take k).any fun q=>(L q).contains i)]) 0 S.length (Az _) (by omega) (by decide) ?_ ?_ ?_ ?_ ?_
   · simp only[zB,seval]
   · exact⟨rfl,by simp only[sm,zB,seval];rfl⟩
   · rintro k g H3 h0 rF mB e3 _;have w6:g 6=.aU 0 5 (S.map (cU L)):=(by rw[mB 6 rfl];simp only[zB,seval];exact u6);simp only[↓zP,zG,seval,e3,w6,Zq];exact tB (by omega)
   · rintro k g H3 h0 rF mB e3 ⟨rfl,hv⟩;simp only[zM] at hv;have w6:g 6=.aU 0 5 (S.map (cU L)):=(by rw[mB 6 rfl];simp only[zB,seval];exact u6);have w8:g 8=.int .i64 i:=(by rw[mB 8 rfl];simp only[zB,seval];exact e2);have hgq:(S.map (cU L)).getD k []=cU L S[k]:=eR rF
     have nM:((S.take (k+1)).any fun q=>(L q).contains i)=(((S.take k).any fun q=>(L q).contains i)||(L S[k]).contains i):=by rw[Al,Ix];simp[rF]
     have hqS:=Ac rF;rw[nM];generalize S[k]=q at *;generalize ((S.take k).any fun q=>(L q).contains i)=b0 at *
     have hLl:(L q).length<2^30:=by obtain⟨s,r,m,e,W,h⟩:=(hS.po _ hqS).ex;rw[h,Ai,Bp];have h1:=W.le;have h2:=De (fun k=>decide (aI.dot q.1 (C.getD k V0)=q.2)) (List.range C.length);rw[Bp] at h2;have h3:(kA (fun i=>C.getD i V0) C.length q.1 q.2).length<=C.length:=h2;omega
     have d5:(cU L q).length=5:=rfl;have d4:(List.drop 4 (cU L q)).getD 0 aD=.aU 0 1 (yE (L q)):=rfl;have dl4:1<=(List.drop 4 (cU L q)).length:=Ak _;refine aF ?_;refine bQ ?_;simp only[↓zP,zG,seval];refine bR ?_;refine bN [9] (fun c vs H'=>H'=H3/\vs=[.bool (b0||((L q).take c).contains i)]) 0 (L q).length (Az _) (by omega) (by decide) ?_ ?_ ?_ ?_ ?_
     · simp only[zB,seval]
     · exact⟨rfl,by simp only[sm,zB,seval,hv];simp⟩
     · rintro c g2 H4 h0 hc Pd e4 ⟨rfl,_⟩;have x6:g2 6=.aU 0 5 (S.map (cU L)):=(by rw[Pd 6 rfl];simp only[zB,seval];exact w6);have x10:g2 10=.int .i64 k:=(by rw[Pd 10 rfl];simp only[zB,seval];exact e3);simp only[↓zP,zG,seval,e4,x6,x10,aB,Zq,rF,hgq,d4,dl4,dO];exact tB (by omega)
     · rintro c g2 H4 h0 hc Pd e4 ⟨rfl,Wn⟩;simp only[zM] at Wn;have x6:g2 6=.aU 0 5 (S.map (cU L)):=(by rw[Pd 6 rfl];simp only[zB,seval];exact w6);have x10:g2 10=.int .i64 k:=(by rw[Pd 10 rfl];simp only[zB,seval];exact e3);have x8:g2 8=.int .i64 i:=(by rw[Pd 8 rfl];simp only[zB,seval];exact w8);have hgp:=uA hc
       have htc:((L q).take (c+1)).contains i=(((L q).take c).contains i||(L q)[c]==i):=by
        rw[Cg];simp only[Dp,List.contains_iff_mem,Da,Al,Ab hc,Fv,An,Bn];constructor
        · rintro(h|h)
          · exact .inl h
          exact .inr h.symm
        rintro(h|h)
        · exact .inl h
        exact .inr h.symm
       rw[htc,<-Bool.or_assoc];generalize (L q)[c]=p at *;generalize (b0||((L q).take c).contains i)=b1 at *;have hpi:((p:Int)==(i:Int))=(p==i):=(by rw[Cg,Da,Da];omega);refine aF ?_
       cases b1 with
       |true=>simp only[↓zP,zJ,seval,Wn];exact⟨trivial,rfl⟩
       |false=>simp only[↓zP,zJ,seval,Wn,x6,x10,x8,e4,aB,Zq,rF,hgq,d4,dl4,dO,hc,hgp,hpi];exact⟨trivial,rfl⟩
     rintro g2 H4 Pd ⟨rfl,Wn⟩;rw[Ao] at Wn;simp only[↓zP,seval];exact⟨trivial,Wn⟩
   rintro g H3 mB ⟨rfl,hv⟩;rw[Ao] at hv;simp only[zM] at hv;have hP:(S.any fun q=>(L q).contains i)=gL S L i:=rfl;rw[hP] at hv;have w5:g 5=.aU 0 3 (bS C):=(by rw[mB 5 rfl];simp only[zB,seval];exact u5);have w7:g 7=.ref ob 0:=(by rw[mB 7 rfl];simp only[zB,seval];exact u7);have w8:g 8=.int .i64 i:=(by rw[mB 8 rfl];simp only[zB,seval];exact e2);have hg:=cF hi;have MM:C.getD i V0=C[i]:=by simp[List.getD,hi]
   have xf:((List.range (i+1)).filter (gL S L)).map (fun k=>C.getD k V0)=((List.range i).filter (gL S L)).map (fun k=>C.getD k V0)++(if gL S L i then [C[i]] else []):=by
    rw[Ew,Je,Cf];congr 1;simp only[Jk,Ju];split
    · rw[Bv,MM];rfl
    rfl
   have vN:(((List.range i).filter (gL S L)).map fun k=>C.getD k V0).length<=64:=by rw[Ai];have :=De (gL S L) (List.range i);rw[Bp] at this;omega
   simp only[↓zP,seval];apply hK;clear hK K;rw[xf];generalize ((List.range i).filter (gL S L)).map (fun k=>C.getD k V0)=els at *;generalize C[i]=x at *
   cases hu:gL S L i with
   |false=>rw[hu] at hv;simp only[↓zP,zJ,seval,hv];exact⟨q0,qn,v,qv,qo,qe⟩
   |true=>
    rw[hu] at hv;simp only[↓zP,zG,seval,hv];obtain⟨H5,z1,z2,z3,z4,z5⟩:=Has.push (.inr qo) (ys:=[cG x]) (bytes:=24) rfl (by rw[aN,Aq,Bj];omega);refine Dz ?_;have w2:=(z4 ob (by omega) (by rw[qv];simp)).trans qv;simp only[↓zP,zJ,seval,zD,w5,w7,w8,qv,aB,aN,hi,hg,oL (aM x)];rw[eL];simp only[z1,bZ,zJ,seval,zD,w2];refine⟨by omega,(if_neg (by omega)).trans ((z4 0 (by omega) (by rw[q0];simp)).trans q0),by omega,_,rfl,?_,fun h=>?_⟩
    · rw[show bS (els++[x])=bS els++[cG x] from by simp[bS]];exact .inr ⟨H3.next,rfl,by simp only[aA.aW];omega,by rw[aA.aC,if_neg (by omega)];exact z3⟩
    simp at h
 rintro f2 H2 dP ⟨q0,qn,v,qv,qo,qe⟩;have u2:f2 2=.ref 0 0:=by rw[dP 2 rfl];simp only[zB,seval];exact a2
 have u7:f2 7=.ref ob 0:=dP 7 rfl;simp only[↓zP,seval];apply hK;clear hK K;have hL:((List.range C.length).filter (gL S L)).map (fun k=>C.getD k V0)=gY C S L:=rfl;rw[hL] at qo qe;simp only[↓zP,zJ,seval,u2,u7,qv,q0];refine⟨rfl,_,by simp only[↓zP,zR,seval,u2];rfl,?_⟩;refine⟨_,2,rfl,fun nw=>?_⟩
 rcases qo with ⟨rfl,h⟩|⟨k,rfl,h1,h2⟩
 · rw[h];rfl
 have cK:¬bS (gY C S L)=[]:=fun h=>by have :=qe (by simpa [bS] using h);cases this
 rw[show kC 3 (bS (gY C S L))=.aU 0 3 (bS (gY C S L)) from if_neg cK];have JX:dM (bS (gY C S L))=true:=dW cE _;simp[gK,MV,fU,JX,FW,mY,AV.free]
theorem aAk (tag:Nat) {l C:List aI.V} (hlen:l.length<2^30) (hC:Ord l C) {S:List (aI.V×Int)} {L:aI.V×Int->List Nat} (hS:wD C S L) (H:aA):
 Sg 122 [.aU tag 3 (bS l)] H (.ret (.agg [(iT l C S L).1,.int .i64 (iT l C S L).2])) H:=(aSp hlen hC hS H).CV tag
theorem ml (H:aA):Sg 122 [.aS] H (.ret (.agg [.aS,.int .i64 120])) H:=by
 refine So aJg (by simp only[sf]) ?_ H;unfold aCt;dsimp only;refine bQ ?_;simp only[↓zP,zG,Nat.reduceLT];refine fM ?_;simp only[↓zP,zJ,Nat.reduceLT,Nat.reduceEqDiff,Nat.reduceAdd];refine⟨fun h=>absurd h (by decide),fun _=>?_⟩;refine bR ?_;refine aG fun K hK=>?_;simp only[↓zP,zG,Nat.reduceLT];refine bN [] (fun i _ H=>H.get 0=some (.cells [.aS,.int .i64 0] false)) 0 0 (Az _) (by omega) (by decide) ?_ ?_ ?_ ?_ ?_
 · simp only[zB];rfl
 · simp only[zI]
 · rintro i f H1 h0 hi hk e1 g0;have f0:f 0=.aS:=hk 0 rfl;simp only[↓zP,zJ,Nat.reduceLT,Nat.reduceEqDiff,e1,f0];exact tB (by omega)
 · rintro i f H1 h0 hi hk;exact absurd hi (As _)
 rintro f H1 hk g0;have f0:f 0=.aS:=hk 0 rfl;have f2:f 2=.ref 0 0:=hk 2 rfl;simp only[↓zP];apply hK;clear hK K;refine bQ ?_;simp only[↓zP,zG,Nat.reduceLT,f0];refine bW (WJ _) ?_;simp only[↓zP,zG,Nat.reduceLT];refine fM ?_;simp only[↓zP,zG,Nat.reduceLT];refine bW (Lx _) ?_;simp only[↓zP,zG,Nat.reduceLT];refine bR ?_;refine aG fun K hK=>?_;simp only[↓zP,zJ,Nat.reduceLT,Nat.reduceEqDiff,Nat.reduceAdd,f2,g0];refine⟨rfl,_,by simp only[↓zP,zR,Nat.reduceEqDiff,Nat.reduceAdd,f2,g0];rfl,?_⟩;rfl
theorem aHf {a b:List aI.V} (ha:a.length<2^30) (hb:b.length<2^30) (H:aA):
 Sg 123 [.aU 0 3 (bS a),.aU 0 3 (bS b)] H (.ret (.bool (decide (a=b)))) H:=by
 have RP:Nat.blt 0 2=true:=rfl;refine So aVl (by simp only[sf,cV RP]) ?_ H;unfold aKz;dsimp only;refine bQ ?_;simp only[↓zP,zG,Nat.reduceLT];refine bR ?_;refine aG fun K hK=>?_;by_cases hl:a.length=b.length
 · have hd:((a.length:Int) != (b.length:Int))=false:=by simp[hl]
   simp only[↓zP,zJ,Nat.reduceLT,Nat.reduceEqDiff,aN,hd];apply hK;clear hK K;refine aG fun K hK=>?_;simp only[↓zP,zG,Nat.reduceLT];refine bN [] (fun i _ H=>a.take i=b.take i) 0 a.length (Az _) (by omega) (by decide) ?_ ?_ ?_ ?_ ?_
   · simp only[zB];rfl
   · rfl
   · rintro i f H1 h0 hi hk e1 _;have f0:f 0=.aU 0 3 (bS a):=hk 0 rfl;simp only[↓zP,zJ,Nat.reduceLT,Nat.reduceEqDiff,e1,f0,aN];exact tB (by omega)
   · rintro i f H1 h0 hi hk e1 hJ;have f0:f 0=.aU 0 3 (bS a):=hk 0 rfl;have f1:f 1=.aU 0 3 (bS b):=hk 1 rfl;have hib:i<b.length:=(by omega);have g1:=cF hi;have g2:=cF hib;have d1:(cG a[i]).take 3=cG a[i]:=rfl;have d2:(cG b[i]).take 3=cG b[i]:=rfl;refine aF ?_;refine bQ ?_;refine Dz ?_;simp only[↓zP,zJ,Nat.reduceLT,Nat.reduceEqDiff,Nat.reduceAdd,zD,reduceCtorEq,e1,f0,f1,aB,aN,hi,hib,g1,g2,oL (aM a[i]),oL (aM b[i]),nF];refine bR ?_;by_cases he:a[i]=b[i]
     · simp only[↓zP,zJ,Af he];rw[Al,Al,hJ,Ab hi,Ab hib,he]
     simp only[↓zP,zJ,Nat.reduceLT,Ae he];refine Rx ?_;rw[Ae fun h=>he (by subst h;rfl)];rfl
   rintro f H1 hk hJ;rw[Ao,hl,Ao] at hJ;simp only[↓zP];apply hK;clear hK K;simp only[↓zP,zG,Nat.reduceLT];refine Rx ?_;rw[Af hJ];rfl
 have hd:((a.length:Int) != (b.length:Int))=true:=Dc.2 (by omega);simp only[↓zP,zJ,Nat.reduceLT,Nat.reduceEqDiff,aN,hd];refine Rx ?_;rw[Ae fun h=>hl (by rw[h])];rfl
theorem aAm (t1 t2:Nat) {a b:List aI.V} (ha:a.length<2^30) (hb:b.length<2^30) (H:aA):
 Sg 123 [.aU t1 3 (bS a),.aU t2 3 (bS b)] H (.ret (.bool (decide (a=b)))) H:=((aHf ha hb H).CV t1).aHp t2
theorem QQ {tag:Nat} (ht:Nat.blt tag 2=true) {l C:List aI.V} (hlen:l.length<2^30) (hC:Ord l C) {S:List (aI.V×Int)} {L:aI.V×Int->List Nat} (hS:wD C S L) (H:aA):
 Sg 87 [.agg [.aU tag 3 (bS l)]] H (.ret (.int .i64 (NS l C S L))) H:=by
 refine So bAy (by simp only[sf,cV ht]) ?_ H;unfold W87;dsimp only;have hH:=fun H=>aAk tag hlen hC hS H;unfold NS;have h0:=TE (l:=l) (C:=C) (S:=S) (L:=L);generalize iT l C S L=o at *;obtain⟨ov,oc⟩:=o;dsimp only at hH h0 ⊢;refine bQ ?_;simp only[↓zP,zJ,Nat.reduceLT];refine fM ?_;simp only[↓zP,zJ,Nat.reduceLT,Nat.reduceEqDiff];refine bW (hH _) ?_;simp only[↓zP,zJ,Nat.reduceLT,Nat.reduceEqDiff,Nat.reduceAdd];refine bR ?_;by_cases hc:oc=0
 · subst hc;obtain⟨wg,rfl,aUg⟩:=h0 rfl;have cK:=OE hS wg;have tV:kC 3 (bS (gY C S L))=.aU 0 3 (bS (gY C S L)):=if_neg (by simpa [bS] using cK);rw[tV]
   have xL:(gY C S L).length<2^30:=by have hCl:C.length<=l.length:=tY C l (Ha (fun {a b} (h:iI a b) (e:a=b)=>iI.km b (by rw[e] at h;exact h)) hC.Rw) fun v hv=>(hC.mem v).1 hv;have :=De (gL S L) (List.range C.length);rw[Bp] at this;simp only[gY,Ai];omega
   have hb:((0:Int)==0)=true:=rfl;have hE:=fun H=>aAm 0 tag xL hlen H;refine aG fun K hK=>?_;simp only[↓zP,zJ,Nat.reduceLT,Nat.reduceEqDiff,Nat.reduceAdd,Nat.reduceLeDiff,hb];refine bW (hE _) ?_;by_cases he:gY C S L=l
   · have hd:=Af he;simp only[↓zP,zJ,Nat.reduceLT,Nat.reduceEqDiff,hd];apply hK;clear hK K;simp only[↓zP,zJ,Nat.reduceLT,Nat.reduceEqDiff,Nat.reduceAdd];refine Rx ?_;rw[if_neg (fun h=>h.2 he)];rfl
   have hd:=Ae he;simp only[↓zP,zJ,Nat.reduceLT,Nat.reduceEqDiff,hd];refine Rx ?_;rw[if_pos ⟨trivial,he⟩];rfl
 have hb:(oc==0)=false:=Ce.2 hc;refine bQ ?_;simp only[↓zP,zJ,Nat.reduceLT,Nat.reduceEqDiff,Nat.reduceAdd,hb];refine bR ?_;simp only[↓zP,zJ,Nat.reduceLT,Nat.reduceEqDiff,Nat.reduceAdd];refine Rx ?_;rw[if_neg (fun h=>hc h.1)];rfl
theorem PE (H:aA):Sg 87 [.agg [.aS]] H (.ret (.int .i64 120)) H:=by
 refine So bAy (by simp only[sf]) ?_ H;unfold W87;dsimp only;refine bQ ?_;simp only[↓zP,zJ,seval];refine fM ?_;simp only[↓zP,zJ,seval];refine bW (ml _) ?_;simp only[↓zP,zJ,seval];refine bR ?_;have hb:((120:Int)==0)=false:=by decide
 refine bQ ?_;simp only[↓zP,zJ,seval,hb];refine bR ?_;simp only[↓zP,zJ,seval];refine Rx ?_;rfl
theorem PD {p:AV×List aI.V} (h:tJ p) (hlen:p.2.length<2^30) (H:aA):Sg 87 [.agg [p.1]] H (.ret (.int .i64 (pQ p.2))) H:=by
 rcases h with ⟨h1,h2⟩|h1
 · rw[h1,h2,GZ];exact PE H
 rw[h1];exact QQ rfl hlen (xH _) (pB (xH _).Rw) H
theorem Yf (tag:Nat) {l:List aI.V} {M:Nat} (hl:∀v∈l,bT M v) (hM:M<=2^18) (hlen:l.length<=64) {S:List (aI.V×Int)} {L:aI.V×Int->List Nat} (hS:wD l S L) (ht:Nat.blt tag 2=true) (H:aA):
 Sg 124 [.agg [.aU tag 3 (bS l)]] H (.ret (yZ L S)) H:=by
 refine Sp aJh (by simp only[sf,cV ht]) (by simp only[KX]) ?_ H;unfold aCu;dsimp only;have hF:=fun H=>PC tag hl hM hlen hS H;simp only[↓zP,zJ,seval];refine bW (hF _) ?_;simp only[↓zP,zG,seval];refine Rx ?_;rfl
theorem Vt (tag:Nat) {l:List aI.V} {M:Nat} (hl:∀v∈l,bT M v) (hM:M<=2^18) (hlen:l.length<=64) {S:List (aI.V×Int)} {L:aI.V×Int->List Nat} (hS:wD l S L) (cK:S≠[]) (ht:Nat.blt tag 2=true) (H:aA):
 Sg 124 [.agg [.aU tag 3 (bS l)]] H (.ret (.aU (H.next+2) 5 (S.map (cU L)))) (H.alloc .tok):=by
 refine mI eU (by simp only[sf,cV ht]) (by simpa using cK) (dW (qE L) S) ?_ H;refine eD fit aJh (Aj rfl) ?_;unfold aCu;dsimp only;have hF:=fun H=>WA tag hl hM hlen hS cK H;simp only[↓zP,zJ,seval];refine bW (hF _) ?_;simp only[↓zP,zJ,seval];refine Rx ?_;exact⟨_,rfl,.inr ⟨_,rfl,by simp,by rw[aA.aJ,if_pos (by simp)]⟩⟩
def EH (on:List Nat) (m a b:Nat):Bool:=(List.range m).any fun i=>(on.getD i 0==a&&on.getD ((i+1)%on.length) 0==b)||(on.getD i 0==b&&on.getD ((i+1)%on.length) 0==a)
def Po (S:List (aI.V×Int)) (L:aI.V×Int->List Nat) (a b:Nat):Bool:=S.any fun q=>EH (L q) (L q).length a b
def FJ (S:List (aI.V×Int)) (L:aI.V×Int->List Nat) (a j:Nat):List (Int×Int):=((List.range j).filter fun b=>decide (a<b)&&Po S L a b).map fun b:Nat=>(((a:Nat):Int),((b:Nat):Int))
def Ph (S:List (aI.V×Int)) (L:aI.V×Int->List Nat) (N i:Nat):List (Int×Int):=(List.range i).flatMap fun a=>FJ S L a N
theorem Vq (S:List (aI.V×Int)) (L:aI.V×Int->List Nat) (a j:Nat):(FJ S L a j).length<=j:=by
 rw[FJ,Ai];have :=De (fun b=>decide (a<b)&&Po S L a b) (List.range j)
 rwa [Bp] at this
theorem di (S:List (aI.V×Int)) (L:aI.V×Int->List Nat) (N i:Nat):(Ph S L N i).length<=i*N:=by
 have :=lZ (fun a=>FJ S L a N) N (fun a=>Vq S L a N) (List.range i)
 rwa [Bp] at this
theorem aAj (S:List (aI.V×Int)) (L:aI.V×Int->List Nat) (a:Nat):FJ S L a (a+1)=[]:=by
 have :((List.range (a+1)).filter fun b=>decide (a<b)&&Po S L a b)=[]:=by rw[List.filter_eq_nil_iff];intro b hb;rw[Ba] at hb;rw[Ae (by omega)];simp
 rw[FJ,this];rfl
theorem aSo {S:List (aI.V×Int)} {L:aI.V×Int->List Nat} {a j:Nat} (h:a<j):FJ S L a (j+1)=FJ S L a j++(if Po S L a j then [((a:Int),(j:Int))] else []):=by simp only[FJ];rw[Ew,Je,Cf,Jk,Ju,Af h,Cr];cases Po S L a j<;>rfl
theorem bBq (S:List (aI.V×Int)) (L:aI.V×Int->List Nat) (N i:Nat):Ph S L N (i+1)=Ph S L N i++FJ S L i N:=by simp only[Ph];rw[Ew,Fp];simp
theorem aPw (on:List Nat) (m a b:Nat):EH on (m+1) a b=(EH on m a b||((on.getD m 0==a&&on.getD ((m+1)%on.length) 0==b)||(on.getD m 0==b&&on.getD ((m+1)%on.length) 0==a))):=by simp only[EH];rw[Ew,Ix];simp
theorem mh {tag:Nat} (ht:Nat.blt tag 2=true) {l:List aI.V} {M:Nat} (hl:∀v∈l,bT M v) (hM:M<=2^18) (hlen:l.length<=64) {S:List (aI.V×Int)} {L:aI.V×Int->List Nat} (hS:wD l S L) (HW:S.length<=64) (H:aA):
 Sg 183 [.agg [.aU tag 3 (bS l)]] H (.ret (kC 2 ((Ph S L l.length l.length).map pC))) H:=by
 refine dL fit eU aXc (Aj rfl) (by simp only[sf,cV ht]) ?_ H;unfold aMm;dsimp only;have hF:=fun H=>Yf tag hl hM hlen hS ht H;have hLw:=ei hS hlen;simp only[↓zP,zJ,seval];refine bW (hF _) ?_;simp only[↓zP,zG,seval];have eZ:(bS l).length=l.length:=aN _;refine bN [3] (fun i vs H'=>H'.get 0=some (.cells [.aU tag 3 (bS l)] false)/\1<=H'.next/\∃v,vs=[v]/\Own H' 2 v ((Ph S L l.length i).map pC)/\(Ph S L l.length i=[]->v=.aS)) 0 l.length (Az _) (by omega) (by decide) ?_ ?_ ?_ ?_ ?_
 · simp only[zB,seval]
 · exact⟨by simp only[zI,seval],by simp only[zI,seval],.aS,by simp only[sm,zB,seval],.nil _ _,fun _=>rfl⟩
 · rintro i f H1 h0 hi hk e1 ⟨g0,_⟩;have f1:f 1=.ref 0 0:=hk 1 rfl;simp only[↓zP,zJ,seval,e1,f1,g0,eZ];exact tB (by omega)
 · rintro i f H1 h0 hi hk e1 ⟨g0,gn,v,hv,ho,hn⟩;simp only[zM] at hv;have f1:f 1=.ref 0 0:=hk 1 rfl;have f4:f 4=yZ L S:=hk 4 rfl;have wi:IntKind.i64.wrap ((i:Int)+1)=((i+1:Nat):Int):=(wrap_i64 (by omega) (by omega)).trans (by omega);refine aF ?_;simp only[↓zP,zJ,seval,e1,wi];refine bN [3] (fun j vs H'=>H'.get 0=some (.cells [.aU tag 3 (bS l)] false)/\1<=H'.next/\∃v,vs=[v]/\Own H' 2 v ((Ph S L l.length i++FJ S L i j).map pC)/\(Ph S L l.length i++FJ S L i j=[]->v=.aS)) (i+1) l.length (by omega) (by omega) (by decide) ?_ ?_ ?_ ?_ ?_
   · simp only[zB,seval]
   · exact⟨g0,gn,v,by simp only[sm,zB,seval,hv],by rw[aAj,Cd];exact ho,by rw[aAj,Cd];exact hn⟩
   · rintro j f2 H2 h0 hj dP e2 ⟨EV,_⟩;have u1:f2 1=.ref 0 0:=(by rw[dP 1 rfl];simp only[zB,seval];exact f1);simp only[↓zP,zJ,seval,e2,u1,EV,eZ];exact tB (by omega)
   · rintro j f2 H2 yS hj dP e2 ⟨EV,gn',v2,pU,qm,KA⟩;simp only[zM] at pU;have u4:f2 4=yZ L S:=(by rw[dP 4 rfl];simp only[zB,seval];exact f4);have u5:f2 5=.int .i64 i:=by rw[dP 5 rfl];simp only[zB,seval];exact e1
     have hXl:(Ph S L l.length i++FJ S L i j).length<2^20:=by have h1:=di S L l.length i;have h2:=Vq S L i j;have h3:i*l.length<=64*64:=Bq (by omega) hlen;rw[Au];omega
     refine aF ?_;refine bQ ?_;simp only[↓zP,zG,seval];refine bR ?_;refine aG fun K hK=>?_;simp only[↓zP,zJ,seval];refine bN [7] (fun k vs H'=>H'=H2/\vs=[.bool ((S.take k).any fun q=>EH (L q) (L q).length i j)]) 0 S.length (Az _) (by omega) (by decide) ?_ ?_ ?_ ?_ ?_
     · simp only[zB,seval]
     · exact⟨rfl,by simp only[sm,zB,seval];rfl⟩
     · rintro k f3 H3 h0 rF mB e3 _;have w4:f3 4=yZ L S:=by rw[mB 4 rfl];simp only[zB,seval];exact u4
       rcases jG L S with ⟨h,e⟩|⟨h,e⟩
       · rw[e] at w4;subst h;simp only[↓zP,zG,seval,e3,w4];exact⟨trivial,trivial,Bc AV.bool (Bb.2 (by simp at rF;simp[rF]))⟩
       rw[e] at w4;simp only[↓zP,zG,seval,e3,w4,Ai];exact tB (by omega)
     · rintro k f3 H3 h0 rF mB e3 ⟨rfl,UA⟩;simp only[zM] at UA
       have w4:f3 4=.aU 0 5 (S.map (cU L)):=by
        rw[mB 4 rfl];simp only[zB,seval];rw[u4]
        rcases jG L S with ⟨h,e⟩|⟨h,e⟩
        · rw[h] at rF;exact absurd rF (As _)
        exact e
       have w5:f3 5=.int .i64 i:=(by rw[mB 5 rfl];simp only[zB,seval];exact u5);have w6:f3 6=.int .i64 j:=(by rw[mB 6 rfl];simp only[zB,seval];exact e2);have hgq:(S.map (cU L)).getD k []=cU L S[k]:=eR rF
       have nM:((S.take (k+1)).any fun q=>EH (L q) (L q).length i j)=(((S.take k).any fun q=>EH (L q) (L q).length i j)||EH (L S[k]) (L S[k]).length i j):=by rw[Al,Ix];simp[rF]
       have Zq:(S.map (cU L)).length=S.length:=Ai ..;have hLl:=hLw _ (Ac rF);rw[nM];generalize S[k]=q at *;generalize ((S.take k).any fun q=>EH (L q) (L q).length i j)=b0 at *;have d5:(cU L q).length=5:=rfl;have d4:(List.drop 4 (cU L q)).getD 0 aD=.aU 0 1 (yE (L q)):=rfl;have dl4:1<=(List.drop 4 (cU L q)).length:=Ak _;refine aF ?_;refine bQ ?_;simp only[↓zP,zG,seval,w4,e3,aB,Zq,rF,hgq,d4,dl4];refine fM ?_;simp only[↓zP,zG,seval];refine bR ?_;generalize L q=on at *;refine bN [7] (fun c vs H'=>H'=H3/\vs=[.bool (b0||EH on c i j)]) 0 on.length (Az _) (by omega) (by decide) ?_ ?_ ?_ ?_ ?_
       · simp only[zB,seval]
       · exact⟨rfl,by simp only[sm,zB,seval,UA];simp[EH]⟩
       · rintro c f4 H4 h0 hc Pd e4 _;have x9:f4 9=.aU 0 1 (yE on):=Pd 9 rfl;simp only[↓zP,zG,seval,e4,x9,dO];exact tB (by omega)
       · rintro c f4 H4 h0 hc Pd e4 ⟨rfl,Wn⟩;simp only[zM] at Wn;have x9:f4 9=.aU 0 1 (yE on):=Pd 9 rfl;have x5:f4 5=.int .i64 i:=(by rw[Pd 5 rfl];simp only[zB,seval];exact w5);have x6:f4 6=.int .i64 j:=(by rw[Pd 6 rfl];simp only[zB,seval];exact w6);have wj:IntKind.i64.wrap ((c:Int)+1)=((c+1:Nat):Int):=(wrap_i64 (by omega) (by omega)).trans (by omega);have nz:¬((on.length:Int)=0):=(by omega);have hm:(c+1)%on.length<on.length:=Dg _ (by omega);have tm:((c+1:Nat):Int).tmod (on.length:Int)=(((c+1)%on.length:Nat):Int):=rfl;have hgp:=uA hc;have hgb:=uA hm;have Sr:∀x y:Nat,((x:Int)==(y:Int))=(x==y):=fun x y=>by rw[Cg,Da,Da];omega
         rw[aPw,<-Bool.or_assoc];rw[show on.getD c 0=on[c] by simp[List.getD,hc],show on.getD ((c+1)%on.length) 0=on[(c+1)%on.length] by simp[List.getD,hm]];generalize (b0||EH on c i j)=b1 at *;generalize on[c]=p at *;generalize on[(c+1)%on.length]=p' at *;have hA:=Sr p i;have hB:=Sr p' j;have hC:=Sr p j;have hD:=Sr p' i;generalize (p==i)=A at *;generalize (p'==j)=B at *;generalize (p==j)=C at *;generalize (p'==i)=D at *;refine aF ?_
         cases b1 with
         |true=>simp only[↓zP,zJ,seval,Wn,mL];exact⟨trivial,rfl⟩
         |false=>
          cases A with
          |true=>
           cases B with
           |true=>simp only[↓zP,zJ,seval,Wn,x9,x5,x6,e4,aB,dO,hc,hgp,hgb,wj,nz,tm,hm,hA,hB,mL];exact⟨trivial,rfl⟩
           |false=>
            cases C with
            |true=>simp only[↓zP,zJ,seval,Wn,x9,x5,x6,e4,aB,dO,hc,hgp,hgb,wj,nz,tm,hm,hA,hB,hC,hD];exact⟨trivial,rfl⟩
            |false=>simp only[↓zP,zJ,seval,Wn,x9,x5,x6,e4,aB,dO,hc,hgp,hgb,wj,nz,tm,hm,hA,hB,hC];exact⟨trivial,rfl⟩
          |false=>
           cases C with
           |true=>simp only[↓zP,zJ,seval,Wn,x9,x5,x6,e4,aB,dO,hc,hgp,hgb,wj,nz,tm,hm,hA,hC,hD];exact⟨trivial,by simp⟩
           |false=>simp only[↓zP,zJ,seval,Wn,x9,x5,x6,e4,aB,dO,hc,hgp,hA,hC];exact⟨trivial,rfl⟩
       rintro f4 H4 Pd ⟨rfl,Wn⟩;simp only[↓zP,seval];exact⟨trivial,Wn⟩
     rintro f3 H3 mB ⟨rfl,UA⟩;rw[Ao] at UA;simp only[zM] at UA;have hP:(S.any fun q=>EH (L q) (L q).length i j)=Po S L i j:=rfl;rw[hP] at UA;have w5:f3 5=.int .i64 i:=(by rw[mB 5 rfl];simp only[zB,seval];exact u5);have w6:f3 6=.int .i64 j:=(by rw[mB 6 rfl];simp only[zB,seval];exact e2);have w3:f3 3=v2:=(by rw[mB 3 rfl];simp only[zB,seval];exact pU);simp only[↓zP,seval];apply hK;clear hK K;rw[aSo (by omega),<-Di];generalize Ph S L l.length i++FJ S L i j=X at *
     cases hu:Po S L i j with
     |false=>rw[hu] at UA;simp only[↓zP,zJ,seval,UA];exact⟨EV,gn',v2,by rw[w3],qm,KA⟩
     |true=>
      rw[hu] at UA;obtain⟨H5,z1,z2,z3,z4,z5⟩:=Has.push (.inr qm) (ys:=[pC ((i:Int),(j:Int))]) (bytes:=16) rfl (by rw[Ai,Aq,Bj];omega);have hpc:[AV.int .i64 (i:Int),.int .i64 (j:Int)]=pC ((i:Int),(j:Int)):=rfl;simp only[↓zP,zJ,seval,UA,w3,w5,w6,hpc,Oo];rw[eL];simp only[z1,bZ,seval];refine⟨(z4 0 (by omega) (by rw[EV];simp)).trans EV,by omega,_,rfl,?_,fun h=>?_⟩
      · rw[Cf];exact .inr ⟨H3.next,rfl,by omega,z3⟩
      simp at h
   rintro f2 H2 dP ⟨EV,gn',v2,pU,qm,KA⟩;simp only[zM] at pU;simp only[↓zP,seval];rw[bBq];exact⟨EV,gn',v2,by rw[pU],qm,KA⟩
 rintro f H1 hk ⟨g0,gn,v,hv,ho,hn⟩;simp only[zM] at hv;simp only[↓zP,seval,hv];refine Rx ?_;refine⟨v,0,rfl,?_⟩
 rcases ho with ⟨rfl,h2⟩|⟨k,rfl,_,_⟩
 · rw[h2];exact fun _=>rfl
 have cK:¬(Ph S L l.length l.length).map pC=[]:=fun h=>by cases hn (by simpa using h)
 have JX:dM ((Ph S L l.length l.length).map pC)=true:=dW TU _;intro nw;rw[show kC 2 ((Ph S L l.length l.length).map pC)=.aU 0 2 ((Ph S L l.length l.length).map pC) from if_neg cK];simp[gK,fU,JX,FW]
end Go.Proofs.YtndkpgceodimiaaGreatDoor
