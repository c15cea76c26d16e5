/-
  Part of the proof of statement 7
-/
import Derived.Test.YtogfcjbgeebfkaaGreatDoorA32
import Derived.Test.YtogfcjbgeebfkaaGreatDoorA33
import Derived.Test.YtogfcjbgeebfkaaGreatDoorA07
import Derived.Test.YtogfcjbgeebfkaaGreatDoorA17
import Derived.Test.YtogfcjbgeebfkaaGreatDoorA24
import Derived.Test.YtogfcjbgeebfkaaGreatDoorA18
import Derived.Test.YtogfcjbgeebfkaaGreatDoorA06
import Derived.Test.YtogfcjbgeebfkaaGreatDoorA19
set_option linter.unusedVariables false
set_option linter.unusedSimpArgs false
set_option maxRecDepth 100000
set_option maxHeartbeats 16000000
namespace Go.Proofs.YtogfcjbgeebfkaaGreatDoor
open Go Go.Av Go.aD Go.lP
attribute [local congr] aY aS aV aQ bD aX aW aH bE
attribute [local irreducible] FC bT eX
theorem BO{q x:aD.V×Int}:∀{S:List (aD.V×Int)},x∈uH q S↔x=q\/x∈S
 |[]=>by simp[uH]
 |s::r=>by
  unfold uH;split
  . simp
  rw[Am,BO,Am];exact ZaQ
theorem WE{q:aD.V×Int}:∀{S:List (aD.V×Int)},(S.Pairwise fun a b=>gV a.1 b.1)->(∀s∈S,s.1≠q.1)->(uH q S).Pairwise fun a b=>gV a.1 b.1
 |[],_,_=>by simp[uH]
 |s::r,h,cG=>by
  rw[Co] at h;unfold uH
  cases hv:tZ q.1 s.1 with
  |true=>
   have hq:=CO.1 hv;rw[if_pos rfl,Co];refine⟨fun x hx=>?_,Co.2 h⟩
   rcases Am.1 hx with rfl|hx
   . exact hq
   exact gV.trans hq (h.1 x hx)
  |false=>
   rw[if_neg A1,Co]
   have hsq:gV s.1 q.1:=by
    rcases gV.total (cG s Bc) with h1|h1
    . exact h1
    rw[CO.2 h1] at hv;cases hv
   refine⟨fun x hx=>?_,WE h.2 fun x hx=>cG x (Aw _ hx)⟩
   rcases BO.1 hx with rfl|hx
   . exact hsq
   exact h.1 x hx
structure HR (l:List aD.V) (K:List (aD.V×Int)):Prop where
 RV:K.Pairwise fun a b=>gV a.1 b.1
 is:∀q∈K,nA (fun i=>l.getD i V0) l.length q.1 q.2
theorem HR.nodup{l:List aD.V}{K:List (aD.V×Int)}(h:HR l K):K.Nodup:=Hx (fun {a b} (h:gV a.1 b.1) (e:a=b)=>gV.gd b.1 (by rw[e] at h;exact h)) h.RV
theorem HR.len{l:List aD.V}{K:List (aD.V×Int)}(h:HR l K)(hl:l.length<=64):K.length<2^20:=by have h1:=sX (N:=l.length) (p:=fun i=>l.getD i V0) h.nodup h.is;have h2:l.length*(l.length*(l.length*2))<=64*(64*(64*2)):=Ba hl (Ba hl (Ba hl (Ag _)));omega
theorem HR.ins{l:List aD.V}{K:List (aD.V×Int)}(h:HR l K){q:aD.V×Int}(hq:nA (fun i=>l.getD i V0) l.length q.1 q.2)(hk:(K.any fun x=>decide (x.1=q.1))=false):HR l (uH q K) where
 RV:=WE h.RV fun s hs e=>by rw[Gu] at hk;exact hk s hs (by simpa using e)
 is:=fun x hx=>by
  rcases BO.1 hx with rfl|hx
  . exact hq
  exact h.is x hx
theorem HR.known{l:List aD.V}{K:List (aD.V×Int)}(h:HR l K){q:aD.V×Int}(hk:(K.any fun x=>decide (x.1=q.1))=true)(hq:nA (fun i=>l.getD i V0) l.length q.1 q.2):q∈K:=by
 obtain⟨x,hx,e⟩:=Cv.1 hk;have e:=Ed e;have PD:=h.is x hx;rw[e] at PD;have :=PD.uniq hq;have :x=q:=Prod.ext e this
 rwa [<-this]
def FG(L:aD.V×Int->List Nat)(H:aA)(v:AV)(K:List (aD.V×Int)):Prop:=
 (K=[]/\v=.bB)\/(K≠[]/\∃k,v=.bC (k+2) 5 (K.map (cL L))/\k<H.next/\H.get k=some .tok)
theorem FG.aCb{L:aD.V×Int->List Nat}{H H':aA}{v:AV}{K:List (aD.V×Int)}(h:FG L H v K)(hn:H.next<=H'.next)(hk:∀k,k<H.next->H.get k=some .tok->H'.get k=some .tok):FG L H' v K:=by
 rcases h with h|⟨h,k,rfl,h1,h2⟩
 . exact .inl h
 exact .inr ⟨h,k,rfl,by omega,hk k h1 h2⟩
theorem FG.sound{L:aD.V×Int->List Nat}{H:aA}{v:AV}{K:List (aD.V×Int)}(h:FG L H v K){f:FuncId}{rest:List AV}{H1 H2:aA}{out:Out}(hS:Sg f (zX L K::rest) H1 out H2):Sg f (v::rest) H1 out H2:=by
 rcases h with ⟨h1,rfl⟩|⟨h1,k,rfl,_,_⟩
 . rcases jC L K with ⟨_,e⟩|⟨h2,_⟩
   . rwa [e] at hS
   exact absurd h1 h2
 rcases jC L K with ⟨h2,_⟩|⟨_,e⟩
 . exact absurd h2 h1
 rw[e] at hS;exact hS.HE (k+2)
theorem FG.aYk{L:aD.V×Int->List Nat}{f:FuncId}{args:List AV}(ha:cM args=true){K:List (aD.V×Int)}(h:∃out H',(∃v,out=.ret v/\FG L H' v K)/\Sg f args ⟨0,.nil⟩ out H')(H:aA):Sg f args H (.ret (zX L K)) H:=by
 obtain⟨out,H',⟨v,rfl,hr⟩,hS⟩:=h;refine hS.frame eC ha (tk:=none) (fun k' rF=>by cases rF) (n:=0) H ?_
 rcases hr with ⟨rfl,rfl⟩|⟨h1,k,rfl,_,_⟩
 . rfl
 have hf:eI (K.map (cL L))=true:=dN (qH L) _
 rcases jC L K with ⟨h2,_⟩|⟨_,e⟩
 . exact absurd h2 h1
 rw[e];simp[Out.av,gT,kT,hf,ED]
theorem Mz{l:List aD.V}{M:Nat}(hl:∀v∈l,bL M v)(hM:M<=2^18)(hlen:l.length<=64){S:List (aD.V×Int)}{L:aD.V×Int->List Nat}(hS:qZ l S L):
 ∃out H',(∃v,out=.ret v/\FG L H' v S)/\Sg 180 [.bC 0 3 (bK l)] ⟨0,.nil⟩ out H':=by
 have RJ:Nat.blt 0 2=true:=rfl;refine eH fit aNk (Al rfl) ?_;unfold aGl;dsimp only;have cS:∀k (h:k<l.length),l.getD k V0=l[k]:=fun k h=>by simp[List.getD,h]
 refine Tz ?_;refine cP [3] (fun i vs H'=>bM H'/\∃v K,vs=[v]/\FG L H' v K/\HR l K/\iQ (fun i=>l.getD i V0) l.length i 0 0 K) 0 l.length (Bp _) A0 A1 ?_ ?_ ?_ ?_ ?_
 . exact zq
 . refine⟨.nil 0,.bB,[],by simp only[sm,zB,seval],.inl ⟨rfl,rfl⟩,⟨.nil,fun q hq=>by cases hq⟩,.zero⟩
 . rintro i f H1 h0 hi hk e1 ⟨hf,w,K,hv,hR,hK,hT⟩;have f0:f 0=.bC 0 3 (bK l):=hk 0 rfl;simp only[↓zP,zG,seval,e1,f0,aR];exact tB A0
 . rintro i f H1 h0 hi hk e1 ⟨hf,w,K,hv,hR,hK,hT⟩;simp only[zM] at hv;have f0:f 0=.bC 0 3 (bK l):=hk 0 rfl;have w1:IntKind.i64.wrap ((i:Int)+1)=((i+1:Nat):Int):=by rw[wrap_i64 A0 A0];rfl
   refine aP ?_;simp only[↓zP,zJ,seval,e1,w1];refine cP [3] (fun j vs H'=>bM H'/\∃v K,vs=[v]/\FG L H' v K/\HR l K/\iQ (fun i=>l.getD i V0) l.length i j 0 K) (i+1) l.length A0 A0 A1 ?_ ?_ ?_ ?_ ?_
   . exact zq
   . exact⟨hf,w,K,by simp only[sm,zB,seval,hv],hR,hK,hT.j0⟩
   . rintro j f2 H2 h0 hj eW e2 ⟨hf2,w2,K2,qK,hR2,dL,hT2⟩;have k0:f2 0=.bC 0 3 (bK l):=(by rw[eW 0 rfl];simp only[zB,seval];exact f0);simp only[↓zP,zG,seval,e2,k0,aR];exact tB A0
   . rintro j f2 H2 uU hj eW e2 ⟨hf2,w2,K2,qK,hR2,dL,hT2⟩;simp only[zM] at qK;have k0:f2 0=.bC 0 3 (bK l):=(by rw[eW 0 rfl];simp only[zB,seval];exact f0);have k4:f2 4=.int .i64 i:=(by rw[eW 4 rfl];simp only[zB,seval];exact e1);have wj2:IntKind.i64.wrap ((j:Int)+1)=((j+1:Nat):Int):=(by rw[wrap_i64 A0 A0];rfl);refine aP ?_;simp only[↓zP,zJ,seval,e2,wj2];refine cP [3] (fun k vs H'=>bM H'/\∃v K,vs=[v]/\FG L H' v K/\HR l K/\iQ (fun i=>l.getD i V0) l.length i j k K) (j+1) l.length A0 A0 A1 ?_ ?_ ?_ ?_ ?_
     . exact zq
     . exact⟨hf2,w2,K2,by simp only[sm,zB,seval,qK],hR2,dL,hT2.k0⟩
     . rintro k f3 H3 h0 AB kR e3 ⟨hf3,w3,K3,Xq,hR3,BH,hT3⟩;have u0:f3 0=.bC 0 3 (bK l):=(by rw[kR 0 rfl];simp only[zB,seval];exact k0);simp only[↓zP,zG,seval,e3,u0,aR];exact tB A0
     . rintro k f3 H3 ZC AB kR e3 ⟨hf3,w3,K3,Xq,hR3,BH,hT3⟩;simp only[zM] at Xq;have u0:f3 0=.bC 0 3 (bK l):=(by rw[kR 0 rfl];simp only[zB,seval];exact k0);have u4:f3 4=.int .i64 i:=(by rw[kR 4 rfl];simp only[zB,seval];exact k4);have u5:f3 5=.int .i64 j:=(by rw[kR 5 rfl];simp only[zB,seval];exact e2);have HH:i<l.length:=A0;have RG:j<l.length:=A0;have gi:=cH HH;have gj:=cH RG;have gk:=cH AB;have ni:=hl _ (Ah HH);have nj:=hl _ (Ah RG);have nk:=hl _ (Ah AB);have hnm:=Zy ni nj nk hM;have hMM:(M+M)*(M+M)<=2^19*2^19:=Ba A0 A0;have hBM:2*((M+M)*(M+M))*M<=2^39*2^18:=Ba A0 hM;have aZh:bL (2*((M+M)*(M+M))) (gD (aD.aU (aD.sub l[j] l[i]) (aD.sub l[k] l[i]))):=tC (iD (fW nj ni) (fW nk ni))
       have DY:fE (fun i=>l.getD i V0) i j k=(gD (aD.aU (aD.sub l[j] l[i]) (aD.sub l[k] l[i])),aD.dot (gD (aD.aU (aD.sub l[j] l[i]) (aD.sub l[k] l[i]))) l[i]):=by simp only[fE,vec,cS i HH,cS j RG,cS k AB]
       have hcd:∀q,q∈iO (fun i=>l.getD i V0) i j k↔(fE (fun i=>l.getD i V0) i j k).1≠V0/\(q=fE (fun i=>l.getD i V0) i j k\/q=(aD.neg (fE (fun i=>l.getD i V0) i j k).1,-(fE (fun i=>l.getD i V0) i j k).2)):=fun q=>by
        unfold iO;by_cases hz:(fE (fun i=>l.getD i V0) i j k).1=V0
        . rw[if_pos hz];exact⟨fun h=>(by cases h),fun h=>absurd hz h.1⟩
        rw[if_neg hz,Am,Cc];exact⟨fun h=>⟨hz,h⟩,fun h=>h.2⟩
       rw[DY] at hcd;generalize gD (aD.aU (aD.sub l[j] l[i]) (aD.sub l[k] l[i]))=n0 at *;generalize hBv:2*((M+M)*(M+M))=B at *;have hp:∀k (h:k<l.length),l.getD k V0=l[k]:=cS;refine aP ?_;refine bX ?_;refine gZ 1 A1 hf3.at1 fun H4 n4 e4=>?_;simp only[↓zP,zJ,seval,zD,u0,u4,u5,e3,aG,aR,HH,RG,AB,gi,gj,gk,oL (aM l[i]),oL (aM l[j]),oL (aM l[k])];refine dM (hnm _) ?_;simp only[↓zP,zJ,seval,zD,oL (aM n0)];refine bY ?_;generalize hX:(H4.set H3.next _).set H3.next _=H5;have y7:H5.get H3.next=some (.cells (cE n0) false):=Zag;have yn:H3.next<H5.next:=by subst hX;simp only[aA.bA];omega
       have yf:bM H5:=fun j hj=>by subst hX;simp only[aA.bA] at hj;rw[aA.aC,if_neg A0,aA.aC,if_neg A0,e4];exact hf3 j A0
       have yr:FG L H5 w3 K3:=by refine hR3.aCb A0 fun k h1 h2=>?_;subst hX;rw[aA.aC,if_neg A0,aA.aC,if_neg A0,e4];exact h2
       clear hX;refine Ty ?_
       let nn:Nat->aD.V:=fun t=>if t=1 then aD.neg n0 else n0
       have bIk:∀t,bL B (nn t):=fun t=>by
        simp only[nn];split
        . exact JP aZh
        exact aZh
       have bIl:∀t,nn t=V0↔n0=V0:=fun t=>by
        simp only[nn];split
        . constructor
          . intro h;exact Fl fun hc=>Pe hc h
          intro h;rw[h];rfl
        exact Iff.rfl
       have aYt:∀t,t<2->n0≠V0->(nn t,aD.dot (nn t) l[i])∈iO (fun i=>l.getD i V0) i j k:=fun t ht hz=>by
        rw[hcd];refine⟨hz,?_⟩
        match t,ht with
        |0,_=>exact .inl rfl
        |1,_=>exact .inr (by simp only[nn,if_true,mS])
       refine cP [3] (fun t vs H'=>H'.get H3.next=some (.cells (cE (nn t)) false)/\H3.next<H'.next/\bM H'/\∃v K',vs=[v]/\FG L H' v K'/\HR l K'/\(∀q∈K3,q∈K')/\∀u,u<t->n0≠V0->nA (fun i=>l.getD i V0) l.length (nn u) (aD.dot (nn u) l[i])->(nn u,aD.dot (nn u) l[i])∈K') 0 2 A1 A1 A1 ?_ ?_ ?_ ?_ ?_
       . exact zq
       . exact⟨y7,yn,yf,w3,K3,by simp only[sm,zB,seval,Xq],yr,BH,fun q hq=>hq,fun u hu=>absurd hu (Ar _)⟩
       . rintro t f6 H6 h0 ht hk6 e6 ⟨g7,gn,gf,w6,K6,hv6,hR6,hK6,BM,wW⟩;simp only[↓zP,zG,seval,e6];exact tB A0
       . rintro t f6 H6 h0 ht hk6 e6 ⟨g7,gn,gf,w6,K6,hv6,hR6,hK6,BM,wW⟩;simp only[zM] at hv6;have v0:f6 0=.bC 0 3 (bK l):=(by rw[hk6 0 rfl];simp only[zB,seval];exact u0);have v4:f6 4=.int .i64 i:=(by rw[hk6 4 rfl];simp only[zB,seval];exact u4);have v7:f6 7=.ref H3.next 0:=hk6 7 rfl;have hnB:=bIk t;have hnV:=bIl t;have bHd:=aYt t ht
         have aBn:nn (t+1)=aD.sub V0 (nn t):=by
          match t,ht with
          |0,_=>simp[nn,aD.neg,aD.sub,V0]
          |1,_=>simp[nn,aD.neg,aD.sub,V0]
         have hd:=qN hnB ni A0
         have aTs:∀K':List (aD.V×Int),(∀q∈K6,q∈K')->(n0≠V0->nA (fun i=>l.getD i V0) l.length (nn t) (aD.dot (nn t) l[i])->(nn t,aD.dot (nn t) l[i])∈K')->∀u,u<t+1->n0≠V0->nA (fun i=>l.getD i V0) l.length (nn u) (aD.dot (nn u) l[i])->(nn u,aD.dot (nn u) l[i])∈K':=fun K' h1 h2 u hu hz hF=>by
          by_cases e:u=t
          . subst e;exact h2 hz hF
          exact h1 _ (wW u A0 hz hF)
         rw[aBn];have ex:=fun H=>Wv 0 hl A0 (n:=nn t) (d:=aD.dot (nn t) l[i]) hnB A0 H
         have hF:n0≠V0->(EC l (nn t,aD.dot (nn t) l[i])=true↔nA (fun i=>l.getD i V0) l.length (nn t) (aD.dot (nn t) l[i])):=fun hz=>by
          rw[JT];constructor
          . rintro⟨h1,h2⟩;exact yN HH RG AB (bHd hz) h1 h2
          intro h;exact⟨h.le,h.lt⟩
         have kn:=fun H=>hR6.sound (tj L K6 (by have :=hK6.len hlen;omega) (nn t) H);have hsb:=xR (a:=V0) (b:=nn t) (A:=0) (B:=B) ⟨by decide,by decide,by decide⟩ hnB A0;generalize nn t=n at *;generalize Xj:aD.dot n l[i]=d at *;refine aP ?_;refine bX ?_;refine Dz ?_;simp only[↓zP,zJ,seval,zD,v0,v4,v7,g7,aG,aR,HH,gi,oL (aM l[i]),oL (aM n)];refine dM (hd _) ?_;simp only[↓zP,zJ,seval,zD];refine gG ?_;simp only[↓zP,zJ,seval,hv6,v7,g7,oL (aM n)];refine bO (kn _) ?_;refine Tz ?_;refine gG ?_;simp only[↓zP,zJ,seval,v7,g7,oL (aM n),IE];refine bY ?_;refine aT fun K7 hK7=>?_
         have fin:∀(f7:cW) (H7:aA) (w':AV) (K':List (aD.V×Int)),f7 3=w'->FG L H7 w' K'->f7 7=.ref H3.next 0->H7.get H3.next=some (.cells (cE n) false)->H3.next<H7.next->bM H7->HR l K'->(∀q∈K6,q∈K')->(n0≠V0->nA (fun i=>l.getD i V0) l.length n d->(n,d)∈K')->K7 f7 [] H7:=by
          intro f7 H7 w' K' a3 ar a7 ag an af aK as1 as2;apply hK7;clear hK7 K7;simp only[↓zP,zJ,seval,a7,ag,oL (aM n)];rw[show [AV.int .i64 0,.int .i64 0,.int .i64 0]=cE V0 from rfl];refine bO (hsb _) ?_;simp only[↓zP,zJ,seval,a7,ag,oL (aM n),oL (aM (aD.sub V0 n))]
          refine⟨trivial,an,af.set an _,w',K',by rw[a3],ar.aCb A2 (fun k h1 h2=>by
           rw[aA.aC];split
           . rename_i e;subst e;rw[ag] at h2;cases h2
           exact h2),aK,fun q hq=>as1 q (BM q hq),aTs K' as1 as2⟩
         cases vw:K6.any fun q=>decide (q.1=n) with
         |true=>refine Ty ?_;exact fin _ H6 w6 K6 (by simp only[zB,seval];exact hv6) hR6 (by simp only[zB,seval];exact v7) g7 gn gf hK6 (fun q hq=>hq) (fun _ hFq=>hK6.known (q:=(n,d)) vw hFq)
         |false=>
          by_cases hz:n=V0
          . have d1:=Aj hz;simp only[↓zP,zJ,seval,d1];exact fin _ H6 w6 K6 (by simp only[zB,seval];exact hv6) hR6 (by simp only[zB,seval];exact v7) g7 gn gf hK6 (fun q hq=>hq) (fun h=>absurd (hnV.1 hz) h)
          have d1:=Ad hz;have Lo:n0≠V0:=fun h=>hz (hnV.2 h);simp only[↓zP,zJ,seval,d1,v0,v7,g7,oL (aM n)];refine bO (ex _) ?_
          cases Tp:EC l (n,d) with
          |false=>
           refine Tz ?_
           exact fin _ H6 w6 K6 (by simp only[zB,seval];exact hv6) hR6 (by simp only[zB,seval];exact v7) g7 gn gf hK6 (fun q hq=>hq) (fun _ hFq=>by
            have :=(hF Lo).2 hFq
            rw[Tp] at this;cases this)
          |true=>
           have hFq:=(hF Lo).1 Tp;have fo:(n,d)∈S:=(hS.fl.mem (n,d)).2 hFq;have bIw:=fun H=>Wz 0 hl hM hlen (d:=d) hnB A0 (hS.po (n,d) fo) H;have bHw:=fun H=>hR6.sound (Zv L K6 (hK6.len hlen) (n,d) H);refine Tz ?_;refine Dz ?_;simp only[↓zP,zJ,seval,zD,hv6,v0,v7,g7,oL (aM n)];refine dM (bIw _) ?_;simp only[↓zP,zJ,seval,zD,cE];rw[show [AV.int .i64 n.x,.int .i64 n.y,.int .i64 n.z,.int .i64 d,.bC 0 1 (vS (L (n,d)))]=cL L (n,d) from rfl];refine HP A1 (by simp only[sm,zB,seval]) (bHw _) A2 (fun x hx hp=>?_) ?_
           . have hx7:x.2=H3.next:=by
              simp only[Am,Cu,Fu] at hx
              rcases hx with rfl|rfl<;>rfl
             rw[hx7,aA.aI,if_neg A0]
           simp only[↓zP,zJ,seval,zD];exact fin _ (H6.alloc .tok) _ (uH (n,d) K6) zq (.inr ⟨fun h=>by have :=PH (n,d) K6;rw[h] at this;simp at this,H6.next,rfl,by simp,by rw[aA.aI,if_pos rfl]⟩) (by simp only[zB,seval];exact v7) (by rw[aA.aI,if_neg A0];exact g7) Zaz (gf.alloc _) (hK6.ins hFq vw) (fun q hq=>BO.2 (.inr hq)) (fun _ _=>BO.2 (.inl rfl))
       rintro f6 H6 hk6 ⟨g7,gn,gf,w6,K6,hv6,hR6,hK6,BM,wW⟩;refine Tx ?_;refine⟨gf,w6,K6,hv6,hR6,hK6,hT3.step BM fun q hq hF=>?_⟩;obtain⟨hz,h⟩:=(hcd q).1 hq
       rcases h with rfl|rfl
       . exact wW 0 A1 hz hF
       have :=wW 1 A1 hz (by simp only[nn,if_true,mS];exact hF);simpa only[nn,if_true,mS] using this
     rintro f3 H3 kR ⟨hf3,w3,K3,Xq,hR3,BH,hT3⟩;refine Tx ?_;exact⟨hf3,w3,K3,Xq,hR3,BH,hT3.kN⟩
   rintro f2 H2 eW ⟨hf2,w2,K2,qK,hR2,dL,hT2⟩;refine Tx ?_;exact⟨hf2,w2,K2,qK,hR2,dL,hT2.jN⟩
 rintro f H1 hk ⟨hf,w,K,hv,hR,hK,hT⟩;simp only[zM] at hv;have :K=S:=oP.uniq ⟨hT.all hK.is,hK.RV⟩ hS.fl;subst this;simp only[↓zP,seval,hv];refine Rx ?_;exact⟨w,rfl,hR⟩
theorem QC(tag:Nat){l:List aD.V}{M:Nat}(hl:∀v∈l,bL M v)(hM:M<=2^18)(hlen:l.length<=64){S:List (aD.V×Int)}{L:aD.V×Int->List Nat}(hS:qZ l S L)(H:aA):
 Sg 180 [.bC tag 3 (bK l)] H (.ret (zX L S)) H:=(FG.aYk (by simp only[sf,cF (show Nat.blt 0 2=true from rfl)]) (Mz hl hM hlen hS) H).HE tag
theorem Ww(tag:Nat){l:List aD.V}{M:Nat}(hl:∀v∈l,bL M v)(hM:M<=2^18)(hlen:l.length<=64){S:List (aD.V×Int)}{L:aD.V×Int->List Nat}(hS:qZ l S L)(cG:S≠[])(H:aA):
 Sg 180 [.bC tag 3 (bK l)] H (.ret (.bC (H.next+2) 5 (S.map (cL L)))) (H.alloc .tok):=by
 refine(CV eC (by simp only[sf,cF (show Nat.blt 0 2=true from rfl)]) (by simpa using cG) (dN (qH L) S) ?_ H).HE tag;obtain⟨out,H',⟨v,h1,h2⟩,hS'⟩:=Mz hl hM hlen hS;refine⟨out,H',⟨v,h1,?_⟩,hS'⟩
 rcases h2 with ⟨h,_⟩|⟨_,k,e,h3,h4⟩
 . exact absurd h cG
 exact .inr ⟨k,e,h3,h4⟩
def xB(x:aD.V):List aD.V->List aD.V
 |[]=>[x]
 |o::r=>if tZ x o then x::o::r else if o=x then o::r else o::xB x r
theorem UE{x:aD.V}:∀{S:List aD.V} {i:Nat},(∀s∈S.take i,tZ x s=false/\s≠x)->xB x S=S.take i++xB x (S.drop i)
 |[],i,_=>by simp
 |s::r,0,_=>by simp
 |s::r,i+1,h=>by have h1:=h s A2;have ih:=UE (x:=x) (S:=r) (i:=i) fun y hy=>h y (by simp[hy]);rw[xB,h1.1,if_neg A1,if_neg h1.2,Ds,Ig,Ge,<-ih]
theorem WG(x:aD.V):∀S:List aD.V,(xB x S).length<=S.length+1
 |[]=>Ag _
 |s::r=>by
  have :=WG x r;unfold xB;split
  . simp
  split
  . simp
  simp;omega
theorem PI{x y:aD.V}:∀{S:List aD.V},y∈xB x S↔y=x\/y∈S
 |[]=>by simp[xB]
 |s::r=>by
  unfold xB;split
  . simp
  split
  . rename_i h;subst h;simp
  rw[Am,PI,Am];exact ZaQ
theorem WH{x:aD.V}:∀{S:List aD.V},S.Pairwise gV->(xB x S).Pairwise gV
 |[],_=>by simp[xB]
 |s::r,h=>by
  have h':=Co.1 h;unfold xB
  cases hv:tZ x s with
  |true=>
   have hq:=CO.1 hv;rw[if_pos rfl,Co];refine⟨fun y hy=>?_,h⟩
   rcases Am.1 hy with rfl|hy
   . exact hq
   exact gV.trans hq (h'.1 y hy)
  |false=>
   rw[if_neg A1];by_cases he:s=x
   . rw[if_pos he];exact h
   rw[if_neg he,Co]
   have hsq:gV s x:=by
    rcases gV.total he with h1|h1
    . exact h1
    rw[CO.2 h1] at hv;cases hv
   refine⟨fun y hy=>?_,WH h'.2⟩
   rcases PI.1 hy with rfl|hy
   . exact hsq
   exact h'.1 y hy
theorem aEi{l C:List aD.V}(hlen:l.length<=64)(hC:Ord l C)(H:aA):
 Sg 179 [.bC 0 3 (bK l)] H (.ret (jH 3 (bK C))) H:=by
 have RJ:Nat.blt 0 2=true:=rfl;refine eS fit eC aNj (Al rfl) (by simp only[sf,cF RJ]) ?_ H;unfold aGk;dsimp only;refine Tz ?_;refine cP [3] (fun i vs H'=>∃v X,vs=[v]/\Own H' 3 v (bK X)/\(X=[]->v=.bB)/\X.Pairwise gV/\(∀y,y∈X↔y∈l.take i)/\X.length<=i) 0 l.length (Bp _) A0 A1 ?_ ?_ ?_ ?_ ?_
 . exact zq
 . exact⟨.bB,[],by simp only[sm,zB,seval],.nil _ _,fun _=>rfl,.nil,fun y=>by simp,Ag _⟩
 . rintro i f H1 h0 hi hk e1 ⟨v,X,hv,ho,hn,hs,hm,hl⟩;have f0:f 0=.bC 0 3 (bK l):=hk 0 rfl;simp only[↓zP,zG,seval,e1,f0,aR];exact tB A0
 . rintro i f H1 h0 hi hk e1 ⟨v,X,hv,ho,hn,hs,hm,hl⟩;simp only[zM] at hv;have f0:f 0=.bC 0 3 (bK l):=hk 0 rfl;have LV:(bK l).getD i []=cE l[i]:=fB hi;have uA:l.take (i+1)=l.take i++[l[i]]:=by rw[Ax];simp[hi]
   rw[uA];generalize l[i]=x at *;have dx:(cE x).length=3:=rfl;refine aP ?_;refine aT fun K hK=>?_;refine Tz ?_;apply hK;clear hK K;refine aT fun K hK=>?_;refine Tz ?_;apply hK;clear hK K;refine aT fun K hK=>?_;refine Ty ?_
   obtain⟨tg,hX3⟩:∃tg,∀j,j<X.length->f 3=.bC tg 3 (bK X):=by
    rcases ho with ⟨_,h2⟩|⟨k,rF,_,_⟩
    . exact⟨0,fun j h=>by rw[show X=[] by simpa [bK] using h2] at h;exact absurd h (Ar _)⟩
    exact⟨k+2,fun j h=>by rw[hv,rF]⟩
   have push:∀(HA:aA) (w:AV) (Y:List aD.V) (y:aD.V),Own HA 3 w (bK Y)->Y.length<2^21->
    ∃H5,fZ HA 3 24 false w [cE y]=some (.bC (HA.next+2) 3 (bK (Y++[y])),H5)/\Own H5 3 (.bC (HA.next+2) 3 (bK (Y++[y]))) (bK (Y++[y])):=fun HA w Y y ho hY=>by
    obtain⟨H5,z1,z2,z3,z4,z5⟩:=Has.push (.inr ho) (ys:=[cE y]) (bytes:=24) rfl (by simp only[bK,Ai,As,Bw];omega);have e:bK (Y++[y])=bK Y++[cE y]:=(by simp only[bK,Cn,Cq,Jo]);exact⟨H5,by rw[z1,e],by rw[e];exact .inr ⟨HA.next,rfl,by omega,z3⟩⟩
   refine cP [5,6] (fun k vs H'=>∃w Y put,vs=[w,.bool put]/\Own H' 3 w (bK Y)/\(Y=[]->w=.bB)/\Y.length<=k+1/\(if put then Y++X.drop k=xB x X/\∀o∈X.drop k,o≠x else Y=X.take k/\∀s∈X.take k,tZ x s=false/\s≠x)) 0 X.length (Bp _) A0 A1 ?_ ?_ ?_ ?_ ?_
   . exact zq
   . exact⟨.bB,[],false,by simp only[sm,zB,seval],.nil _ _,fun _=>rfl,by simp,by simp⟩
   . rintro k g H2 Yu rF vu e2 ⟨w,Y,put,hw,hoY,hnY,hlY,hp⟩;have g3:g 3=v:=by rw[vu 3 rfl];simp only[zB,seval];exact hv
     rcases ho with ⟨h1,h2⟩|⟨k',h1,_,_⟩
     . have hX0:X=[]:=(by simpa [bK] using h2);subst hX0;simp only[↓zP,zG,seval,e2,g3,h1];exact⟨trivial,trivial,Ao AV.bool (Bk.2 (by simp at rF;simp[rF]))⟩
     simp only[↓zP,zG,seval,e2,g3,h1,aR];exact tB A0
   . rintro k g H2 Yu rF vu e2 ⟨w,Y,put,hw,hoY,hnY,hlY,hp⟩;simp only[zM] at hw;have g0:g 0=.bC 0 3 (bK l):=(by rw[vu 0 rfl];simp only[zB,seval];exact f0);have g4:g 4=.int .i64 i:=(by rw[vu 4 rfl];simp only[zB,seval];exact e1);have g3:g 3=.bC tg 3 (bK X):=(by rw[vu 3 rfl];simp only[zB,seval];exact hX3 k rF);have ff:(bK X).getD k []=cE X[k]:=fB rF;have dk:(cE X[k]).length=3:=rfl;have hlX:(bK X).length=X.length:=aR _;have IY:(bK l).length=l.length:=aR _;have htx:(cE x).take 3=cE x:=rfl;have aIv:(cE X[k]).take 3=cE X[k]:=rfl;have hls:=Sr x X[k];have hXs:X.length<=64:=A0;have hdr:X.drop k=X[k]::X.drop (k+1):=Ef rF;have uA:X.take (k+1)=X.take k++[X[k]]:=by rw[Ax];simp[rF]
     have hDs:∀d∈X.drop (k+1),gV X[k] d:=by have :=hs.drop (i:=k);rw[hdr] at this;exact(Co.1 this).1
     have hnp:(∀s∈X.take k,tZ x s=false/\s≠x)->xB x X=X.take k++xB x (X[k]::X.drop (k+1)):=fun h=>by
      have :=UE h
      rwa [hdr] at this
     rw[hdr] at hp;rw[uA];have hTl:(X.take k).length<=k:=(by rw[Dp];exact Jh _ _);generalize X[k]=o at *;generalize X.take k=T at *;generalize X.drop (k+1)=D at *;refine aP ?_;refine bX ?_;refine Dz ?_;simp only[↓zP,zJ,seval,zD,g0,g3,g4,e2,aG,hlX,IY,hi,rF,LV,ff,dx,dk,htx,aIv];refine dM (hls _) ?_;simp only[↓zP,zJ,seval,zD];refine bY ?_;refine aT fun K1 hK1=>?_
     have key:∀(f':cW) (HA:aA) (w:AV) (Y:List aD.V) (NT:Bool),f' 5=w->f' 6=.bool NT->f' 0=.bC 0 3 (bK l)->f' 3=.bC tg 3 (bK X)->f' 4=.int .i64 i->f' 7=.int .i64 k->Own HA 3 w (bK Y)->(Y=[]->w=.bB)->Y.length<=k+1->
      (if NT then((o≠x/\Y++o::D=xB x X)\/(o=x/\Y++D=xB x X))/\∀d∈D,d≠x else Y=T/\∀s∈T++[o],tZ x s=false/\s≠x)->K1 f' [] HA:=by
      intro f' HA w Y NT v5 v6 v0 v3 v4 v7 hY hYn hYl eU;apply hK1;clear hK1 K1;refine bX ?_;refine Dz ?_;simp only[↓zP,zJ,seval,zD,v0,v3,v4,v7,aG,hlX,IY,hi,rF,LV,ff,dx,dk,htx,aIv,nM];refine bY ?_;by_cases hox:o=x
      . cases NT with
        |false=>simp only[Au,Ca] at eU;exact absurd hox (eU.2 o A2).2
        |true=>
         simp only[if_true] at eU;simp only[↓zP,zJ,seval,Aj hox];refine⟨w,Y,true,by simp only[seval,v5,v6],hY,hYn,by omega,?_⟩;simp only[if_true]
         rcases eU.1 with h|h
         . exact absurd hox h.1
         exact⟨h.2,eU.2⟩
      obtain⟨H5,z1,z2⟩:=push HA w Y o hY A0;simp only[↓zP,zJ,seval,Ad hox,v5,v3,v7,aG,hlX,rF,ff,dk,oL dk];rw[eL];simp only[z1,bQ,seval];refine⟨_,Y++[o],NT,by simp only[seval,v6],z2,fun h=>by simp at h,by simp;omega,?_⟩
      cases NT with
      |true=>
       simp only[if_true] at eU ⊢
       rcases eU.1 with h|h
       . exact⟨by rw[<-h.2];simp,eU.2⟩
       exact absurd h.1 hox
      |false=>simp only[Au,Ca] at eU ⊢;rw[eU.1];exact⟨rfl,eU.2⟩
     clear hK1;refine aT fun K2 dL=>?_;refine Dz ?_
     cases put with
     |true=>
      simp only[if_true] at hp;simp only[↓zP,zJ,seval,zD,hw,sZ];apply dL;clear dL K2;refine Tz ?_
      exact key _ H2 w Y true (by simp only[zB,seval];exact hw.1) (by simp only[zB,seval];exact hw.2) (by simp only[zB,seval];exact g0) (by simp only[zB,seval];exact g3) (by simp only[zB,seval];exact g4) (by simp only[zB,seval];exact e2) hoY hnY hlY (by
       simp only[if_true]
       exact⟨.inl ⟨hp.2 o A2,hp.1⟩,fun d hd=>hp.2 d (by simp[hd])⟩)
     |false=>
      simp only[Au,Ca] at hp;obtain⟨hYT,fL⟩:=hp;have hX':=hnp fL
      cases hb:tZ x o with
      |true=>have dT:=CO.1 hb;obtain⟨H5,z1,z2⟩:=push H2 w Y x hoY A0;simp only[↓zP,zJ,seval,zD,hw];apply dL;clear dL K2;simp only[↓zP,zJ,seval,hw,g0,g4,aG,IY,hi,LV,dx,oL dx];rw[eL];simp only[z1,bQ,seval];refine key _ H5 _ (Y++[x]) true zq zq (by simp only[zB,seval];exact g0) (by simp only[zB,seval];exact g3) (by simp only[zB,seval];exact g4) (by simp only[zB,seval];exact e2) z2 (fun h=>by simp at h) (by simp[hYT];omega) ?_;simp only[if_true];refine⟨.inl ⟨fun h=>gV.gd _ (h▸dT),?_⟩,fun d hd h=>gV.gd _ (h▸gV.trans dT (hDs d hd))⟩;rw[hX',hYT,xB,if_pos hb];simp
      |false=>
       by_cases wg:x=o
       . obtain⟨H5,z1,z2⟩:=push H2 w Y x hoY A0;simp only[↓zP,zJ,seval,zD,hw,g0,g3,g4,e2,aG,hlX,rF,ff,dk,aIv,IY,hi,LV,dx,htx,nM,Aj wg];apply dL;clear dL K2;simp only[↓zP,zJ,seval,hw,g0,g4,aG,IY,hi,LV,dx,oL dx];rw[eL];simp only[z1,bQ,seval];refine key _ H5 _ (Y++[x]) true zq zq (by simp only[zB,seval];exact g0) (by simp only[zB,seval];exact g3) (by simp only[zB,seval];exact g4) (by simp only[zB,seval];exact e2) z2 (fun h=>by simp at h) (by simp[hYT];omega) ?_;simp only[if_true];refine⟨.inr ⟨wg.symm,?_⟩,fun d hd h=>gV.gd _ (h▸wg▸hDs d hd)⟩;rw[hX',hYT,xB,hb,if_neg A1,if_pos wg.symm,wg];simp
       simp only[↓zP,zJ,seval,zD,hw,g0,g3,g4,e2,aG,hlX,rF,ff,dk,aIv,IY,hi,LV,dx,oL dx,nM,Ad wg];apply dL;clear dL K2;refine Tz ?_;refine key _ H2 w Y false (by simp only[zB,seval];exact hw.1) (by simp only[zB,seval];exact hw.2) (by simp only[zB,seval];exact g0) (by simp only[zB,seval];exact g3) (by simp only[zB,seval];exact g4) (by simp only[zB,seval];exact e2) hoY hnY hlY ?_;simp only[Au,Ca];refine⟨hYT,fun s BL=>?_⟩
       rcases Aq.1 BL with h|h
       . exact fL s h
       rw[Cc] at h;subst h;exact⟨hb,fun h=>wg h.symm⟩
   rintro g H2 vu ⟨w,Y,put,hw,hoY,hnY,hlY,hp⟩;simp only[zM] at hw;have g0:g 0=.bC 0 3 (bK l):=(by rw[vu 0 rfl];simp only[zB,seval];exact f0);have g4:g 4=.int .i64 i:=(by rw[vu 4 rfl];simp only[zB,seval];exact e1);have IY:(bK l).length=l.length:=aR _;have htx:(cE x).take 3=cE x:=rfl;rw[Ja,Cr,Ay] at hp
   have done:∀(HA:aA) (w':AV) (Y':List aD.V),Own HA 3 w' (bK Y')->(Y'=[]->w'=.bB)->Y'=xB x X->∃v X',[w']=[v]/\Own HA 3 v (bK X')/\(X'=[]->v=.bB)/\X'.Pairwise gV/\(∀y,y∈X'↔y∈l.take i++[x])/\X'.length<=i+1:=fun HA w' Y' h1 h2 h3=>⟨w',Y',rfl,h1,h2,h3▸WH hs,fun y=>by rw[h3,PI,Aq,Cc,hm];exact Or.comm,by have :=WG x X;rw[h3];omega⟩
   simp only[gE];apply hK;clear hK K
   cases put with
   |true=>simp only[if_true] at hp;simp only[↓zP,zJ,seval,hw];exact done H2 w Y hoY hnY hp.1
   |false=>simp only[Au,Ca] at hp;obtain⟨H5,z1,z2⟩:=push H2 w Y x hoY A0;simp only[↓zP,zJ,seval,hw,g0,g4,aG,IY,hi,LV,dx,oL dx];rw[eL];simp only[z1,bQ,seval];refine done H5 _ _ z2 (fun h=>by simp at h) ?_;have :=UE (x:=x) (S:=X) (i:=X.length) (by rw[Ay];exact hp.2);rw[this,Ay,Ja,hp.1];rfl
 rintro f H1 hk ⟨v,X,hv,ho,hn,hs,hm,hl⟩;simp only[zM] at hv;rw[Ay] at hm;have hXC:X=C:=Ord.uniq ⟨hs,hm⟩ hC;subst hXC;simp only[↓zP,seval,hv];refine Rx ?_;refine⟨v,0,rfl,?_⟩
 rcases ho with ⟨rfl,h2⟩|⟨k,rfl,_,_⟩
 . rw[show X=[] by simpa [bK] using h2];exact fun _=>rfl
 have cG:X≠[]:=fun h=>by cases hn h
 have yB:eI (bK X)=true:=by have :=cF RJ X;simpa [AV.free] using this
 have AE:jH 3 (bK X)=.bC 0 3 (bK X):=by simp[jH,bK,cG]
 intro nw;rw[AE];simp[gT,kT,yB,ED]
theorem Zz(tag:Nat){l C:List aD.V}(hlen:l.length<=64)(hC:Ord l C)(H:aA):
 Sg 179 [.bC tag 3 (bK l)] H (.ret (jH 3 (bK C))) H:=(aEi hlen hC H).HE tag
theorem XB(H:aA):Sg 179 [.bB] H (.ret .bB) H:=by
 refine So aNj Zac ?_ H;unfold aGk;exact Zan
theorem My(H:aA):Sg 180 [.bB] H (.ret .bB) H:=by
 refine So aNk Zac ?_ H;unfold aGl;exact Zan
theorem aXb{l C:List aD.V}(hlen:l.length<2^30)(hC:Ord l C){S:List (aD.V×Int)}{L:aD.V×Int->List Nat}(hS:qZ C S L)(H:aA):
 Sg 91 [.bC 0 3 (bK l)] H (.ret (.agg [(iP l C S L).1,.int .i64 (iP l C S L).2])) H:=by
 have RJ:Nat.blt 0 2=true:=rfl;refine eS fit eC bEl (Al rfl) (by simp only[sf,cF RJ]) ?_ H;unfold W91;dsimp only;refine bX ?_;refine Tz ?_;refine gG ?_;simp only[↓zP,zJ,seval,aR];refine⟨fun h=>?_,fun hle=>?_⟩
 . have Yw:64<l.length:=by omega
   refine Rx ?_;rw[show iP l C S L=(.bB,2) from if_pos Yw];exact Zau
 have Yw:¬(64<l.length):=by omega
 refine gG ?_;refine Tz ?_;refine cP [] (fun i _ H=>(∀v∈l.take i,fy v=true)/\H.get 0=some (.cells [.bB,.int .i64 0] false)/\1<=H.next) 0 l.length (Bp _) A0 A1 ?_ ?_ ?_ ?_ ?_
 . exact zq
 . exact⟨fun v hv=>by simp at hv,by simp only[zI,seval],by simp only[zI,seval]⟩
 . rintro i f H1 h0 hi hk e1 ⟨iE,g0,hn⟩;have f0:f 0=.bC 0 3 (bK l):=hk 0 rfl;simp only[↓zP,zG,seval,e1,f0,aR];exact tB A0
 . rintro i f H1 h0 hi hk e1 ⟨iE,g0,hn⟩;have f0:f 0=.bC 0 3 (bK l):=hk 0 rfl;have f2:f 2=.ref 0 0:=hk 2 rfl;have hg:=cH hi;have vP:=Ah hi
   have hx:∀v,v∈l.take (i+1)->v∈l.take i\/v=l[i]:=fun v hv=>by
    exact Zaq
   generalize l[i]=x at *;refine aP ?_;refine bX ?_;refine Tz ?_;refine bY ?_;refine cP [] (fun j _ H=>(∀c,c<j->¬(x.at c>262144)/\¬(x.at c< -262144))/\H.get 0=some (.cells [.bB,.int .i64 0] false)/\1<=H.next) 0 3 (Bp _) A1 A1 ?_ ?_ ?_ ?_ ?_
   . exact zq
   . exact⟨fun c hc=>absurd hc (Ar _),g0,hn⟩
   . rintro j g H2 Yu hj eW e2 hJ;simp only[↓zP,zG,seval,e2];exact tB A0
   . rintro j g H2 Yu hj eW e2 ⟨hc,yI,IZ⟩;have u0:g 0=.bC 0 3 (bK l):=(by rw[eW 0 rfl];simp only[zB,seval];exact f0);have u2:g 2=.ref 0 0:=(by rw[eW 2 rfl];simp only[zB,seval];exact f2);have u3:g 3=.int .i64 i:=(by rw[eW 3 rfl];simp only[zB,seval];exact e1);have IX:j<=2:=by omega
     have Yx:(x.at j>262144\/x.at j< -262144)->l.all fy=false:=fun h=>by rw[<-Fs,Bg];intro ha;have :=ha x vP;simp only[fy,Bg,Az,Bf] at this;have :=this j hj;omega
     refine aP ?_;have Yy:1<=(List.drop j (cE x)).length:=(by rw[Ib,aM];omega);have hdg:(List.drop j (cE x)).getD 0 aB=.int .i64 (x.at j):=(by rw[<-jL x hj];simp[List.getD]);refine aT fun K2 dL=>?_;by_cases c1:x.at j>262144
     . have d1:=Aj c1;simp only[↓zP,zJ,seval,e2,u0,u3,aG,aR,hi,hg,hj,Yy,hdg,d1];apply dL;clear dL K2;simp only[↓zP,zJ,seval,u2,yI];refine⟨rfl,_,by simp only[↓zP,zR,seval,u2];rfl,?_⟩;exact Zar
     have d1:=Ad c1;by_cases c2:x.at j< -262144
     . have d2:=Aj c2;simp only[↓zP,zJ,seval,e2,u0,u3,aG,aR,hi,hg,hj,Yy,hdg,d1,d2];apply dL;clear dL K2;simp only[↓zP,zJ,seval,u2,yI];refine⟨rfl,_,by simp only[↓zP,zR,seval,u2];rfl,?_⟩;exact Zar
     have d2:=Ad c2;simp only[↓zP,zJ,seval,e2,u0,u3,aG,aR,hi,hg,hj,Yy,hdg,d1,d2];apply dL;clear dL K2;refine Tz ?_;refine⟨fun c h=>?_,yI,IZ⟩;by_cases hcj:c=j
     . subst hcj;exact⟨c1,c2⟩
     exact hc c A0
   rintro f2 H2 eW ⟨hc,yI,IZ⟩;refine Tx ?_;refine⟨fun v hv=>?_,yI,IZ⟩
   rcases hx v hv with h|rfl
   . exact iE v h
   simp only[fy,Bg,Az,Bf];exact fun c h=>hc c h
 rintro f H1 hk ⟨iE,g0,hn⟩;rw[Ay] at iE;have fL:l.all fy=true:=Bg.2 iE;have f0:f 0=.bC 0 3 (bK l):=hk 0 rfl;have a2:f 2=.ref 0 0:=hk 2 rfl;refine Tx ?_;refine bY ?_;have hNr:∀v∈C,bL (2^18) v:=fun v hv=>PF.1 (iE v ((hC.mem v).1 hv))
 have hCl:C.length<=64:=by have :=rK C l (Hx (fun {a b} (h:gV a b) (e:a=b)=>gV.gd b (by rw[e] at h;exact h)) hC.RV) fun v hv=>(hC.mem v).1 hv;omega
 have DY:∀H,Sg 180 [jH 3 (bK C)] H (.ret (zX L S)) H:=fun H=>by
  by_cases hc:C=[]
  . subst hc
    have hSn:S=[]:=Fp.2 fun q hq=>by obtain⟨i,j,k,_,_,h,_⟩:=gA ((hS.fl.mem q).1 hq);exact absurd h (Ar _)
    subst hSn;exact My H
  rw[show jH 3 (bK C)=.bC 0 3 (bK C) from if_neg (by simpa [bK] using hc)];exact QC 0 hNr (Ag _) hCl hS H
 have Oz:∀H,Sg 179 [.bC 0 3 (bK l)] H (.ret (jH 3 (bK C))) H:=Zz 0 A0 hC;refine bX ?_;simp only[↓zP,zG,seval,f0];refine bO (Oz _) ?_;refine Tz ?_;refine gG ?_;refine Tz ?_;refine bO (DY _) ?_;refine Tz ?_;refine bY ?_;by_cases vm:S=[]
 . have hO:iP l C S L=(.bB,120):=(if_neg Yw).trans ((if_neg (by rw[fL];decide)).trans (if_pos (by rw[vm];decide)));refine aT fun K hK=>?_;rw[show zX L S=.bB by rw[vm];rfl];simp only[↓zP,zJ,seval,a2,g0];refine⟨rfl,_,by simp only[↓zP,zR,seval,a2];rfl,?_⟩;rw[hO];exact Zau
 have hS4:¬S.length<4:=by have :=hS.fl.four (vK hC.RV) vm;omega
 have yB:zX L S=.bC 0 5 (S.map (cL L)):=by
  rcases jC L S with ⟨h,_⟩|⟨_,h⟩
  . exact absurd h vm
  exact h
 have hCe:bK C≠[]:=fun h=>vm (Fp.2 fun q hq=>by
  obtain⟨i,j,k,_,_,h',_⟩:=gA ((hS.fl.mem q).1 hq);have :C.length=0:=by rw[<-aR,h];rfl
  omega)
 rw[show jH 3 (bK C)=.bC 0 3 (bK C) from if_neg hCe,yB];have Qg:((S.length:Int)==0)=false:=Dr.2 fun h=>vm (Cp A0);refine bX ?_;simp only[↓zP,zG,seval,Ai,Qg];refine bY ?_;by_cases IQ:64<S.length
 . have hO:iP l C S L=(.bB,2):=(if_neg Yw).trans ((if_neg (by rw[fL];decide)).trans ((if_neg hS4).trans (if_pos IQ)));refine aT fun K hK=>?_;simp only[↓zP,zJ,seval,a2,g0,Ai];refine⟨fun _=>?_,fun h=>absurd IQ A0⟩;refine⟨rfl,_,by simp only[↓zP,zR,seval,a2];rfl,?_⟩;rw[hO];exact Zau
 refine bX ?_;simp only[↓zP,zJ,seval,Ai];refine⟨fun h=>absurd h A0,fun _=>?_⟩;refine bY ?_;have hO:iP l C S L=(jH 3 (bK (gS C S L)),0):=(if_neg Yw).trans ((if_neg (by rw[fL];decide)).trans ((if_neg hS4).trans (if_neg IQ)));rw[hO];refine bX ?_;refine Ty ?_;refine bY ?_;refine aT fun K hK=>?_;refine Tz ?_;have Xv:¬(0=H1.next):=by omega
 generalize hX:(H1.alloc _).set H1.next _=H4;have y0:H4.get 0=some (.cells [.bB,.int .i64 0] false):=by subst hX;rw[aA.aC,if_neg Xv,aA.aI,if_neg Xv];exact g0
 have yb:H4.get H1.next=some (.cells [.bB,.int .i64 0] false):=by subst hX;rw[aA.aC,if_pos rfl]
 have yn:H4.next=H1.next+1:=by subst hX;simp only[aA.bA,aA.bH]
 clear hX;generalize H1.next=ob at *;have Xg:(S.map (cL L)).length=S.length:=Ai ..;refine cP [] (fun i _ H'=>H'.get 0=some (.cells [.bB,.int .i64 0] false)/\ob<H'.next/\∃v,H'.get ob=some (.cells [v,.int .i64 0] false)/\Own H' 3 v (bK (((List.range i).filter (gJ S L)).map fun k=>C.getD k V0))/\(((List.range i).filter (gJ S L)).map (fun k=>C.getD k V0)=[]->v=.bB)) 0 C.length (Bp _) A0 A1 ?_ ?_ ?_ ?_ ?_
 . exact zq
 . exact⟨y0,by omega,.bB,yb,.nil _ _,fun _=>rfl⟩
 . rintro i f2 H2 h0 hi eW e2 _;have u5:f2 5=.bC 0 3 (bK C):=eW 5 rfl;simp only[↓zP,zG,seval,e2,u5,aR];exact tB A0
 . rintro i f2 H2 h0 hi eW e2 ⟨q0,qn,v,qv,qo,qe⟩;have u5:f2 5=.bC 0 3 (bK C):=eW 5 rfl;have u6:f2 6=.bC 0 5 (S.map (cL L)):=eW 6 rfl;have u7:f2 7=.ref ob 0:=eW 7 rfl;refine aP ?_;refine bX ?_;refine Tz ?_;refine bY ?_;refine aT fun K hK=>?_;refine Tz ?_;refine cP [9] (fun k vs H'=>H'=H2/\vs=[.bool ((S.take k).any fun q=>(L q).contains i)]) 0 S.length (Bp _) A0 A1 ?_ ?_ ?_ ?_ ?_
   . exact zq
   . exact⟨rfl,by simp only[sm,zB,seval];rfl⟩
   . rintro k g H3 h0 rF kR e3 _;have w6:g 6=.bC 0 5 (S.map (cL L)):=(by rw[kR 6 rfl];simp only[zB,seval];exact u6);simp only[↓zP,zG,seval,e3,w6,Xg];exact tB A0
   . rintro k g H3 h0 rF kR e3 ⟨rfl,hv⟩;simp only[zM] at hv;have w6:g 6=.bC 0 5 (S.map (cL L)):=(by rw[kR 6 rfl];simp only[zB,seval];exact u6);have w8:g 8=.int .i64 i:=(by rw[kR 8 rfl];simp only[zB,seval];exact e2);have hgq:(S.map (cL L)).getD k []=cL L S[k]:=fB rF
     have uA:((S.take (k+1)).any fun q=>(L q).contains i)=(((S.take k).any fun q=>(L q).contains i)||(L S[k]).contains i):=by rw[Ax,Jj];simp[rF]
     have fo:=Ah rF;rw[uA];generalize S[k]=q at *;generalize ((S.take k).any fun q=>(L q).contains i)=b0 at *
     have hLl:(L q).length<2^30:=by obtain⟨s,r,m,e,W,h⟩:=(hS.po _ fo).ex;rw[h,Ai,Bu];have h1:=W.le;have h2:=Db (fun k=>decide (aD.dot q.1 (C.getD k V0)=q.2)) (List.range C.length);rw[Bu] at h2;have h3:(gC (fun i=>C.getD i V0) C.length q.1 q.2).length<=C.length:=h2;omega
     have d5:(cL L q).length=5:=rfl;have d4:(List.drop 4 (cL L q)).getD 0 aB=.bC 0 1 (vS (L q)):=rfl;have dl4:1<=(List.drop 4 (cL L q)).length:=Ag _;refine aP ?_;refine bX ?_;refine Tz ?_;refine bY ?_;refine cP [9] (fun c vs H'=>H'=H3/\vs=[.bool (b0||((L q).take c).contains i)]) 0 (L q).length (Bp _) A0 A1 ?_ ?_ ?_ ?_ ?_
     . exact zq
     . exact⟨rfl,by simp only[sm,zB,seval,hv];simp⟩
     . rintro c g2 H4 h0 hc Qi e4 ⟨rfl,_⟩;have x6:g2 6=.bC 0 5 (S.map (cL L)):=(by rw[Qi 6 rfl];simp only[zB,seval];exact w6);have x10:g2 10=.int .i64 k:=(by rw[Qi 10 rfl];simp only[zB,seval];exact e3);simp only[↓zP,zG,seval,e4,x6,x10,aG,Xg,rF,hgq,d4,dl4,dD];exact tB A0
     . rintro c g2 H4 h0 hc Qi e4 ⟨rfl,Xr⟩;simp only[zM] at Xr;have x6:g2 6=.bC 0 5 (S.map (cL L)):=(by rw[Qi 6 rfl];simp only[zB,seval];exact w6);have x10:g2 10=.int .i64 k:=(by rw[Qi 10 rfl];simp only[zB,seval];exact e3);have x8:g2 8=.int .i64 i:=(by rw[Qi 8 rfl];simp only[zB,seval];exact w8);have vq:=nR hc
       have htc:((L q).take (c+1)).contains i=(((L q).take c).contains i||(L q)[c]==i):=by
        rw[Di];simp only[Dq,List.contains_iff_mem,Dh,Ax,Ac hc,Option.toList_some,Aq,Cc];constructor
        . rintro(h|h)
          . exact .inl h
          exact .inr h.symm
        rintro(h|h)
        . exact .inl h
        exact .inr h.symm
       rw[htc,<-Bool.or_assoc];generalize (L q)[c]=p at *;generalize (b0||((L q).take c).contains i)=b1 at *;have hpi:((p:Int)==(i:Int))=(p==i):=(by rw[Di,Dh,Dh];omega);refine aP ?_
       cases b1 with
       |true=>simp only[↓zP,zJ,seval,Xr];exact⟨trivial,rfl⟩
       |false=>simp only[↓zP,zJ,seval,Xr,x6,x10,x8,e4,aG,Xg,rF,hgq,d4,dl4,dD,hc,vq,hpi];exact⟨trivial,rfl⟩
     rintro g2 H4 Qi ⟨rfl,Xr⟩;rw[Ay] at Xr;refine Tx ?_;exact⟨trivial,Xr⟩
   rintro g H3 kR ⟨rfl,hv⟩;rw[Ay] at hv;simp only[zM] at hv;have hP:(S.any fun q=>(L q).contains i)=gJ S L i:=rfl;rw[hP] at hv;have w5:g 5=.bC 0 3 (bK C):=(by rw[kR 5 rfl];simp only[zB,seval];exact u5);have w7:g 7=.ref ob 0:=(by rw[kR 7 rfl];simp only[zB,seval];exact u7);have w8:g 8=.int .i64 i:=(by rw[kR 8 rfl];simp only[zB,seval];exact e2);have hg:=cH hi;have LV:C.getD i V0=C[i]:=by simp[List.getD,hi]
   have aBh:((List.range (i+1)).filter (gJ S L)).map (fun k=>C.getD k V0)=((List.range i).filter (gJ S L)).map (fun k=>C.getD k V0)++(if gJ S L i then [C[i]] else []):=by
    rw[Ei,Js,Cn];congr 1;simp only[Kj,Ku];split
    . rw[Cq,LV];rfl
    rfl
   have zQ:(((List.range i).filter (gJ S L)).map fun k=>C.getD k V0).length<=64:=by rw[Ai];have :=Db (gJ S L) (List.range i);rw[Bu] at this;omega
   refine Tx ?_;apply hK;clear hK K;rw[aBh];generalize ((List.range i).filter (gJ S L)).map (fun k=>C.getD k V0)=els at *;generalize C[i]=x at *
   cases hu:gJ S L i with
   |false=>rw[hu] at hv;simp only[↓zP,zJ,seval,hv];exact⟨q0,qn,v,qv,qo,qe⟩
   |true=>
    rw[hu] at hv;simp only[↓zP,zG,seval,hv];obtain⟨H5,z1,z2,z3,z4,z5⟩:=Has.push (.inr qo) (ys:=[cE x]) (bytes:=24) rfl (by rw[aR,As,Bw];omega);refine Dz ?_;have w2:=(z4 ob A0 (by rw[qv];simp)).trans qv;simp only[↓zP,zJ,seval,zD,w5,w7,w8,qv,aG,aR,hi,hg,oL (aM x)];rw[eL];simp only[z1,bQ,zJ,seval,zD,w2];refine⟨by omega,(if_neg A0).trans ((z4 0 A0 (by rw[q0];simp)).trans q0),by omega,_,rfl,?_,fun h=>?_⟩
    . rw[show bK (els++[x])=bK els++[cE x] from by simp[bK]];exact .inr ⟨H3.next,rfl,by simp only[aA.bA];omega,by rw[aA.aC,if_neg A0];exact z3⟩
    simp at h
 rintro f2 H2 eW ⟨q0,qn,v,qv,qo,qe⟩;have u2:f2 2=.ref 0 0:=by rw[eW 2 rfl];simp only[zB,seval];exact a2
 have u7:f2 7=.ref ob 0:=eW 7 rfl;refine Tx ?_;apply hK;clear hK K;have hL:((List.range C.length).filter (gJ S L)).map (fun k=>C.getD k V0)=gS C S L:=rfl;rw[hL] at qo qe;simp only[↓zP,zJ,seval,u2,u7,qv,q0];refine⟨rfl,_,by simp only[↓zP,zR,seval,u2];rfl,?_⟩;refine⟨_,2,rfl,fun nw=>?_⟩
 exact Zap
theorem aDw(tag:Nat){l C:List aD.V}(hlen:l.length<2^30)(hC:Ord l C){S:List (aD.V×Int)}{L:aD.V×Int->List Nat}(hS:qZ C S L)(H:aA):
 Sg 91 [.bC tag 3 (bK l)] H (.ret (.agg [(iP l C S L).1,.int .i64 (iP l C S L).2])) H:=(aXb hlen hC hS H).HE tag
theorem so(H:aA):Sg 91 [.bB] H (.ret (.agg [.bB,.int .i64 120])) H:=by
 refine So bEl Zac ?_ H;unfold W91;dsimp only;refine bX ?_;simp only[↓zP,zG,Nat.reduceLT];refine gG ?_;simp only[↓zP,zJ,Nat.reduceLT,Nat.reduceEqDiff,Nat.reduceAdd];refine⟨fun h=>absurd h A1,fun _=>?_⟩;refine bY ?_;refine aT fun K hK=>?_;simp only[↓zP,zG,Nat.reduceLT];refine cP [] (fun i _ H=>H.get 0=some (.cells [.bB,.int .i64 0] false)) 0 0 (Bp _) A0 A1 ?_ ?_ ?_ ?_ ?_
 . simp only[zB];rfl
 . simp only[zI]
 . rintro i f H1 h0 hi hk e1 g0;have f0:f 0=.bB:=hk 0 rfl;simp only[↓zP,zJ,Nat.reduceLT,Nat.reduceEqDiff,e1,f0];exact tB A0
 . rintro i f H1 h0 hi hk;exact absurd hi (Ar _)
 rintro f H1 hk g0;have f0:f 0=.bB:=hk 0 rfl;have f2:f 2=.ref 0 0:=hk 2 rfl;simp only[↓zP];apply hK;clear hK K;refine bX ?_;simp only[↓zP,zG,Nat.reduceLT,f0];refine bO (XB _) ?_;simp only[↓zP,zG,Nat.reduceLT];refine gG ?_;simp only[↓zP,zG,Nat.reduceLT];refine bO (My _) ?_;simp only[↓zP,zG,Nat.reduceLT];refine bY ?_;refine aT fun K hK=>?_;simp only[↓zP,zJ,Nat.reduceLT,Nat.reduceEqDiff,Nat.reduceAdd,f2,g0];refine⟨rfl,_,by simp only[↓zP,zR,Nat.reduceEqDiff,Nat.reduceAdd,f2,g0];rfl,?_⟩;rfl
theorem aLc{a b:List aD.V}(ha:a.length<2^30)(hb:b.length<2^30)(H:aA):
 Sg 92 [.bC 0 3 (bK a),.bC 0 3 (bK b)] H (.ret (.bool (decide (a=b)))) H:=by
 have RJ:Nat.blt 0 2=true:=rfl;refine So bKr (by simp only[sf,cF RJ]) ?_ H;unfold W92;dsimp only;refine bX ?_;simp only[↓zP,zG,Nat.reduceLT];refine bY ?_;refine aT fun K hK=>?_;by_cases hl:a.length=b.length
 . have hd:((a.length:Int) != (b.length:Int))=false:=by simp[hl]
   simp only[↓zP,zJ,Nat.reduceLT,Nat.reduceEqDiff,aR,hd];apply hK;clear hK K;refine aT fun K hK=>?_;simp only[↓zP,zG,Nat.reduceLT];refine cP [] (fun i _ H=>a.take i=b.take i) 0 a.length (Bp _) A0 A1 ?_ ?_ ?_ ?_ ?_
   . simp only[zB];rfl
   . rfl
   . rintro i f H1 h0 hi hk e1 _;have f0:f 0=.bC 0 3 (bK a):=hk 0 rfl;simp only[↓zP,zJ,Nat.reduceLT,Nat.reduceEqDiff,e1,f0,aR];exact tB A0
   . rintro i f H1 h0 hi hk e1 hJ;have f0:f 0=.bC 0 3 (bK a):=hk 0 rfl;have f1:f 1=.bC 0 3 (bK b):=hk 1 rfl;have hib:i<b.length:=A0;have g1:=cH hi;have g2:=cH hib;have d1:(cE a[i]).take 3=cE a[i]:=rfl;have d2:(cE b[i]).take 3=cE b[i]:=rfl;refine aP ?_;refine bX ?_;refine Dz ?_;simp only[↓zP,zJ,Nat.reduceLT,Nat.reduceEqDiff,Nat.reduceAdd,zD,reduceCtorEq,e1,f0,f1,aG,aR,hi,hib,g1,g2,oL (aM a[i]),oL (aM b[i]),nM];refine bY ?_;by_cases he:a[i]=b[i]
     . simp only[↓zP,zJ,Aj he];rw[Ax,Ax,hJ,Ac hi,Ac hib,he]
     simp only[↓zP,zJ,Nat.reduceLT,Ad he];refine Rx ?_;rw[Ad fun h=>he (by subst h;rfl)];rfl
   rintro f H1 hk hJ;rw[Ay,hl,Ay] at hJ;simp only[↓zP];apply hK;clear hK K;simp only[↓zP,zG,Nat.reduceLT];refine Rx ?_;rw[Aj hJ];rfl
 have hd:((a.length:Int) != (b.length:Int))=true:=Gw.2 A0;simp only[↓zP,zJ,Nat.reduceLT,Nat.reduceEqDiff,aR,hd];refine Rx ?_;rw[Ad fun h=>hl (by rw[h])];rfl
theorem aDy(t1 t2:Nat){a b:List aD.V}(ha:a.length<2^30)(hb:b.length<2^30)(H:aA):
 Sg 92 [.bC t1 3 (bK a),.bC t2 3 (bK b)] H (.ret (.bool (decide (a=b)))) H:=((aLc ha hb H).HE t1).aLk t2
theorem RT{tag:Nat}(ht:Nat.blt tag 2=true){l C:List aD.V}(hlen:l.length<2^30)(hC:Ord l C){S:List (aD.V×Int)}{L:aD.V×Int->List Nat}(hS:qZ C S L)(H:aA):
 Sg 30 [.agg [.bC tag 3 (bK l)]] H (.ret (.int .i64 (OS l C S L))) H:=by
 refine So bDw Zao ?_ H;unfold W30;dsimp only;have hH:=fun H=>aDw tag hlen hC hS H;unfold OS;have h0:=UA (l:=l) (C:=C) (S:=S) (L:=L);generalize iP l C S L=o at *;obtain⟨ov,oc⟩:=o;dsimp only at hH h0 ⊢;refine bX ?_;simp only[↓zP,zJ,Nat.reduceLT];refine gG ?_;simp only[↓zP,zJ,Nat.reduceLT,Nat.reduceEqDiff];refine bO (hH _) ?_;simp only[↓zP,zJ,Nat.reduceLT,Nat.reduceEqDiff,Nat.reduceAdd];refine bY ?_;by_cases hc:oc=0
 . subst hc;obtain⟨hSn,rfl,bHz⟩:=h0 rfl;have cG:=PB hS hSn;have rY:jH 3 (bK (gS C S L))=.bC 0 3 (bK (gS C S L)):=if_neg (by simpa [bK] using cG);rw[rY]
   have IY:(gS C S L).length<2^30:=by have hCl:C.length<=l.length:=rK C l (Hx (fun {a b} (h:gV a b) (e:a=b)=>gV.gd b (by rw[e] at h;exact h)) hC.RV) fun v hv=>(hC.mem v).1 hv;have :=Db (gJ S L) (List.range C.length);rw[Bu] at this;simp only[gS,Ai];omega
   have hb:((0:Int)==0)=true:=rfl;have hE:=fun H=>aDy 0 tag IY hlen H;refine aT fun K hK=>?_;simp only[↓zP,zJ,Nat.reduceLT,Nat.reduceEqDiff,Nat.reduceAdd,Nat.reduceLeDiff,hb];refine bO (hE _) ?_;by_cases he:gS C S L=l
   . have hd:=Aj he;simp only[↓zP,zJ,Nat.reduceLT,Nat.reduceEqDiff,hd];apply hK;clear hK K;simp only[↓zP,zJ,Nat.reduceLT,Nat.reduceEqDiff,Nat.reduceAdd];refine Rx ?_;rw[if_neg (fun h=>h.2 he)];rfl
   have hd:=Ad he;simp only[↓zP,zJ,Nat.reduceLT,Nat.reduceEqDiff,hd];refine Rx ?_;rw[if_pos ⟨trivial,he⟩];rfl
 have hb:(oc==0)=false:=Dr.2 hc;refine bX ?_;simp only[↓zP,zJ,Nat.reduceLT,Nat.reduceEqDiff,Nat.reduceAdd,hb];refine bY ?_;simp only[↓zP,zJ,Nat.reduceLT,Nat.reduceEqDiff,Nat.reduceAdd];refine Rx ?_;rw[if_neg (fun h=>hc h.1)];rfl
end Go.Proofs.YtogfcjbgeebfkaaGreatDoor
namespace Go.Proofs.YtogfcjbgeebfkaaGreatDoor
open Go Go.Av
attribute [local congr] aY aS aV aQ bD aX aW aH bE
attribute [local irreducible] FC bT eX
def aJb(c:Nat):Bool:=decide (97<=c|||32)&&decide (c|||32<=122)&&decide (c<128)
def VQ(i c:Nat):Bool:=aJb c||(!decide (i=0)&&(decide (c=95)||(decide (48<=c)&&decide (c<=57))))
def MK(s:List UInt8):Bool:=(List.range s.length).all (fun k=>VQ k (s.getD k 0).toNat)&&(decide (1<=s.length)&&decide (s.length<=32))
theorem QU(s:List UInt8):(Sz s).length=s.length:=by simp[Sz]
theorem aFg{s:List UInt8}{i:Nat}(h:i<s.length):(Sz s).getD i []=[.int .u8 ((s.getD i 0).toNat:Nat)]:=by simp[Sz,List.getD,h]
theorem aFn(s:List UInt8)(hlen:s.length<2^63)(H:aA):Sg 102 [.str s] H (.ret (.bool (MK s))) H:=by
 refine Sp aZs Zac Zac ?_ H;unfold aOm;dsimp only;simp only[↓zP,zJ,seval,QU];refine cC [] (fun i vs H'=>∀k,k<i->VQ k (s.getD k 0).toNat=true) s.length A0 A1 ?_ ?_ ?_ ?_ ?_
 . exact zq
 . exact zq
 . exact fun k hk=>absurd hk (Ar _)
 . rintro i f H1 hi hk e1 hJ;have hg:=aFg hi;have aYs:(s.getD i 0).toNat<2^8:=(s.getD i 0).toNat_lt
   have fL:VQ i (s.getD i 0).toNat=true->∀k,k<i+1->VQ k (s.getD k 0).toNat=true:=fun h k hk=>by
    by_cases e:k=i
    . subst e;exact h
    exact hJ k A0
   have BJ:VQ i (s.getD i 0).toNat=false->MK s=false:=fun h=>by
    have :(List.range s.length).all (fun k=>VQ k (s.getD k 0).toNat)=false:=by rw[Kd];exact⟨i,Az.2 hi,by rw[h];decide⟩
    unfold MK;rw[this];rfl
   generalize (s.getD i 0).toNat=c at *;have SN:tN .or .u8 (c:Int) (32:Int)=some (.int .u8 ((c|||32:Nat):Int)):=aHc (k:=.u8) rfl aYs (b:=32) A1;have d1:decide (((c|||32:Nat):Int)≥97)=decide (97<=c|||32):=(by rw[Bk];omega);have d2:decide (((c|||32:Nat):Int)<=122)=decide (c|||32<=122):=(by rw[Bk];omega);have d3:decide ((c:Int)<128)=decide (c<128):=(by rw[Bk];omega);have d4:((i:Int)==0)=decide (i=0):=by rw[Bool.beq_eq_decide_eq,Bk];omega
   have d5:((c:Int) != 95)= !decide (c=95):=by have :((c:Int)==95)=decide (c=95):=(by rw[Bool.beq_eq_decide_eq,Bk];omega);rw[bne,this]
   have d6:decide ((c:Int)<48)= !decide (48<=c):=(by rw[<-decide_not,Bk];omega);have d7:decide ((c:Int)>57)= !decide (c<=57):=(by rw[<-decide_not,Bk];omega);refine aP ?_;refine bX ?_;simp only[↓zP,zJ,seval,e1,hk 7 rfl,aG,QU,hi,hg];refine bY ?_;refine aT fun K2 dL=>?_
   have key:∀f':cW,f' 3=.int .i64 i->f' 4=.int .u8 c->f' 5=.bool (aJb c)->K2 f' [] H1:=by
    intro f' v3 v4 v5;apply dL;clear dL K2;unfold VQ at fL BJ
    cases hL:aJb c with
    |true=>rw[hL] at v5 fL;simp only[↓zP,zJ,seval,v5];exact fL A2
    |false=>
     rw[hL] at v5 fL BJ
     cases h4:decide (i=0) with
     |true=>rw[h4] at d4 BJ;simp only[↓zP,zJ,seval,v5,v3,d4];exact⟨rfl,[.bool false],by simp only[sJ,RR,zB,seval],by rw[BJ A2];rfl⟩
     |false=>
      rw[h4] at d4 fL BJ
      cases h5:decide (c=95) with
      |true=>rw[h5] at d5 fL;simp only[↓zP,zJ,seval,v5,v3,v4,d4,d5];exact fL A2
      |false=>
       rw[h5] at d5 fL BJ
       cases h6:decide (48<=c) with
       |false=>rw[h6] at d6 BJ;simp only[↓zP,zJ,seval,v5,v3,v4,d4,d5,d6];exact⟨rfl,[.bool false],by simp only[sJ,RR,zB,seval],by rw[BJ A2];rfl⟩
       |true=>
        rw[h6] at d6 fL BJ
        cases h7:decide (c<=57) with
        |false=>rw[h7] at d7 BJ;simp only[↓zP,zJ,seval,v5,v3,v4,d4,d5,d6,d7];exact⟨rfl,[.bool false],by simp only[sJ,RR,zB,seval],by rw[BJ A2];rfl⟩
        |true=>rw[h7] at d7 fL;simp only[↓zP,zJ,seval,v5,v3,v4,d4,d5,d6,d7];exact fL A2
   clear dL fL BJ d4 d5 d6 d7;unfold aJb at key
   cases h1:decide (97<=c|||32) with
   |false=>rw[h1] at d1 key;simp only[↓zP,zG,seval,SN,d1];exact key _ zq zq (by simp only[zB,seval];rfl)
   |true=>
    rw[h1] at d1 key
    cases h2:decide (c|||32<=122) with
    |false=>rw[h2] at d2 key;simp only[↓zP,zG,seval,SN,d1,d2];exact key _ zq zq (by simp only[zB,seval];rfl)
    |true=>rw[h2] at d2 key;simp only[↓zP,zG,seval,SN,d1,d2,d3];exact key _ zq zq (by simp only[zB,seval];rfl)
 rintro f H1 hk hJ
 have fL:(List.range s.length).all (fun k=>VQ k (s.getD k 0).toNat)=true:=by rw[Bg];exact fun k hk=>hJ k (Az.1 hk)
 unfold MK;rw[fL];have f0:f 0=.str s:=hk 0 rfl;have d1:decide ((s.length:Int)≥1)=decide (1<=s.length):=by rw[Bk];omega
 have d2:decide ((s.length:Int)<=32)=decide (s.length<=32):=by rw[Bk];omega
 cases h1:decide (1<=s.length) with
 |false=>rw[h1] at d1;simp only[↓zP,zG,seval,f0,d1];exact⟨rfl,[.bool false],by simp only[sJ,RR,zB,seval],rfl⟩
 |true=>rw[h1] at d1;simp only[↓zP,zG,seval,f0,d1,d2];exact⟨rfl,[.bool (decide (s.length<=32))],by simp only[sJ,RR,zB,seval],rfl⟩
end Go.Proofs.YtogfcjbgeebfkaaGreatDoor
namespace Go.Proofs.YtogfcjbgeebfkaaGreatDoor
open Go Go.Av Go.aD
attribute [local congr] aY aS aV aQ bD aX aW aH bE
attribute [local irreducible] FC bT eX
def uM(p:AV×List aD.V):Prop:=(p.1=.bB/\p.2=[])\/p.1=.bC 0 3 (bK p.2)
def Mu(ps:List (AV×List aD.V)):List (List AV):=ps.map fun p=>[p.1]
def yh(pv:AV)(ps:List (AV×List aD.V)):Prop:=(pv=.bB/\ps=[])\/pv=.bC 0 1 (Mu ps)
theorem uM.free{p:AV×List aD.V}(h:uM p):p.1.free=true:=by
 rcases h with ⟨h,_⟩|h
 . rw[h];rfl
 rw[h];exact cF rfl _
theorem Wq{ps:List (AV×List aD.V)}(h:∀p∈ps,uM p):eI (Mu ps)=true:=by
 induction ps with
 |nil=>simp only[Mu,Jo,eI]
 |cons p ps ih=>have h1:=(h p Bc).free;have h2:=ih fun x hx=>h x (Aw _ hx);simp only[Mu] at h2;simp only[Mu,Cq,eI,cM,h1,h2,Du]
theorem yh.free{pv:AV}{ps:List (AV×List aD.V)}(h:yh pv ps)(hp:∀p∈ps,uM p):pv.free=true:=by
 rcases h with ⟨h,_⟩|h
 . rw[h];rfl
 rw[h];simp only[AV.free,Wq hp];rfl
def LP(v:aD.V):Bool:=(decide (v.x>4096)||decide (v.x< -4096))||((decide (v.y>4096)||decide (v.y< -4096))||(decide (v.z>4096)||decide (v.z< -4096)))
noncomputable def lH (l:List aD.V):Int:=if fJ l≠0 then fJ l else if l.any LP then 1 else 0
def aHb(m0 m1 r0 r1:Int):Bool:=decide (m0<1)||(decide (m1<m0)||(decide (m1>1099511627776)||(decide (r0<0)||(decide (r1<r0)||decide (r1>4000)))))
noncomputable def Mr (ps:List (List aD.V)):Bool:=(List.range ps.length).any fun i=>(List.range i).any fun k=> !kJ (ps.getD i []) (ps.getD k [])
noncomputable def CE (ps:List (List aD.V)):Int:=match ps.find? fun l=> !decide (lH l=0) with
 |some l=>lH l
 |none=>if Mr ps then 150 else 0
noncomputable def LH (name:List UInt8) (ps:List (List aD.V)) (m0 m1 r0 r1:Int):Int:=
 if MK name=false then 5 else if ps.length<1\/8<ps.length then 2 else if aHb m0 m1 r0 r1=true then 1 else CE ps
theorem Zu{ls:List (List aD.V)}{i:Nat}(hi:i<ls.length)(h:∀j (hj:j<i),lH (ls[j]'(Cm hj hi))=0)(he:lH ls[i]≠0):CE ls=lH ls[i]:=by
 have :ls.find? (fun l=> !decide (lH l=0))=some ls[i]:=by rw[List.find?_eq_some_iff_getElem];exact⟨by simp[he],i,hi,rfl,fun j hj=>by simp[h j hj]⟩
 unfold CE;rw[this]
theorem GV{ls:List (List aD.V)}(h:∀l∈ls,lH l=0):CE ls=if Mr ls then 150 else 0:=by
 have :ls.find? (fun l=> !decide (lH l=0))=none:=by rw[Jr];exact fun l hl=>by simp[h l hl]
 unfold CE;rw[this]
theorem aKj{l:List aD.V}(h:lH l=0):fJ l=0/\∀v∈l,LP v=false:=by
 unfold lH at h;split at h
 . rename_i h1;exact absurd h h1
 rename_i h1;split at h
 . cases h
 rename_i h2
 exact⟨Decidable.not_not.1 h1,fun v hv=>by
  cases hf:LP v with
  |false=>rfl
  |true=>exact absurd (Cv.2 ⟨v,hv,hf⟩) h2⟩
theorem Pt{ls:List (List aD.V)}{i k:Nat}(hi:i<ls.length)(hk:k<i)(h:kJ ls[i] (ls[k]'(Cm hk hi))=false):Mr ls=true:=by unfold Mr;rw[Cv];refine⟨i,Az.2 hi,?_⟩;rw[Cv];refine⟨k,Az.2 hk,?_⟩;have rF:=Cm hk hi;simp only[List.getD,Ac hi,Ac rF,Bl,h,Fy]
theorem Ms{ls:List (List aD.V)}(h:∀i k (hi:i<ls.length) (hk:k<i),kJ ls[i] (ls[k]'(Cm hk hi))=true):Mr ls=false:=by unfold Mr;rw[Gu];intro i hi;rw[Az] at hi;simp only[Fs];rw[Gu];intro k hk;rw[Az] at hk;have rF:=Cm hk hi;simp only[List.getD,Ac hi,Ac rF,Bl,h i k hi hk];decide
theorem EM{p:AV×List aD.V}(h:uM p)(hlen:p.2.length<2^30)(H:aA):Sg 101 [.agg [p.1]] H (.ret (.int .i64 (fJ p.2))) H:=by
 rcases h with ⟨h1,h2⟩|h1
 . rw[h1,h2,IB];exact RL H
 rw[h1];exact Tw rfl hlen (xU _) (kZ (xU _).RV) H
def MS(name:List UInt8)(pv:AV)(m0 m1 r0 r1:Int):List AV:=[.str name,pv,.int .i64 m0,.int .i64 m1,.int .i64 r0,.int .i64 r1]
theorem RZ{name:List UInt8}(aZg:name.length<2^63){ps:List (AV×List aD.V)}(SO:∀p∈ps,uM p)(hlen:∀p∈ps,p.2.length<2^30)(DY:ps.length<2^30)(m0 m1 r0 r1:Int)(H:aA):
 Sg 36 [.agg (MS name (.bC 0 1 (Mu ps)) m0 m1 r0 r1)] H (.ret (.int .i64 (LH name (ps.map (·.2)) m0 m1 r0 r1))) H:=by
 have yB:cM [AV.agg (MS name (.bC 0 1 (Mu ps)) m0 m1 r0 r1)]=true:=by simp only[sf,MS,Wq SO]
 refine So bJx yB ?_ H;have IY:(ps.map (·.2)).length=ps.length:=Ai _;unfold W36;dsimp only;have hpe:(Mu ps).length=ps.length:=Ai _;have d1:decide ((ps.length:Int)<1)=decide (ps.length<1):=by rw[Bk];omega
 have d2:decide ((ps.length:Int)>8)=decide (8<ps.length):=by rw[Bk];omega
 refine bX ?_;simp only[↓zP,zJ,seval,MS];refine bY ?_;refine aT fun K hK=>?_;refine aP ?_;refine aT fun K2 dL=>?_;refine Ty ?_;have hvo:=aFn name aZg
 cases hv:MK name with
 |false=>rw[hv] at hvo;refine bO (hvo _) ?_;refine Ty ?_;apply dL;clear dL K2;refine Tz ?_;refine Rx ?_;unfold LH;rw[if_pos hv];rfl
 |true=>
 rw[hv] at hvo;refine bO (hvo _) ?_;refine Ty ?_;apply dL;clear dL K2;refine HN false zq (fun h=>by cases h) (fun _=>?_);refine aT fun K2 dL=>?_
 cases h1:decide (ps.length<1) with
 |true=>rw[h1] at d1;simp only[↓zP,zJ,seval,hpe,d1];apply dL;clear dL K2;refine Tz ?_;refine Rx ?_;unfold LH;rw[if_neg (by rw[hv];decide),if_pos (.inl (by rw[IY];exact Ed h1))];rfl
 |false=>
 rw[h1] at d1
 cases h2:decide (8<ps.length) with
 |true=>rw[h2] at d2;simp only[↓zP,zJ,seval,hpe,d1,d2];apply dL;clear dL K2;refine Tz ?_;refine Rx ?_;unfold LH;rw[if_neg (by rw[hv];decide),if_pos (.inr (by rw[IY];exact Ed h2))];rfl
 |false=>
 rw[h2] at d2
 have ei:aHb m0 m1 r0 r1=true->LH name (ps.map (·.2)) m0 m1 r0 r1=1:=fun hb=>by unfold LH;rw[if_neg (by rw[hv];decide),if_neg (by rw[IY];intro h;rcases h with h|h;exact Gf h1 h;exact Gf h2 h),if_pos hb]
 have hB0:aHb m0 m1 r0 r1=false->LH name (ps.map (·.2)) m0 m1 r0 r1=CE (ps.map (·.2)):=fun hb=>by unfold LH;rw[if_neg (by rw[hv];decide),if_neg (by rw[IY];intro h;rcases h with h|h;exact Gf h1 h;exact Gf h2 h),if_neg (by rw[hb];decide)]
 unfold aHb at ei hB0
 have key:∀f':cW,LH name (ps.map (·.2)) m0 m1 r0 r1=(CE (ps.map (·.2)))->f' 1=.ref 0 0->K f' [] ((⟨0,.nil⟩:aA).alloc (.cells [.str name,.bC 0 1 (Mu ps),.int .i64 m0,.int .i64 m1,.int .i64 r0,.int .i64 r1] false)):=by
  intro f' JB f1;rw[JB] at hK;apply hK;clear hK dL K2 K ei hB0
  have hF:∀i (hi:i<ps.length),(∀j (hj:j<i),lH (ps[j]'(Cm hj hi)).2=0)->lH ps[i].2≠0->CE (ps.map (·.2))=lH ps[i].2:=fun i hi h1 h2=>by have :=Zu (ls:=ps.map (·.2)) (i:=i) (by rw[IY];exact hi) (fun j hj=>by rw[Dv];exact h1 j hj) (by rw[Dv];exact h2);rw[this,Dv]
  simp only[↓zP,zJ,seval,f1,hpe];refine cC [] (fun i vs H'=>(∀j (hj:j<i) (hl:j<ps.length),lH ps[j].2=0)/\H'.get 0=some (.cells [.str name,.bC 0 1 (Mu ps),.int .i64 m0,.int .i64 m1,.int .i64 r0,.int .i64 r1] false)/\1<=H'.next) ps.length A0 A1 ?_ ?_ ?_ ?_ ?_
  . exact zq
  . exact zq
  . exact⟨fun j hj=>absurd hj (Ar _),by simp only[zI,seval],by simp only[zI,seval]⟩
  . rintro i f H1 hi hk e1 ⟨hJ,g0,hn⟩;have hg:(Mu ps).getD i []=[ps[i].1]:=fB hi;have hp:=SO _ (Ah hi);have hl:=hlen _ (Ah hi);have hFi:=hF i hi (fun j hj=>hJ j hj (Cm hj hi))
    have hJn:lH ps[i].2=0->∀j (hj:j<i+1) (hl:j<ps.length),lH ps[j].2=0:=fun h j hj hl=>by
     by_cases e:j=i
     . subst e;exact h
     exact hJ j A0 hl
    generalize ps[i]=p at *;obtain⟨pv,l⟩:=p;simp only at hg hp hl hFi hJn;have hc:=EM hp hl;simp only at hc;have Xv:¬(0=H1.next):=A0;refine aP ?_;refine bX ?_;simp only[↓zP,zJ,seval,e1,hk 70 rfl,aG,hpe,hi,hg];refine bY ?_;refine aT fun K2 dL=>?_;refine Ty ?_;refine bO (hc _) ?_;by_cases he:fJ l=0
    . have hb:(fJ l != 0)=false:=(by simp[he]);obtain⟨_,_,_,_,_,KN,aMt⟩:=nG he
      obtain⟨rfl⟩:pv=.bC 0 3 (bK l):=by
       rcases hp with ⟨_,h⟩|h
       . exact absurd h KN
       exact h
      have bIs:l.any LP=false->lH l=0:=fun h=>by unfold lH;rw[if_neg (by simp[he]),h];rfl
      have o9:l.any LP=true->lH l=1:=fun h=>by unfold lH;rw[if_neg (by simp[he]),h];rfl
      simp only[↓zP,zG,seval,hb];apply dL;clear dL K2;simp only[↓zP,zJ,seval,aR];generalize hX:(H1.alloc _).set H1.next _=H4;have y0:H4.get 0=some (.cells [.str name,.bC 0 1 (Mu ps),.int .i64 m0,.int .i64 m1,.int .i64 r0,.int .i64 r1] false):=ZaG;have yn:1<=H4.next:=Zax;clear hX;refine cC [] (fun j vs H'=>(∀k (hk:k<j) (hl:k<l.length),LP l[k]=false)/\H'.get 0=some (.cells [.str name,.bC 0 1 (Mu ps),.int .i64 m0,.int .i64 m1,.int .i64 r0,.int .i64 r1] false)/\1<=H'.next) l.length A0 A1 ?_ ?_ ?_ ?_ ?_
      . exact zq
      . exact zq
      . exact⟨fun k hk=>absurd hk (Ar _),y0,yn⟩
      . rintro j f2 H2 hj eW e2 ⟨hJ2,g02,JA⟩;have hgv:=cH hj
        have aBf:LP l[j]=false->∀k (hk:k<j+1) (hl:k<l.length),LP l[k]=false:=fun h k hk hl=>by
         by_cases e:k=j
         . subst e;exact h
         exact hJ2 k A0 hl
        have zO:LP l[j]=true->l.any LP=true:=fun h=>Cv.2 ⟨l[j],Ah hj,h⟩;generalize l[j]=v at *;have wu:¬(0=H2.next):=A0;have v0:(cE v).getD 0 aB=.int .i64 v.x:=rfl;have v1:(cE v).getD 1 aB=.int .i64 v.y:=rfl;have v2:(cE v).getD 2 aB=.int .i64 v.z:=rfl;have w0:=Yo v.x 4096 A1;have w1:=Yo v.y 4096 A1;have w2:=Yo v.z 4096 A1;rw[show(-4096:Int)= -(4096) from rfl] at *;unfold LP at aBf zO;refine aP ?_;refine bX ?_;simp only[↓zP,zJ,seval,e2,eW 82 rfl,aG,aR,hj,hgv,oL (aM v)];refine bY ?_;refine aT fun K2 dL=>?_;simp only[↓zP,zJ,seval,pZ,v0,aM];refine bO (w0 _) ?_
        cases c0:(decide (v.x>4096)||decide (v.x< -4096)) with
        |true=>rw[c0] at zO;refine Tz ?_;apply dL;clear dL K2;refine Tz ?_;refine Rx ?_;rw[hFi (by rw[o9 (zO rfl)];decide),o9 (zO rfl)];rfl
        |false=>
        rw[c0] at zO aBf;simp only[↓zP,zJ,seval,pZ,v1,aM];refine bO (w1 _) ?_
        cases c1:(decide (v.y>4096)||decide (v.y< -4096)) with
        |true=>rw[c1] at zO;refine Tz ?_;apply dL;clear dL K2;refine Tz ?_;refine Rx ?_;rw[hFi (by rw[o9 (zO rfl)];decide),o9 (zO rfl)];rfl
        |false=>
        rw[c1] at zO aBf;simp only[↓zP,zJ,seval,pZ,v2,aM];refine bO (w2 _) ?_
        cases c2:(decide (v.z>4096)||decide (v.z< -4096)) with
        |true=>rw[c2] at zO;refine Tz ?_;apply dL;clear dL K2;refine Tz ?_;refine Rx ?_;rw[hFi (by rw[o9 (zO rfl)];decide),o9 (zO rfl)];rfl
        |false=>
        rw[c2] at aBf;refine Tz ?_;apply dL;clear dL K2;refine Ty ?_;exact⟨aBf rfl,by rw[if_neg wu,if_neg wu];exact g02,trivial⟩
      rintro f2 H2 eW ⟨hJ2,g02,JA⟩
      have :l.any LP=false:=by rw[Gu];intro v hv;obtain⟨k,hk,rfl⟩:=Dt hv;rw[hJ2 k hk hk];decide
      refine Tx ?_;exact⟨hJn (bIs this),g02,JA⟩
    have hb:(fJ l != 0)=true:=(by simp[he]);have hpc:lH l=fJ l:=(by unfold lH;rw[if_pos he]);simp only[↓zP,zG,seval,hb];refine Rx ?_;rw[hFi (by rw[hpc];exact he),hpc];rfl
  rintro f H1 hk ⟨hJ,g0,hn⟩;have fL:∀j (hl:j<ps.length),lH ps[j].2=0:=fun j hl=>hJ j hl hl
  have hR:=GV (ls:=ps.map (·.2)) (fun l hl=>by
   obtain⟨p,hp,rfl⟩:=Bm.1 hl;obtain⟨j,hj,rfl⟩:=Dt hp
   exact fL j hj)
  have fu:∀j (hl:j<ps.length),fJ ps[j].2=0/\ps[j].1=.bC 0 3 (bK ps[j].2):=fun j hl=>by
   have h0:=(aKj (fL j hl)).1;refine⟨h0,?_⟩
   rcases SO _ (Ah hl) with ⟨_,h⟩|h
   . rw[h,IB] at h0;cases h0
   exact h
  have f1':f 1=.ref 0 0:=by rw[hk 1 rfl];simp only[zB,seval];exact f1
  simp only[↓zP,zJ,seval,f1',g0,hpe];refine cC [] (fun i vs H'=>(∀a k (ha:a<i) (hl:a<ps.length) (hk:k<a),kJ ps[a].2 (ps[k]'(Cm hk hl)).2=true)/\H'.get 0=some (.cells [.str name,.bC 0 1 (Mu ps),.int .i64 m0,.int .i64 m1,.int .i64 r0,.int .i64 r1] false)/\1<=H'.next) ps.length A0 A1 ?_ ?_ ?_ ?_ ?_
  . exact zq
  . exact zq
  . exact⟨fun a k ha=>absurd ha (Ar _),g0,hn⟩
  . rintro i f2 H2 hi eW e2 ⟨hJ2,g02,JA⟩;have hg:(Mu ps).getD i []=[ps[i].1]:=fB hi;obtain⟨uB,qK⟩:=fu i hi
    have hJn:(∀k (hk:k<i),kJ ps[i].2 (ps[k]'(Cm hk hi)).2=true)->∀a k (ha:a<i+1) (hl:a<ps.length) (hk:k<a),kJ ps[a].2 (ps[k]'(Cm hk hl)).2=true:=fun h a k ha hl hk=>by
     by_cases e:a=i
     . subst e;exact h k hk
     exact hJ2 a k A0 hl hk
    have hov:∀k (hk:k<i),kJ ps[i].2 (ps[k]'(Cm hk hi)).2=false->CE (ps.map (·.2))=150:=fun k hk h=>by have :=Pt (ls:=ps.map (·.2)) (i:=i) (k:=k) (by rw[IY];exact hi) hk (by rw[Dv,Dv];exact h);rw[hR,this];rfl
    have f21:f2 1=.ref 0 0:=(by rw[eW 1 rfl];simp only[zB,seval];exact f1');have wu:¬(0=H2.next):=A0;have uA:(Mu ps).take i=Mu (ps.take i):=by simp[Mu]
    have Ut:pX 1 (.bC 0 1 (Mu ps)) none (some i) none=some (.bC 0 1 (Mu (ps.take i))):=by simp only[pX,Eb,Bl];rw[if_pos ⟨trivial,Bp _,by rw[hpe];omega⟩,if_neg (by rw[hpe];omega),Ej,Is,uA]
    have hpi:(Mu (ps.take i)).length=i:=(by simp[Mu];omega);rw[qK] at hg;refine aP ?_;refine bX ?_;simp only[↓zP,zJ,seval,e2,eW 104 rfl,aG,hpe,hi,hg];refine bY ?_;simp only[↓zP,zJ,seval,f21,wu,g02,dV,aG,Ut,Br,An,hpi];generalize hX:(H2.alloc _).set H2.next _=H4;have y0:H4.get 0=some (.cells [.str name,.bC 0 1 (Mu ps),.int .i64 m0,.int .i64 m1,.int .i64 r0,.int .i64 r1] false):=(by subst hX;rw[aA.aC,if_neg wu,aA.aI,if_neg wu];exact g02);have yn:H2.next<H4.next:=(by subst hX;simp);have y9:H4.get H2.next=some (.cells [.bC 0 3 (bK ps[i].2)] false):=Zag;clear hX;refine cC [] (fun k vs H'=>(∀a (ha:a<k) (hl:a<i),kJ ps[i].2 (ps[a]'(Cm hl hi)).2=true)/\H'.get 0=some (.cells [.str name,.bC 0 1 (Mu ps),.int .i64 m0,.int .i64 m1,.int .i64 r0,.int .i64 r1] false)/\H2.next<H'.next/\H'.get H2.next=some (.cells [.bC 0 3 (bK ps[i].2)] false)) i A0 A1 ?_ ?_ ?_ ?_ ?_
    . exact zq
    . exact zq
    . exact⟨fun a ha=>absurd ha (Ar _),y0,yn,y9⟩
    . rintro k f3 H3 hki kR e3 ⟨hJ3,g03,DX,g93⟩;have AB:=Cm hki hi;obtain⟨PC,zZ⟩:=fu k AB
      have ff:(Mu (ps.take i)).getD k []=[ps[k].1]:=by have h1:k<(ps.take i).length:=Zaf;have :(Mu (ps.take i)).getD k []=[(ps.take i)[k].1]:=fB h1;rw[this,List.getElem_take]
      rw[zZ] at ff;have hd:=Nd (ta:=0) (tb:=0) rfl rfl uB PC
      have bGr:kJ ps[i].2 ps[k].2=true->∀a (ha:a<k+1) (hl:a<i),kJ ps[i].2 (ps[a]'(Cm hl hi)).2=true:=fun h a ha hl=>by
       by_cases e:a=k
       . subst e;exact h
       exact hJ3 a A0 hl
      have bIq:=hov k hki;generalize ps[k]=q at *;generalize bMe:ps[i]=p at *;have nx3:¬(0=H3.next):=A0;have nx9:¬(H2.next=H3.next):=A0;refine aP ?_;refine bX ?_;simp only[↓zP,zJ,seval,e3,kR 114 rfl,aG,hpi,hki,ff];refine bY ?_;refine aT fun K2 dL=>?_;simp only[↓zP,zJ,seval,kR 9 rfl,nx9,g93];refine bO (hd _) ?_
      cases hdb:kJ p.2 q.2 with
      |true=>refine Ty ?_;apply dL;clear dL K2;refine Ty ?_;exact⟨bGr hdb,by rw[if_neg nx3,if_neg nx3];exact g03,by omega,by rw[if_neg nx9,if_neg nx9];exact g93⟩
      |false=>refine Ty ?_;apply dL;clear dL K2;refine Tz ?_;refine Rx ?_;rw[bIq hdb];rfl
    rintro f3 H3 kR ⟨hJ3,g03,DX,g93⟩;refine Tx ?_;exact⟨hJn fun k hk=>hJ3 k hk hk,g03,by omega⟩
  rintro f2 H2 eW ⟨hJ2,g02,JA⟩
  have :=Ms (ls:=ps.map (·.2)) (fun a k ha hk=>by
   rw[Dv,Dv]
   exact hJ2 a k (by rwa [IY] at ha) (by rwa [IY] at ha) hk)
  refine Tx ?_;refine Rx ?_;rw[hR,this];rfl
 clear hK;simp only[↓zP,zJ,seval,hpe,d1,d2];apply dL;clear dL K2;refine HN false zq (fun h=>by cases h) (fun _=>?_);refine cY fun f hf=>?_;have f1:f 1=.ref 0 0:=by subst hf;simp only[zB,seval]
 clear hf
 cases g1:decide (m0<1) with
 |true=>rw[g1] at ei;simp only[↓zP,zJ,seval,f1,pZ,g1];refine Rx ?_;rw[ei A2];rfl
 |false=>
 cases g2:decide (m1<m0) with
 |true=>rw[g2] at ei;simp only[↓zP,zJ,seval,f1,pZ,g1,g2];refine Rx ?_;rw[ei A2];rfl
 |false=>
 cases g3:decide (m1>1099511627776) with
 |true=>rw[g3] at ei;simp only[↓zP,zJ,seval,f1,pZ,g1,g2,g3];refine Rx ?_;rw[ei A2];rfl
 |false=>
 cases g4:decide (r0<0) with
 |true=>rw[g4] at ei;simp only[↓zP,zJ,seval,f1,pZ,g1,g2,g3,g4];refine Rx ?_;rw[ei A2];rfl
 |false=>
 cases g5:decide (r1<r0) with
 |true=>rw[g5] at ei;simp only[↓zP,zJ,seval,f1,pZ,g1,g2,g3,g4,g5];refine Rx ?_;rw[ei A2];rfl
 |false=>
 cases g6:decide (r1>4000) with
 |true=>rw[g6] at ei;simp only[↓zP,zJ,seval,f1,pZ,g1,g2,g3,g4,g5,g6];refine Rx ?_;rw[ei A2];rfl
 |false=>rw[g1,g2,g3,g4,g5,g6] at hB0;simp only[↓zP,zJ,seval,f1,pZ,g1,g2,g3,g4,g5,g6];exact key _ (hB0 rfl) (by simp only[zB,seval];exact f1)
end Go.Proofs.YtogfcjbgeebfkaaGreatDoor
namespace Go.Proofs.YtogfcjbgeebfkaaGreatDoor
open Go Go.Av Go.aD Go.lP
attribute [local congr] aY aS aV aQ bD aX aW aH bE
attribute [local irreducible] FC bT eX
theorem QE(H:aA):Sg 30 [.agg [.bB]] H (.ret (.int .i64 120)) H:=by
 refine So bDw Zac ?_ H;unfold W30;dsimp only;refine bX ?_;refine Ty ?_;refine gG ?_;refine Ty ?_;refine bO (so _) ?_;refine Ty ?_;refine bY ?_;have hb:((120:Int)==0)=false:=by decide
 refine bX ?_;simp only[↓zP,zJ,seval,hb];refine bY ?_;refine Ty ?_;exact ZaB
theorem CF{p:AV×List aD.V}(h:uM p)(hlen:p.2.length<2^30)(H:aA):Sg 30 [.agg [p.1]] H (.ret (.int .i64 (fJ p.2))) H:=by
 rcases h with ⟨h1,h2⟩|h1
 . rw[h1,h2,IB];exact QE H
 rw[h1];exact RT rfl hlen (xU _) (kZ (xU _).RV) H
theorem Zn(tag:Nat){l:List aD.V}{M:Nat}(hl:∀v∈l,bL M v)(hM:M<=2^18)(hlen:l.length<=64){S:List (aD.V×Int)}{L:aD.V×Int->List Nat}(hS:qZ l S L)(ht:Nat.blt tag 2=true)(H:aA):
 Sg 96 [.agg [.bC tag 3 (bK l)]] H (.ret (zX L S)) H:=by
 refine Sp bEm Zao (by simp only[LO]) ?_ H;unfold W96;dsimp only;have hF:=fun H=>QC tag hl hM hlen hS H;refine Ty ?_;refine bO (hF _) ?_;refine Tz ?_;exact ZaB
theorem Ws(tag:Nat){l:List aD.V}{M:Nat}(hl:∀v∈l,bL M v)(hM:M<=2^18)(hlen:l.length<=64){S:List (aD.V×Int)}{L:aD.V×Int->List Nat}(hS:qZ l S L)(cG:S≠[])(ht:Nat.blt tag 2=true)(H:aA):
 Sg 96 [.agg [.bC tag 3 (bK l)]] H (.ret (.bC (H.next+2) 5 (S.map (cL L)))) (H.alloc .tok):=by
 refine CV eC Zao (by simpa using cG) (dN (qH L) S) ?_ H;refine eH fit bEm (Al rfl) ?_;unfold W96;dsimp only;have hF:=fun H=>Ww tag hl hM hlen hS cG H;refine Ty ?_;refine bO (hF _) ?_;refine Ty ?_;refine Rx ?_;exact⟨_,rfl,.inr ⟨_,rfl,by simp,by rw[aA.aI,if_pos A2]⟩⟩
def FK(on:List Nat)(m a b:Nat):Bool:=(List.range m).any fun i=>(on.getD i 0==a&&on.getD ((i+1)%on.length) 0==b)||(on.getD i 0==b&&on.getD ((i+1)%on.length) 0==a)
def Qq(S:List (aD.V×Int))(L:aD.V×Int->List Nat)(a b:Nat):Bool:=S.any fun q=>FK (L q) (L q).length a b
def GP(S:List (aD.V×Int))(L:aD.V×Int->List Nat)(a j:Nat):List (Int×Int):=((List.range j).filter fun b=>decide (a<b)&&Qq S L a b).map fun b:Nat=>(((a:Nat):Int),((b:Nat):Int))
def Qm(S:List (aD.V×Int))(L:aD.V×Int->List Nat)(N i:Nat):List (Int×Int):=(List.range i).flatMap fun a=>GP S L a N
theorem Wo(S:List (aD.V×Int))(L:aD.V×Int->List Nat)(a j:Nat):(GP S L a j).length<=j:=by
 rw[GP,Ai];have :=Db (fun b=>decide (a<b)&&Qq S L a b) (List.range j)
 rwa [Bu] at this
theorem jh(S:List (aD.V×Int))(L:aD.V×Int->List Nat)(N i:Nat):(Qm S L N i).length<=i*N:=by
 have :=mJ (fun a=>GP S L a N) N (fun a=>Wo S L a N) (List.range i)
 rwa [Bu] at this
theorem aDr(S:List (aD.V×Int))(L:aD.V×Int->List Nat)(a:Nat):GP S L a (a+1)=[]:=by
 have :((List.range (a+1)).filter fun b=>decide (a<b)&&Qq S L a b)=[]:=by rw[List.filter_eq_nil_iff];intro b hb;rw[Az] at hb;rw[Ad A0];simp
 rw[GP,this];rfl
theorem aWy{S:List (aD.V×Int)}{L:aD.V×Int->List Nat}{a j:Nat}(h:a<j):GP S L a (j+1)=GP S L a j++(if Qq S L a j then [((a:Int),(j:Int))] else []):=by simp only[GP];rw[Ei,Js,Cn,Kj,Ku,Aj h,Ct];cases Qq S L a j<;>rfl
theorem bFx(S:List (aD.V×Int))(L:aD.V×Int->List Nat)(N i:Nat):Qm S L N (i+1)=Qm S L N i++GP S L i N:=by simp only[Qm];rw[Ei,Ha];simp
theorem aSw(on:List Nat)(m a b:Nat):FK on (m+1) a b=(FK on m a b||((on.getD m 0==a&&on.getD ((m+1)%on.length) 0==b)||(on.getD m 0==b&&on.getD ((m+1)%on.length) 0==a))):=by simp only[FK];rw[Ei,Jj];simp
theorem sj{tag:Nat}(ht:Nat.blt tag 2=true){l:List aD.V}{M:Nat}(hl:∀v∈l,bL M v)(hM:M<=2^18)(hlen:l.length<=64){S:List (aD.V×Int)}{L:aD.V×Int->List Nat}(hS:qZ l S L)(IQ:S.length<=64)(H:aA):
 Sg 187 [.agg [.bC tag 3 (bK l)]] H (.ret (jH 2 ((Qm S L l.length l.length).map pC))) H:=by
 refine eS fit eC bBe (Al rfl) Zao ?_ H;unfold aPy;dsimp only;have hF:=fun H=>Zn tag hl hM hlen hS ht H;have hLw:=j9 hS hlen;refine Ty ?_;refine bO (hF _) ?_;refine Tz ?_;have dT:(bK l).length=l.length:=aR _;refine cP [3] (fun i vs H'=>H'.get 0=some (.cells [.bC tag 3 (bK l)] false)/\1<=H'.next/\∃v,vs=[v]/\Own H' 2 v ((Qm S L l.length i).map pC)/\(Qm S L l.length i=[]->v=.bB)) 0 l.length (Bp _) A0 A1 ?_ ?_ ?_ ?_ ?_
 . exact zq
 . exact⟨by simp only[zI,seval],by simp only[zI,seval],.bB,by simp only[sm,zB,seval],.nil _ _,fun _=>rfl⟩
 . rintro i f H1 h0 hi hk e1 ⟨g0,_⟩;have f1:f 1=.ref 0 0:=hk 1 rfl;simp only[↓zP,zJ,seval,e1,f1,g0,dT];exact tB A0
 . rintro i f H1 h0 hi hk e1 ⟨g0,gn,v,hv,ho,hn⟩;simp only[zM] at hv;have f1:f 1=.ref 0 0:=hk 1 rfl;have f4:f 4=zX L S:=hk 4 rfl;have wi:IntKind.i64.wrap ((i:Int)+1)=((i+1:Nat):Int):=(wrap_i64 A0 A0).trans A0;refine aP ?_;simp only[↓zP,zJ,seval,e1,wi];refine cP [3] (fun j vs H'=>H'.get 0=some (.cells [.bC tag 3 (bK l)] false)/\1<=H'.next/\∃v,vs=[v]/\Own H' 2 v ((Qm S L l.length i++GP S L i j).map pC)/\(Qm S L l.length i++GP S L i j=[]->v=.bB)) (i+1) l.length A0 A0 A1 ?_ ?_ ?_ ?_ ?_
   . exact zq
   . exact⟨g0,gn,v,by simp only[sm,zB,seval,hv],by rw[aDr,Cr];exact ho,by rw[aDr,Cr];exact hn⟩
   . rintro j f2 H2 h0 hj eW e2 ⟨yI,_⟩;have u1:f2 1=.ref 0 0:=(by rw[eW 1 rfl];simp only[zB,seval];exact f1);simp only[↓zP,zJ,seval,e2,u1,yI,dT];exact tB A0
   . rintro j f2 H2 uU hj eW e2 ⟨yI,gn',v2,qK,ho2,JA⟩;simp only[zM] at qK;have u4:f2 4=zX L S:=(by rw[eW 4 rfl];simp only[zB,seval];exact f4);have u5:f2 5=.int .i64 i:=by rw[eW 5 rfl];simp only[zB,seval];exact e1
     have hXl:(Qm S L l.length i++GP S L i j).length<2^20:=by have h1:=jh S L l.length i;have h2:=Wo S L i j;have h3:i*l.length<=64*64:=Ba A0 hlen;rw[Ap];omega
     refine aP ?_;refine bX ?_;refine Tz ?_;refine bY ?_;refine aT fun K hK=>?_;refine Ty ?_;refine cP [7] (fun k vs H'=>H'=H2/\vs=[.bool ((S.take k).any fun q=>FK (L q) (L q).length i j)]) 0 S.length (Bp _) A0 A1 ?_ ?_ ?_ ?_ ?_
     . exact zq
     . exact⟨rfl,by simp only[sm,zB,seval];rfl⟩
     . rintro k f3 H3 h0 rF kR e3 _;have w4:f3 4=zX L S:=by rw[kR 4 rfl];simp only[zB,seval];exact u4
       rcases jC L S with ⟨h,e⟩|⟨h,e⟩
       . rw[e] at w4;subst h;simp only[↓zP,zG,seval,e3,w4];exact⟨trivial,trivial,Ao AV.bool (Bk.2 (by simp at rF;simp[rF]))⟩
       rw[e] at w4;simp only[↓zP,zG,seval,e3,w4,Ai];exact tB A0
     . rintro k f3 H3 h0 rF kR e3 ⟨rfl,Xq⟩;simp only[zM] at Xq
       have w4:f3 4=.bC 0 5 (S.map (cL L)):=by
        rw[kR 4 rfl];simp only[zB,seval];rw[u4]
        rcases jC L S with ⟨h,e⟩|⟨h,e⟩
        . rw[h] at rF;exact absurd rF (Ar _)
        exact e
       have w5:f3 5=.int .i64 i:=(by rw[kR 5 rfl];simp only[zB,seval];exact u5);have w6:f3 6=.int .i64 j:=(by rw[kR 6 rfl];simp only[zB,seval];exact e2);have hgq:(S.map (cL L)).getD k []=cL L S[k]:=fB rF
       have uA:((S.take (k+1)).any fun q=>FK (L q) (L q).length i j)=(((S.take k).any fun q=>FK (L q) (L q).length i j)||FK (L S[k]) (L S[k]).length i j):=by rw[Ax,Jj];simp[rF]
       have Xg:(S.map (cL L)).length=S.length:=Ai ..;have hLl:=hLw _ (Ah rF);rw[uA];generalize S[k]=q at *;generalize ((S.take k).any fun q=>FK (L q) (L q).length i j)=b0 at *;have d5:(cL L q).length=5:=rfl;have d4:(List.drop 4 (cL L q)).getD 0 aB=.bC 0 1 (vS (L q)):=rfl;have dl4:1<=(List.drop 4 (cL L q)).length:=Ag _;refine aP ?_;refine bX ?_;simp only[↓zP,zG,seval,w4,e3,aG,Xg,rF,hgq,d4,dl4];refine gG ?_;refine Tz ?_;refine bY ?_;generalize L q=on at *;refine cP [7] (fun c vs H'=>H'=H3/\vs=[.bool (b0||FK on c i j)]) 0 on.length (Bp _) A0 A1 ?_ ?_ ?_ ?_ ?_
       . exact zq
       . exact⟨rfl,by simp only[sm,zB,seval,Xq];simp[FK]⟩
       . rintro c f4 H4 h0 hc Qi e4 _;have x9:f4 9=.bC 0 1 (vS on):=Qi 9 rfl;simp only[↓zP,zG,seval,e4,x9,dD];exact tB A0
       . rintro c f4 H4 h0 hc Qi e4 ⟨rfl,Xr⟩;simp only[zM] at Xr;have x9:f4 9=.bC 0 1 (vS on):=Qi 9 rfl;have x5:f4 5=.int .i64 i:=(by rw[Qi 5 rfl];simp only[zB,seval];exact w5);have x6:f4 6=.int .i64 j:=(by rw[Qi 6 rfl];simp only[zB,seval];exact w6);have wj:IntKind.i64.wrap ((c:Int)+1)=((c+1:Nat):Int):=(wrap_i64 A0 A0).trans A0;have nz:¬((on.length:Int)=0):=A0;have hm:(c+1)%on.length<on.length:=Bz _ A0;have tm:((c+1:Nat):Int).tmod (on.length:Int)=(((c+1)%on.length:Nat):Int):=rfl;have vq:=nR hc;have hgb:=nR hm;have hbe:∀x y:Nat,((x:Int)==(y:Int))=(x==y):=fun x y=>by rw[Di,Dh,Dh];omega
         rw[aSw,<-Bool.or_assoc];rw[show on.getD c 0=on[c] by simp[List.getD,hc],show on.getD ((c+1)%on.length) 0=on[(c+1)%on.length] by simp[List.getD,hm]];generalize (b0||FK on c i j)=b1 at *;generalize on[c]=p at *;generalize on[(c+1)%on.length]=p' at *;have hA:=hbe p i;have hB:=hbe p' j;have hC:=hbe p j;have hD:=hbe p' i;generalize (p==i)=A at *;generalize (p'==j)=B at *;generalize (p==j)=C at *;generalize (p'==i)=D at *;refine aP ?_
         cases b1 with
         |true=>simp only[↓zP,zJ,seval,Xr,sZ];exact⟨trivial,rfl⟩
         |false=>
          cases A with
          |true=>
           cases B with
           |true=>simp only[↓zP,zJ,seval,Xr,x9,x5,x6,e4,aG,dD,hc,vq,hgb,wj,nz,tm,hm,hA,hB,sZ];exact⟨trivial,rfl⟩
           |false=>
            cases C with
            |true=>simp only[↓zP,zJ,seval,Xr,x9,x5,x6,e4,aG,dD,hc,vq,hgb,wj,nz,tm,hm,hA,hB,hC,hD];exact⟨trivial,rfl⟩
            |false=>simp only[↓zP,zJ,seval,Xr,x9,x5,x6,e4,aG,dD,hc,vq,hgb,wj,nz,tm,hm,hA,hB,hC];exact⟨trivial,rfl⟩
          |false=>
           cases C with
           |true=>simp only[↓zP,zJ,seval,Xr,x9,x5,x6,e4,aG,dD,hc,vq,hgb,wj,nz,tm,hm,hA,hC,hD];exact⟨trivial,by simp⟩
           |false=>simp only[↓zP,zJ,seval,Xr,x9,x5,x6,e4,aG,dD,hc,vq,hA,hC];exact⟨trivial,rfl⟩
       rintro f4 H4 Qi ⟨rfl,Xr⟩;refine Tx ?_;exact⟨trivial,Xr⟩
     rintro f3 H3 kR ⟨rfl,Xq⟩;rw[Ay] at Xq;simp only[zM] at Xq;have hP:(S.any fun q=>FK (L q) (L q).length i j)=Qq S L i j:=rfl;rw[hP] at Xq;have w5:f3 5=.int .i64 i:=(by rw[kR 5 rfl];simp only[zB,seval];exact u5);have w6:f3 6=.int .i64 j:=(by rw[kR 6 rfl];simp only[zB,seval];exact e2);have w3:f3 3=v2:=(by rw[kR 3 rfl];simp only[zB,seval];exact qK);refine Tx ?_;apply hK;clear hK K;rw[aWy A0,<-Dx];generalize Qm S L l.length i++GP S L i j=X at *
     cases hu:Qq S L i j with
     |false=>rw[hu] at Xq;simp only[↓zP,zJ,seval,Xq];exact⟨yI,gn',v2,by rw[w3],ho2,JA⟩
     |true=>
      rw[hu] at Xq;obtain⟨H5,z1,z2,z3,z4,z5⟩:=Has.push (.inr ho2) (ys:=[pC ((i:Int),(j:Int))]) (bytes:=16) rfl (by rw[Ai,As,Bw];omega);have hpc:[AV.int .i64 (i:Int),.int .i64 (j:Int)]=pC ((i:Int),(j:Int)):=rfl;simp only[↓zP,zJ,seval,Xq,w3,w5,w6,hpc,Pu];rw[eL];simp only[z1,bQ,seval];refine⟨(z4 0 A0 (by rw[yI];simp)).trans yI,by omega,_,rfl,?_,fun h=>?_⟩
      . rw[Cn];exact .inr ⟨H3.next,rfl,by omega,z3⟩
      simp at h
   rintro f2 H2 eW ⟨yI,gn',v2,qK,ho2,JA⟩;simp only[zM] at qK;refine Tx ?_;rw[bFx];exact⟨yI,gn',v2,by rw[qK],ho2,JA⟩
 rintro f H1 hk ⟨g0,gn,v,hv,ho,hn⟩;simp only[zM] at hv;simp only[↓zP,seval,hv];refine Rx ?_;refine⟨v,0,rfl,?_⟩
 rcases ho with ⟨rfl,h2⟩|⟨k,rfl,_,_⟩
 . rw[h2];exact fun _=>rfl
 have cG:¬(Qm S L l.length l.length).map pC=[]:=fun h=>by cases hn Zay
 have yB:eI ((Qm S L l.length l.length).map pC)=true:=dN UO _;intro nw;rw[show jH 2 ((Qm S L l.length l.length).map pC)=.bC 0 2 ((Qm S L l.length l.length).map pC) from if_neg cG];simp[gT,kT,yB,ED]
end Go.Proofs.YtogfcjbgeebfkaaGreatDoor
