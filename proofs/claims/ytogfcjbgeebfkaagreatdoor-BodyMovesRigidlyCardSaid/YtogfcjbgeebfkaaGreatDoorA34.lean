/-
  Part of the proof of statement 9
-/
import Derived.Test.YtogfcjbgeebfkaaGreatDoorA32
import Derived.Test.YtogfcjbgeebfkaaGreatDoorA33
import Derived.Test.YtogfcjbgeebfkaaGreatDoorA07
import Derived.Test.YtogfcjbgeebfkaaGreatDoorA17
import Derived.Test.YtogfcjbgeebfkaaGreatDoorA23
import Derived.Test.YtogfcjbgeebfkaaGreatDoorA24
set_option linter.unusedSimpArgs false
set_option linter.unusedVariables false
set_option maxRecDepth 100000
set_option maxHeartbeats 16000000
namespace Go.Proofs.YtogfcjbgeebfkaaGreatDoor
open Go Go.Av Go.aC Go.jG
attribute [local congr] aX aQ aR aL bA aW aS aG bB
attribute [local irreducible] FC bT eI
theorem EG{q x:aC.V×Int}:∀{S:List (aC.V×Int)},x∈wW q S↔x=q\/x∈S
 |[]=>by simp[wW]
 |s::r=>by
  unfold wW;split
  . simp
  rw[Bd,EG,Bd];exact ZaI
theorem YB{q:aC.V×Int}:∀{S:List (aC.V×Int)},(S.Pairwise fun a b=>iO a.1 b.1)->(∀s∈S,s.1≠q.1)->(wW q S).Pairwise fun a b=>iO a.1 b.1
 |[],_,_=>by simp[wW]
 |s::r,h,cU=>by
  rw[Ck] at h;unfold wW
  cases J:wS q.1 s.1 with
  |true=>
   have D:=FA.1 J;rw[if_pos rfl,Ck];refine⟨fun x hx=>?_,Ck.2 h⟩
   rcases Bd.1 hx with rfl|hx
   . omega
   exact iO.trans D (h.1 x hx)
  |false=>
   rw[if_neg A1,Ck]
   have c:iO s.1 q.1:=by
    rcases iO.total (cU s Az) with h1|h1
    . omega
    rw[FA.2 h1] at J;grind
   refine⟨fun x hx=>?_,YB h.2 fun x hx=>cU x (As _ hx)⟩
   rcases EG.1 hx with rfl|hx<;>grind
structure KR (l:List aC.V) (K:List (aC.V×Int)):Prop where
 Ra:K.Pairwise fun a b=>iO a.1 b.1
 is:∀q∈K,oM (fun i=>l.getD i V0) l.length q.1 q.2
variable{l:List aC.V}{K:List (aC.V×Int)}
theorem KR.nodup(h:KR l K):K.Nodup:=Gv (fun {a b} (h:iO a.1 b.1) (e:a=b)=>iO.o5 b.1 (by grind)) h.Ra
theorem KR.len(h:KR l K)(U:l.length<=64):K.length<2^20:=by have O:=zS (N:=l.length) (p:=fun i=>l.getD i V0) h.nodup h.is;have Z:l.length*(l.length*(l.length*2))<=64*(64*(64*2)):=Be U (Be U (Be U (Ae _)));omega
theorem KR.ins(h:KR l K){q:aC.V×Int}(D:oM (fun i=>l.getD i V0) l.length q.1 q.2)(E:(K.any fun x=>decide (x.1=q.1))=false):KR l (wW q K) where
 Ra:=YB h.Ra fun s M e=>by grind
 is:=fun x hx=>by
  rcases EG.1 hx with rfl|hx
  . omega
  exact h.is x hx
theorem KR.known(h:KR l K){q:aC.V×Int}(E:(K.any fun x=>decide (x.1=q.1))=true)(D:oM (fun i=>l.getD i V0) l.length q.1 q.2):q∈K:=by
 obtain⟨x,C,e⟩:=Cj.1 E;have e:=Dv e;have g:=h.is x C;rw[e] at g;have :=g.uniq D
 grind
def IK(L:aC.V×Int->List Nat)(H:aA)(v:AV)(K:List (aC.V×Int)):Prop:=
 (K=[]/\v=.bE)\/(K≠[]/\∃k,v=.bJ (k+2) 5 (K.map (cX L))/\k<H.next/\H.get k=some .tok)
variable{L:aC.V×Int->List Nat}{H:aA}{v:AV}
theorem IK.zb{H':aA}(h:IK L H v K)(A:H.next<=H'.next)(E:∀k,k<H.next->H.get k=some .tok->H'.get k=some .tok):IK L H' v K:=by
 rcases h with h|⟨h,k,rfl,O,Z⟩
 . exact .inl h
 exact .inr ⟨h,k,rfl,by omega,E k O Z⟩
theorem IK.sound(h:IK L H v K){f:FuncId}{rest:List AV}{H1 w:aA}{out:Out}(u:Sg f (CR L K::rest) H1 out w):Sg f (v::rest) H1 out w:=by
 rcases h with ⟨O,rfl⟩|⟨O,k,rfl,_,_⟩
 . rcases kZ L K with ⟨_,e⟩|⟨Z,_⟩<;>simp_all
 rcases kZ L K with ⟨Z,_⟩|⟨_,e⟩
 . grind
 rw[e] at u;exact u.KD (k+2)
theorem IK.bEq{f:FuncId}{args:List AV}(I:cW args=true){K:List (aC.V×Int)}(h:∃out H',(∃v,out=.ret v/\IK L H' v K)/\Sg f args ⟨0,.nil⟩ out H')(H:aA):Sg f args H (.ret (CR L K)) H:=by
 obtain⟨out,H',⟨v,rfl,a⟩,u⟩:=h;refine u.frame eE I (tk:=none) (fun p R=>by grind) (n:=0) H ?_
 rcases a with ⟨rfl,rfl⟩|⟨O,k,rfl,_,_⟩
 . rfl
 have N:fN (K.map (cX L))=true:=dP (rZ L) _
 rcases kZ L K with ⟨Z,_⟩|⟨_,e⟩
 all_goals grind[Out.av,jB,mJ,GY]
theorem OT{M:Nat}(U:∀v∈l,bN M v)(hM:M<=2^18)(Q:l.length<=64){S:List (aC.V×Int)}{L:aC.V×Int->List Nat}(hS:vJ l S L):
 ∃out H',(∃v,out=.ret v/\IK L H' v S)/\Sg 180 [.bJ 0 3 (bR l)] ⟨0,.nil⟩ out H':=by
 have Tc:Nat.blt 0 2=true:=rfl;refine dM fit aSv (Ai rfl) ?_;unfold aLl;dsimp only;have dA:∀k (h:k<l.length),l.getD k V0=l[k]:=fun k h=>by simp[List.getD,h]
 refine Tz ?_;refine cL [3] (fun i vs H'=>bH H'/\∃v K,vs=[v]/\IK L H' v K/\KR l K/\jT (fun i=>l.getD i V0) l.length i 0 0 K) 0 l.length (Bk _) A0 A1 ?_ ?_ ?_ ?_ ?_
 . exact zq
 . refine⟨.nil 0,.bE,[],by simp only[sm,zB,seval],.inl ⟨rfl,rfl⟩,⟨.nil,fun q D=>by cases D⟩,.zero⟩
 . rintro i f H1 o F E T ⟨hf,w,K,J,hR,hK,hT⟩;have f0:f 0=.bJ 0 3 (bR l):=E 0 rfl;simp only[↓zP,zG,seval,T,f0,aU];exact tB A0
 . rintro i f H1 o F E T ⟨hf,w,K,J,hR,hK,hT⟩;simp only[zM] at J;have f0:f 0=.bJ 0 3 (bR l):=E 0 rfl;have w1:IntKind.i64.wrap ((i:Int)+1)=((i+1:Nat):Int):=by rw[wrap_i64 A0 A0];rfl
   refine aJ ?_;refine Wz ?_;refine cL [3] (fun j vs H'=>bH H'/\∃v K,vs=[v]/\IK L H' v K/\KR l K/\jT (fun i=>l.getD i V0) l.length i j 0 K) (i+1) l.length A0 A0 A1 ?_ ?_ ?_ ?_ ?_
   . exact zq
   . exact⟨hf,w,K,by simp only[sm,zB,seval,J],hR,hK,hT.j0⟩
   . rintro j f2 H2 o Y N P ⟨aq,w2,K2,I,aF,cY,az⟩;have k0:f2 0=.bJ 0 3 (bR l):=(by rw[N 0 rfl];simp only[zB,seval];exact f0);simp only[↓zP,zG,seval,P,k0,aU];exact tB A0
   . rintro j f2 H2 CI Y N P ⟨aq,w2,K2,I,aF,cY,az⟩;simp only[zM] at I;have k0:f2 0=.bJ 0 3 (bR l):=(by rw[N 0 rfl];simp only[zB,seval];exact f0);have k4:f2 4=.int .i64 i:=(by rw[N 4 rfl];simp only[zB,seval];exact T);have br:IntKind.i64.wrap ((j:Int)+1)=((j+1:Nat):Int):=(by rw[wrap_i64 A0 A0];rfl);refine aJ ?_;refine Wz ?_;refine cL [3] (fun k vs H'=>bH H'/\∃v K,vs=[v]/\IK L H' v K/\KR l K/\jT (fun i=>l.getD i V0) l.length i j k K) (j+1) l.length A0 A0 A1 ?_ ?_ ?_ ?_ ?_
     . exact zq
     . exact⟨aq,w2,K2,by simp only[sm,zB,seval,I],aF,cY,az.k0⟩
     . rintro k c X o CJ gA e3 ⟨ak,G,K3,YA,aE,CG,ay⟩;have u0:c 0=.bJ 0 3 (bR l):=(by rw[gA 0 rfl];simp only[zB,seval];exact k0);simp only[↓zP,zG,seval,e3,u0,aU];exact tB A0
     . rintro k c X bt CJ gA e3 ⟨ak,G,K3,YA,aE,CG,ay⟩;simp only[zM] at YA;have u0:c 0=.bJ 0 3 (bR l):=(by rw[gA 0 rfl];simp only[zB,seval];exact k0);have u4:c 4=.int .i64 i:=(by rw[gA 4 rfl];simp only[zB,seval];exact k4);have u5:c 5=.int .i64 j:=Zbq;have Og:i<l.length:=A0;have TX:j<l.length:=A0;have gi:=cH Og;have gj:=cH TX;have gk:=cH CJ;have ni:=U _ (Ac Og);have nj:=U _ (Ac TX);have nk:=U _ (Ac CJ);have bs:=jv ni nj nk hM;have bz:(M+M)*(M+M)<=2^19*2^19:=Be A0 A0;have bD:2*((M+M)*(M+M))*M<=2^39*2^18:=Be A0 hM;have b2:bN (2*((M+M)*(M+M))) (iK (aC.aY (aC.sub l[j] l[i]) (aC.sub l[k] l[i]))):=vD (iQ (gU nj ni) (gU nk ni))
       have tH:fX (fun i=>l.getD i V0) i j k=(iK (aC.aY (aC.sub l[j] l[i]) (aC.sub l[k] l[i])),aC.dot (iK (aC.aY (aC.sub l[j] l[i]) (aC.sub l[k] l[i]))) l[i]):=by simp only[fX,vec,dA i Og,dA j TX,dA k CJ]
       have aO:∀q,q∈jR (fun i=>l.getD i V0) i j k↔(fX (fun i=>l.getD i V0) i j k).1≠V0/\(q=fX (fun i=>l.getD i V0) i j k\/q=(aC.neg (fX (fun i=>l.getD i V0) i j k).1,-(fX (fun i=>l.getD i V0) i j k).2)):=fun q=>by
        unfold jR;by_cases s:(fX (fun i=>l.getD i V0) i j k).1=V0
        . rw[if_pos s];exact⟨fun h=>(by cases h),fun h=>absurd s h.1⟩
        rw[if_neg s,Bd,Bw];exact⟨fun h=>⟨s,h⟩,fun h=>h.2⟩
       rw[tH] at aO;generalize iK (aC.aY (aC.sub l[j] l[i]) (aC.sub l[k] l[i]))=g at *;generalize bC:2*((M+M)*(M+M))=B at *;have m:∀k (h:k<l.length),l.getD k V0=l[k]:=dA;refine aJ ?_;refine bP ?_;refine fT 1 A1 ak.vm fun H4 n4 e4=>?_;have := @aU;have :=oL (aT l[i]);have :=oL (aT l[j]);have :=oL (aT l[k]);have :=oL (aT g);refine Wz ?_;refine bQ ?_;generalize hX:(H4.set X.next _).set X.next _=r;have y7:=Kz hX;have yn:X.next<r.next:=by subst hX;simp only[aA.aZ];omega
       have yf:bH r:=fun j Y=>by subst hX;simp only[aA.aZ] at Y;rw[aA.aH,if_neg A0,aA.aH,if_neg A0,e4];exact ak j A0
       have yr:IK L r G K3:=by refine aE.zb A0 fun k O Z=>?_;subst hX;rw[aA.aH,if_neg A0,aA.aH,if_neg A0,e4];exact Z
       clear hX;refine Ty ?_
       let nn:Nat->aC.V:=fun t=>if t=1 then aC.neg g else g
       have ba:∀t,bN B (nn t):=fun t=>by
        simp only[nn];split
        . exact EK b2
        exact b2
       have b9:∀t,nn t=V0↔g=V0:=fun t=>by
        simp only[nn];split
        . constructor
          . intro h;exact Fc fun R=>Vg R h
          intro h;rw[h];rfl
        exact Iff.rfl
       have bf:∀t,t<2->g≠V0->(nn t,aC.dot (nn t) l[i])∈jR (fun i=>l.getD i V0) i j k:=fun t ht s=>by
        rw[aO];refine⟨s,?_⟩
        match t,ht with
        |0,_=>exact .inl rfl
        |1,_=>exact .inr (by simp only[nn,if_true,oF])
       refine cL [3] (fun t vs H'=>H'.get X.next=some (.cells (cG (nn t)) false)/\X.next<H'.next/\bH H'/\∃v K',vs=[v]/\IK L H' v K'/\KR l K'/\(∀q∈K3,q∈K')/\∀u,u<t->g≠V0->oM (fun i=>l.getD i V0) l.length (nn u) (aC.dot (nn u) l[i])->(nn u,aC.dot (nn u) l[i])∈K') 0 2 A1 A1 A1 ?_ ?_ ?_ ?_ ?_
       . exact zq
       . exact⟨y7,yn,yf,G,K3,by simp only[sm,zB,seval,YA],yr,CG,fun q D=>D,fun u hu=>absurd hu (Al _)⟩
       . rintro t f6 H6 o ht aj e6 ⟨p,gn,C,w6,K6,ab,ad,a6,ED,LS⟩;simp only[↓zP,zG,seval,e6];exact tB A0
       . rintro t f6 H6 o ht aj e6 ⟨p,gn,C,w6,K6,ab,ad,a6,ED,LS⟩;simp only[zM] at ab;have W:f6 0=.bJ 0 3 (bR l):=(by rw[aj 0 rfl];simp only[zB,seval];exact u0);have v4:f6 4=.int .i64 i:=(by rw[aj 4 rfl];simp only[zB,seval];exact u4);have v7:f6 7=.ref X.next 0:=aj 7 rfl;have al:=ba t;have b0:=b9 t;have bc:=bf t ht
         have bn:nn (t+1)=aC.sub V0 (nn t):=by
          match t,ht with
          |0,_=>simp[nn,aC.neg,aC.sub,V0]
          |1,_=>simp[nn,aC.neg,aC.sub,V0]
         have hd:=sG al ni A0
         have bl:∀K':List (aC.V×Int),(∀q∈K6,q∈K')->(g≠V0->oM (fun i=>l.getD i V0) l.length (nn t) (aC.dot (nn t) l[i])->(nn t,aC.dot (nn t) l[i])∈K')->∀u,u<t+1->g≠V0->oM (fun i=>l.getD i V0) l.length (nn u) (aC.dot (nn u) l[i])->(nn u,aC.dot (nn u) l[i])∈K':=fun K' O Z u hu s hF=>by
          by_cases e:u=t
          . subst e;exact Z s hF
          exact O _ (LS u A0 s hF)
         rw[bn];have ex:=fun H=>Yk 0 U A0 (n:=nn t) (d:=aC.dot (nn t) l[i]) al A0 H
         have hF:g≠V0->(GW l (nn t,aC.dot (nn t) l[i])=true↔oM (fun i=>l.getD i V0) l.length (nn t) (aC.dot (nn t) l[i])):=fun s=>by
          rw[MC];constructor
          . rintro⟨O,Z⟩;exact BM Og TX CJ (bc s) O Z
          intro h;exact⟨h.le,h.lt⟩
         have kn:=fun H=>ad.sound (aAy L K6 (by have :=a6.len Q;omega) (nn t) H);have b5:=AL (a:=V0) (b:=nn t) (A:=0) (B:=B) ⟨by decide,by decide,by decide⟩ al A0;generalize nn t=n at *;generalize WU:aC.dot n l[i]=d at *;refine aJ ?_;refine bP ?_;refine Dz ?_;simp only[↓zP,zJ,seval,zD,W,v4,v7,p,aD,aU,Og,gi,oL (aT l[i]),oL (aT n)];refine gH (hd _) ?_;simp only[↓zP,zJ,seval,zD];refine fW ?_;refine Wz ?_;refine fW ?_;simp only[↓zP,zJ,seval,v7,p,oL (aT n),LA];refine bQ ?_;refine aM fun K7 b1=>?_
         have aN:∀(f7:dD) (H7:aA) (w':AV) (K':List (aC.V×Int)),f7 3=w'->IK L H7 w' K'->f7 7=.ref X.next 0->H7.get X.next=some (.cells (cG n) false)->X.next<H7.next->bH H7->KR l K'->(∀q∈K6,q∈K')->(g≠V0->oM (fun i=>l.getD i V0) l.length n d->(n,d)∈K')->K7 f7 [] H7:=by
          intro f7 H7 w' K' a3 ar a7 ag an af aK b3 bk;apply b1;clear b1 K7;simp only[↓zP,zJ,seval,a7,ag,oL (aT n)];rw[show [AV.int .i64 0,.int .i64 0,.int .i64 0]=cG V0 from rfl];refine fC (b5 _) ?_;simp only[↓zP,zJ,seval,a7,ag,oL (aT n),oL (aT (aC.sub V0 n))]
          refine⟨trivial,an,af.set an _,w',K',by rw[a3],ar.zb A2 (fun k O Z=>by
           rw[aA.aH];split
           . rename_i e;subst e;rw[ag] at Z;cases Z
           exact Z),aK,fun q D=>b3 q (ED q D),bl K' b3 bk⟩
         cases ym:K6.any fun q=>decide (q.1=n) with
         |true=>refine Ty ?_;exact aN _ H6 w6 K6 Zb0 ad Zbb p gn C a6 (fun q D=>D) (fun _ ae=>a6.known (q:=(n,d)) ym ae)
         |false=>
          by_cases s:n=V0
          . have d1:=Ag s;refine Wz ?_;exact aN _ H6 w6 K6 Zb0 ad Zbb p gn C a6 (fun q D=>D) (fun h=>absurd (b0.1 s) h)
          have d1:=Ab s;have SY:g≠V0:=fun h=>s (b0.2 h);simp only[↓zP,zJ,seval,d1,W,v7,p,oL (aT n)];refine fC (ex _) ?_
          cases VN:GW l (n,d) with
          |false=>
           refine Tz ?_
           exact aN _ H6 w6 K6 Zb0 ad Zbb p gn C a6 (fun q D=>D) (fun _ ae=>by
            have :=(hF SY).2 ae
            rw[VN] at this;cases this)
          |true=>
           have ae:=(hF SY).1 VN;have b6:(n,d)∈S:=(hS.fl.mem (n,d)).2 ae;have b7:=fun H=>Yp 0 U hM Q (d:=d) al A0 (hS.po (n,d) b6) H;have bb:=fun H=>ad.sound (jq L K6 (a6.len Q) (n,d) H);refine Tz ?_;refine Dz ?_;simp only[↓zP,zJ,seval,zD,ab,W,v7,p,oL (aT n)];refine gH (b7 _) ?_;simp only[↓zP,zJ,seval,zD,cG];rw[show [AV.int .i64 n.x,.int .i64 n.y,.int .i64 n.z,.int .i64 d,.bJ 0 1 (yL (L (n,d)))]=cX L (n,d) from rfl];refine DF A1 ZaX (bb _) A2 (fun x hx m=>?_) ?_
           . have b4:x.2=X.next:=by
              simp only[Bd,Ci,Fe] at hx
              rcases hx with rfl|rfl<;>rfl
             rw[b4,aA.aI,if_neg A0]
           refine Wz ?_;exact aN _ (H6.alloc .tok) _ (wW (n,d) K6) zq (.inr ⟨fun h=>by have :=QX (n,d) K6;rw[h] at this;simp at this,H6.next,rfl,by simp,by rw[aA.aI,if_pos rfl]⟩) Zbb (by rw[aA.aI,if_neg A0];exact p) Zao (C.alloc _) (a6.ins ae ym) (fun q D=>EG.2 (.inr D)) (fun _ _=>EG.2 (.inl rfl))
       rintro f6 H6 aj ⟨p,gn,C,w6,K6,ab,ad,a6,ED,LS⟩;refine Tx ?_;refine⟨C,w6,K6,ab,ad,a6,ay.step ED fun q D hF=>?_⟩;obtain⟨s,h⟩:=(aO q).1 D
       rcases h with rfl|rfl
       . exact LS 0 A1 s hF
       have :=LS 1 A1 s (by simp only[nn,if_true,oF];exact hF);simpa only[nn,if_true,oF] using this
     rintro c X gA ⟨ak,G,K3,YA,aE,CG,ay⟩;refine Tx ?_;exact⟨ak,G,K3,YA,aE,CG,ay.kN⟩
   rintro f2 H2 N ⟨aq,w2,K2,I,aF,cY,az⟩;refine Tx ?_;exact⟨aq,w2,K2,I,aF,cY,az.jN⟩
 rintro f H1 E ⟨hf,w,K,J,hR,hK,hT⟩;simp only[zM] at J;have :K=S:=oW.uniq ⟨hT.all hK.is,hK.Ra⟩ hS.fl;subst this;simp only[↓zP,seval,J];refine Rx ?_;exact⟨w,rfl,hR⟩
theorem RQ(tag:Nat){l:List aC.V}{M:Nat}(U:∀v∈l,bN M v)(g:M<=2^18)(Q:l.length<=64){S:List (aC.V×Int)}{L:aC.V×Int->List Nat}(u:vJ l S L)(H:aA):
 Sg 180 [.bJ tag 3 (bR l)] H (.ret (CR L S)) H:=(IK.bEq Zcl (OT U g Q u) H).KD tag
theorem Yl(tag:Nat){l:List aC.V}{M:Nat}(U:∀v∈l,bN M v)(g:M<=2^18)(Q:l.length<=64){S:List (aC.V×Int)}{L:aC.V×Int->List Nat}(u:vJ l S L)(z:S≠[])(H:aA):
 Sg 180 [.bJ tag 3 (bR l)] H (.ret (.bJ (H.next+2) 5 (S.map (cX L)))) (H.alloc .tok):=by
 refine(FF eE Zcl (by simp_all) (dP (rZ L) S) ?_ H).KD tag;obtain⟨out,H',⟨v,O,Z⟩,c⟩:=OT U g Q u;refine⟨out,H',⟨v,O,?_⟩,c⟩
 rcases Z with ⟨h,_⟩|⟨_,k,e,W,h4⟩
 . grind
 exact .inr ⟨k,e,W,h4⟩
def zZ(x:aC.V):List aC.V->List aC.V
 |[]=>[x]
 |o::r=>if wS x o then x::o::r else if o=x then o::r else o::zZ x r
theorem Vc{x:aC.V}:∀{S:List aC.V} {i:Nat},(∀s∈S.take i,wS x s=false/\s≠x)->zZ x S=S.take i++zZ x (S.drop i)
 |[],i,_=>by simp
 |s::r,0,_=>by simp
 |s::r,i+1,h=>by have O:=h s A2;have z:=Vc (x:=x) (S:=r) (i:=i) fun y Q=>h y (by grind);rw[zZ,O.1,if_neg A1,if_neg O.2,Gf,Iv,Gk,<-z]
theorem YC(x:aC.V):∀S:List aC.V,(zZ x S).length<=S.length+1
 |[]=>Ae _
 |s::r=>by
  have :=YC x r
  grind[zZ]
theorem QY{x y:aC.V}:∀{S:List aC.V},y∈zZ x S↔y=x\/y∈S
 |[]=>by simp[zZ]
 |s::r=>by
  unfold zZ;split
  . simp
  split
  . rename_i h;subst h;simp
  rw[Bd,QY,Bd];exact ZaI
theorem YD{x:aC.V}:∀{S:List aC.V},S.Pairwise iO->(zZ x S).Pairwise iO
 |[],_=>by simp[zZ]
 |s::r,h=>by
  have K:=Ck.1 h;unfold zZ
  cases J:wS x s with
  |true=>
   have D:=FA.1 J;rw[if_pos rfl,Ck];refine⟨fun y hy=>?_,h⟩
   rcases Bd.1 hy with rfl|hy
   . omega
   exact iO.trans D (K.1 y hy)
  |false=>
   rw[if_neg A1];by_cases B:s=x
   . grind
   rw[if_neg B,Ck]
   have c:iO s x:=by
    rcases iO.total B with h1|h1
    . omega
    rw[FA.2 h1] at J;grind
   refine⟨fun y hy=>?_,YD K.2⟩
   rcases QY.1 hy with rfl|hy<;>simp_all
theorem aJc{C:List aC.V}(Q:l.length<=64)(hC:Ord l C)(H:aA):
 Sg 179 [.bJ 0 3 (bR l)] H (.ret (mB 3 (bR C))) H:=by
 have Tc:Nat.blt 0 2=true:=rfl;refine eP fit eE aSu (Ai rfl) (by simp only[sf,cT Tc]) ?_ H;unfold aLk;dsimp only;refine Tz ?_;refine cL [3] (fun i vs H'=>∃v X,vs=[v]/\Own H' 3 v (bR X)/\(X=[]->v=.bE)/\X.Pairwise iO/\(∀y,y∈X↔y∈l.take i)/\X.length<=i) 0 l.length (Bk _) A0 A1 ?_ ?_ ?_ ?_ ?_
 . exact zq
 . exact⟨.bE,[],by simp only[sm,zB,seval],.nil _ _,fun _=>rfl,.nil,fun y=>by simp,Ae _⟩
 . rintro i f H1 h0 F E e1 ⟨v,X,J,ho,hn,M,p,U⟩;have A:f 0=.bJ 0 3 (bR l):=E 0 rfl;simp only[↓zP,zG,seval,e1,A,aU];exact tB A0
 . rintro i f H1 h0 F E e1 ⟨v,X,J,ho,hn,M,p,U⟩;simp only[zM] at J;have A:f 0=.bJ 0 3 (bR l):=E 0 rfl;have TU:(bR l).getD i []=cG l[i]:=eO F;have uL:l.take (i+1)=l.take i++[l[i]]:=by rw[Ao];simp[F]
   rw[uL];generalize l[i]=x at *;have N:(cG x).length=3:=rfl;refine aJ ?_;refine aM fun K hK=>?_;refine Tz ?_;apply hK;clear hK K;refine aM fun K hK=>?_;refine Tz ?_;apply hK;clear hK K;refine aM fun K hK=>?_;refine Ty ?_
   obtain⟨tg,ay⟩:∃tg,∀j,j<X.length->f 3=.bJ tg 3 (bR X):=by
    rcases ho with ⟨_,Z⟩|⟨k,R,_,_⟩
    . exact⟨0,fun j h=>by rw[show X=[] by simpa [bR] using Z] at h;exact absurd h (Al _)⟩
    exact⟨k+2,fun j h=>by rw[J,R]⟩
   have push:∀(I:aA) (w:AV) (Y:List aC.V) (y:aC.V),Own I 3 w (bR Y)->Y.length<2^21->
    ∃r,gE I 3 24 false w [cG y]=some (.bJ (I.next+2) 3 (bR (Y++[y])),r)/\Own r 3 (.bJ (I.next+2) 3 (bR (Y++[y]))) (bR (Y++[y])):=fun I w Y y ho hY=>by
    obtain⟨r,q,c,z3,z4,z5⟩:=Has.push (.inr ho) (ys:=[cG y]) (bytes:=24) rfl (by simp only[bR,Ah,Ba,Ca];omega);have e:bR (Y++[y])=bR Y++[cG y]:=(by simp only[bR,Cd,Cg,Hi]);exact⟨r,by rw[q,e],by rw[e];exact .inr ⟨I.next,rfl,by omega,z3⟩⟩
   refine cL [5,6] (fun k vs H'=>∃w Y put,vs=[w,.bool put]/\Own H' 3 w (bR Y)/\(Y=[]->w=.bE)/\Y.length<=k+1/\(if put then Y++X.drop k=zZ x X/\∀o∈X.drop k,o≠x else Y=X.take k/\∀s∈X.take k,wS x s=false/\s≠x)) 0 X.length (Bk _) A0 A1 ?_ ?_ ?_ ?_ ?_
   . exact zq
   . exact⟨.bE,[],false,by simp only[sm,zB,seval],.nil _ _,fun _=>rfl,by simp,by simp⟩
   . rintro k g H2 Xm R a6 P ⟨w,Y,put,L,a,ab,ae,m⟩;have g3:g 3=v:=by rw[a6 3 rfl];simp only[zB,seval];exact J
     rcases ho with ⟨O,Z⟩|⟨k',O,_,_⟩
     . have az:X=[]:=(by simpa [bR] using Z);subst az;simp only[↓zP,zG,seval,P,g3,O];exact Zct
     simp only[↓zP,zG,seval,P,g3,O,aU];exact tB A0
   . rintro k g H2 Xm R a6 P ⟨w,Y,put,L,a,ab,ae,m⟩;simp only[zM] at L;have g0:g 0=.bJ 0 3 (bR l):=(by rw[a6 0 rfl];simp only[zB,seval];exact A);have g4:g 4=.int .i64 i:=(by rw[a6 4 rfl];simp only[zB,seval];exact e1);have g3:g 3=.bJ tg 3 (bR X):=(by rw[a6 3 rfl];simp only[zB,seval];exact ay k R);have Xu:(bR X).getD k []=cG X[k]:=eO R;have dk:(cG X[k]).length=3:=rfl;have aj:(bR X).length=X.length:=aU _;have CZ:(bR l).length=l.length:=aU _;have ag:(cG x).take 3=cG x:=rfl;have an:(cG X[k]).take 3=cG X[k]:=rfl;have aE:=UC x X[k];have aK:X.length<=64:=A0;have B:X.drop k=X[k]::X.drop (k+1):=Fb R;have uL:X.take (k+1)=X.take k++[X[k]]:=by rw[Ao];simp[R]
     have al:∀d∈X.drop (k+1),iO X[k] d:=by have :=M.drop (i:=k);rw[B] at this;exact(Ck.1 this).1
     have yw:(∀s∈X.take k,wS x s=false/\s≠x)->zZ x X=X.take k++zZ x (X[k]::X.drop (k+1)):=fun h=>by
      have :=Vc h
      rwa [B] at this
     rw[B] at m;rw[uL];have aN:(X.take k).length<=k:=(by rw[Et];exact Ir _ _);generalize X[k]=o at *;generalize X.take k=T at *;generalize X.drop (k+1)=D at *;refine aJ ?_;refine bP ?_;refine Dz ?_;refine Wy ?_;refine bQ ?_;refine aM fun K1 af=>?_
     have key:∀(u:dD) (I:aA) (w:AV) (Y:List aC.V) (Oo:Bool),u 5=w->u 6=.bool Oo->u 0=.bJ 0 3 (bR l)->u 3=.bJ tg 3 (bR X)->u 4=.int .i64 i->u 7=.int .i64 k->Own I 3 w (bR Y)->(Y=[]->w=.bE)->Y.length<=k+1->
      (if Oo then((o≠x/\Y++o::D=zZ x X)\/(o=x/\Y++D=zZ x X))/\∀d∈D,d≠x else Y=T/\∀s∈T++[o],wS x s=false/\s≠x)->K1 u [] I:=by
      intro u I w Y Oo v5 v6 v0 v3 v4 v7 hY aq aF G;apply af;clear af K1;refine bP ?_;refine Dz ?_;have := @oZ;refine Wy ?_;refine bQ ?_;by_cases a7:o=x
      . cases Oo with
        |false=>simp only[Bs,Cv] at G;exact absurd a7 (G.2 o A2).2
        |true=>
         simp only[if_true] at G;simp only[↓zP,zJ,seval,Ag a7];refine⟨w,Y,true,by simp only[seval,v5,v6],hY,aq,by omega,?_⟩;simp only[if_true]
         rcases G.1 with h|h
         . exact absurd a7 h.1
         exact⟨h.2,G.2⟩
      obtain⟨r,q,c⟩:=push I w Y o hY A0;have :=Ab a7;have :=oL dk;refine Wy ?_;rw[eL];simp only[q,bX,seval];refine⟨_,Y++[o],Oo,by simp only[seval,v6],c,fun h=>by simp at h,by simp;omega,?_⟩
      cases Oo with
      |true=>
       simp only[if_true] at G ⊢
       rcases G.1 with h|h
       . exact⟨by rw[<-h.2];simp,G.2⟩
       exact absurd h.1 a7
      |false=>simp only[Bs,Cv] at G ⊢;rw[G.1];exact⟨rfl,G.2⟩
     clear af;refine aM fun K2 n=>?_;refine Dz ?_
     cases put with
     |true=>
      simp only[if_true] at m;simp only[↓zP,zJ,seval,zD,L,qA];apply n;clear n K2;refine Tz ?_
      exact key _ H2 w Y true (by simp only[zB,seval];exact L.1) (by simp only[zB,seval];exact L.2) Zbe Zbd Zbc Zbk a ab ae (by
       simp only[if_true]
       exact⟨.inl ⟨m.2 o A2,m.1⟩,fun d hd=>m.2 d (by simp[hd])⟩)
     |false=>
      simp only[Bs,Cv] at m;obtain⟨ad,fG⟩:=m;have ak:=yw fG
      cases hb:wS x o with
      |true=>have fF:=FA.1 hb;obtain⟨r,q,c⟩:=push H2 w Y x a A0;refine Wy ?_;apply n;clear n K2;have :=oL N;refine Wy ?_;rw[eL];simp only[q,bX,seval];refine key _ r _ (Y++[x]) true zq zq Zbe Zbd Zbc Zbk c (fun h=>by simp at h) (by simp[ad];omega) ?_;simp only[if_true];refine⟨.inl ⟨fun h=>iO.o5 _ (h▸fF),?_⟩,fun d hd h=>iO.o5 _ (h▸iO.trans fF (al d hd))⟩;rw[ak,ad,zZ,if_pos hb];simp
      |false=>
       by_cases t:x=o
       . obtain⟨r,q,c⟩:=push H2 w Y x a A0;simp only[↓zP,zJ,seval,zD,L,g0,g3,g4,P,aD,aj,R,Xu,dk,an,CZ,F,TU,N,ag,oZ,Ag t];apply n;clear n K2;simp only[↓zP,zJ,seval,L,g0,g4,aD,CZ,F,TU,N,oL N];rw[eL];simp only[q,bX,seval];refine key _ r _ (Y++[x]) true zq zq Zbe Zbd Zbc Zbk c (fun h=>by simp at h) (by simp[ad];omega) ?_;simp only[if_true];refine⟨.inr ⟨t.symm,?_⟩,fun d hd h=>iO.o5 _ (h▸t▸al d hd)⟩;rw[ak,ad,zZ,hb,if_neg A1,if_pos t.symm,t];simp
       simp only[↓zP,zJ,seval,zD,L,g0,g3,g4,P,aD,aj,R,Xu,dk,an,CZ,F,TU,N,oL N,oZ,Ab t];apply n;clear n K2;refine Tz ?_;refine key _ H2 w Y false (by simp only[zB,seval];exact L.1) (by simp only[zB,seval];exact L.2) Zbe Zbd Zbc Zbk a ab ae ?_;simp only[Bs,Cv];refine⟨ad,fun s b=>?_⟩
       rcases Ar.1 b with h|h
       . exact fG s h
       rw[Bw] at h;subst h;exact⟨hb,fun h=>t h.symm⟩
   rintro g H2 a6 ⟨w,Y,put,L,a,ab,ae,m⟩;simp only[zM] at L;have g0:g 0=.bJ 0 3 (bR l):=(by rw[a6 0 rfl];simp only[zB,seval];exact A);have g4:g 4=.int .i64 i:=(by rw[a6 4 rfl];simp only[zB,seval];exact e1);have CZ:(bR l).length=l.length:=aU _;have ag:(cG x).take 3=cG x:=rfl;rw[Jx,Bx,Aq] at m
   have done:∀(I:aA) (w':AV) (Y':List aC.V),Own I 3 w' (bR Y')->(Y'=[]->w'=.bE)->Y'=zZ x X->∃v X',[w']=[v]/\Own I 3 v (bR X')/\(X'=[]->v=.bE)/\X'.Pairwise iO/\(∀y,y∈X'↔y∈l.take i++[x])/\X'.length<=i+1:=fun I w' Y' O Z W=>⟨w',Y',rfl,O,Z,W▸YD M,fun y=>by rw[W,QY,Ar,Bw,p];exact Or.comm,by have :=YC x X;rw[W];omega⟩
   simp only[jD];apply hK;clear hK K
   cases put with
   |true=>simp only[if_true] at m;refine Wz ?_;exact done H2 w Y a ab m.1
   |false=>simp only[Bs,Cv] at m;obtain⟨r,q,c⟩:=push H2 w Y x a A0;have :=oL N;refine Wz ?_;rw[eL];simp only[q,bX,seval];refine done r _ _ c (fun h=>by simp at h) ?_;have :=Vc (x:=x) (S:=X) (i:=X.length) (by rw[Aq];exact m.2);rw[this,Aq,Jx,m.1];rfl
 rintro f H1 E ⟨v,X,J,ho,hn,M,p,U⟩;simp only[zM] at J;rw[Aq] at p;have ar:X=C:=Ord.uniq ⟨M,p⟩ hC;subst ar;simp only[↓zP,seval,J];refine Rx ?_;refine⟨v,0,rfl,?_⟩
 rcases ho with ⟨rfl,Z⟩|⟨k,rfl,_,_⟩
 . rw[show X=[] by simpa [bR] using Z];exact fun _=>rfl
 have z:X≠[]:=fun h=>by cases hn h
 have uK:fN (bR X)=true:=by have :=cT Tc X;simpa [AV.free] using this
 have DA:mB 3 (bR X)=.bJ 0 3 (bR X):=by simp[mB,bR,z]
 intro nw;rw[DA];simp[jB,mJ,uK,GY]
theorem jw(tag:Nat){l C:List aC.V}(Q:l.length<=64)(j:Ord l C)(H:aA):
 Sg 179 [.bJ tag 3 (bR l)] H (.ret (mB 3 (bR C))) H:=(aJc Q j H).KD tag
theorem Yr(H:aA):Sg 179 [.bE] H (.ret .bE) H:=by
 refine So aSu Zac ?_ H;unfold aLk;exact Zak
theorem OS(H:aA):Sg 180 [.bE] H (.ret .bE) H:=by
 refine So aSv Zac ?_ H;unfold aLl;exact Zak
theorem bCv{C:List aC.V}(aE:l.length<2^30)(hC:Ord l C){S:List (aC.V×Int)}{L:aC.V×Int->List Nat}(hS:vJ C S L)(H:aA):
 Sg 91 [.bJ 0 3 (bR l)] H (.ret (.agg [(iW l C S L).1,.int .i64 (iW l C S L).2])) H:=by
 have Tc:Nat.blt 0 2=true:=rfl;refine eP fit eE bLh (Ai rfl) (by simp only[sf,cT Tc]) ?_ H;unfold W91;dsimp only;refine bP ?_;refine Tz ?_;refine fW ?_;simp only[↓zP,zJ,seval,aU];refine⟨fun h=>?_,fun aF=>?_⟩
 . have Xn:64<l.length:=by omega
   refine Rx ?_;rw[show iW l C S L=(.bE,2) from if_pos Xn];exact⟨_,2,rfl,fun nw=>rfl⟩
 have Xn:¬(64<l.length):=by omega
 refine fW ?_;refine Tz ?_;refine cL [] (fun i _ H=>(∀v∈l.take i,ey v=true)/\H.get 0=some (.cells [.bE,.int .i64 0] false)/\1<=H.next) 0 l.length (Bk _) A0 A1 ?_ ?_ ?_ ?_ ?_
 . exact zq
 . exact Zb7
 . rintro i f H1 o F E e1 ⟨iG,g0,hn⟩;have A:f 0=.bJ 0 3 (bR l):=E 0 rfl;simp only[↓zP,zG,seval,e1,A,aU];exact tB A0
 . rintro i f H1 o F E e1 ⟨iG,g0,hn⟩;have A:f 0=.bJ 0 3 (bR l):=E 0 rfl;have f2:f 2=.ref 0 0:=E 2 rfl;have t:=cH F;have vW:=Ac F
   have hx:∀v,v∈l.take (i+1)->v∈l.take i\/v=l[i]:=fun v J=>by
    exact Zam
   generalize l[i]=x at *;refine aJ ?_;refine bP ?_;refine Tz ?_;refine bQ ?_;refine cL [] (fun j _ H=>(∀c,c<j->¬(x.at c>262144)/\¬(x.at c< -262144))/\H.get 0=some (.cells [.bE,.int .i64 0] false)/\1<=H.next) 0 3 (Bk _) A1 A1 ?_ ?_ ?_ ?_ ?_
   . exact zq
   . exact⟨fun c R=>absurd R (Al _),g0,hn⟩
   . rintro j g w Xm Y N P hJ;simp only[↓zP,zG,seval,P];exact tB A0
   . rintro j g w Xm Y N P ⟨R,FP,Le⟩;have u0:g 0=.bJ 0 3 (bR l):=(by rw[N 0 rfl];simp only[zB,seval];exact A);have u2:g 2=.ref 0 0:=(by rw[N 2 rfl];simp only[zB,seval];exact f2);have u3:g 3=.int .i64 i:=(by rw[N 3 rfl];simp only[zB,seval];exact e1);have OH:j<=2:=by omega
     have LR:(x.at j>262144\/x.at j< -262144)->l.all ey=false:=fun h=>by rw[<-Ew,Bh];intro I;have :=I x vW;simp only[ey,Bh,Ax,Br] at this;have :=this j Y;omega
     refine aJ ?_;have VJ:1<=(List.drop j (cG x)).length:=(by rw[Gi,aT];omega);have ab:(List.drop j (cG x)).getD 0 aB=.int .i64 (x.at j):=(by rw[<-iC x Y];simp[List.getD]);refine aM fun K2 n=>?_;by_cases c1:x.at j>262144
     . have d1:=Ag c1;simp only[↓zP,zJ,seval,P,u0,u3,aD,aU,F,t,Y,VJ,ab,d1];exact Zay
     have d1:=Ab c1;by_cases c2:x.at j< -262144
     . have d2:=Ag c2;simp only[↓zP,zJ,seval,P,u0,u3,aD,aU,F,t,Y,VJ,ab,d1,d2];exact Zay
     have d2:=Ab c2;simp only[↓zP,zJ,seval,P,u0,u3,aD,aU,F,t,Y,VJ,ab,d1,d2];apply n;clear n K2;refine Tz ?_;refine⟨fun c h=>?_,FP,Le⟩;by_cases an:c=j
     . subst an;exact⟨c1,c2⟩
     exact R c A0
   rintro f2 w N ⟨R,FP,Le⟩;exact ZaZ
 rintro f H1 E ⟨iG,g0,hn⟩;rw[Aq] at iG;have fG:l.all ey=true:=Bh.2 iG;have A:f 0=.bJ 0 3 (bR l):=E 0 rfl;have Q:f 2=.ref 0 0:=E 2 rfl;refine Tx ?_;refine bQ ?_;have aq:∀v∈C,bN (2^18) v:=fun v J=>Lh.1 (iG v ((hC.mem v).1 J))
 have ar:C.length<=64:=by have :=tL C l (Gv (fun {a b} (h:iO a b) (e:a=b)=>iO.o5 b Zby) hC.Ra) fun v J=>(hC.mem v).1 J;omega
 have tH:∀H,Sg 180 [mB 3 (bR C)] H (.ret (CR L S)) H:=fun H=>by
  by_cases R:C=[]
  . subst R
    have y:S=[]:=Fj.2 fun q D=>by obtain⟨i,j,k,_,_,h,_⟩:=iB ((hS.fl.mem q).1 D);exact absurd h (Al _)
    subst y;exact OS H
  rw[show mB 3 (bR C)=.bJ 0 3 (bR C) from if_neg (by simpa [bR] using R)];exact RQ 0 aq (Ae _) ar hS H
 have ee:∀H,Sg 179 [.bJ 0 3 (bR l)] H (.ret (mB 3 (bR C))) H:=jw 0 A0 hC;refine bP ?_;refine Wz ?_;refine fW ?_;refine Wz ?_;refine bQ ?_;by_cases a6:S=[]
 . have hO:iW l C S L=(.bE,120):=(if_neg Xn).trans ((if_neg ZbC).trans (if_pos (by rw[a6];decide)));refine aM fun K hK=>?_;rw[show CR L S=.bE by rw[a6];rfl];simp only[↓zP,zJ,seval,Q,g0];exact ZbE
 have ae:¬S.length<4:=by have :=hS.fl.four (BA hC.Ra) a6;omega
 have uK:CR L S=.bJ 0 5 (S.map (cX L)):=by
  rcases kZ L S with ⟨h,_⟩|⟨_,h⟩
  . exact absurd h a6
  exact h
 have ay:bR C≠[]:=fun h=>a6 (Fj.2 fun q D=>by
  obtain⟨i,j,k,_,_,h',_⟩:=iB ((hS.fl.mem q).1 D);have :C.length=0:=by rw[<-aU,h];rfl
  omega)
 rw[show mB 3 (bR C)=.bJ 0 3 (bR C) from if_neg ay,uK];have SS:((S.length:Int)==0)=false:=Cy.2 fun h=>a6 (Cm A0);refine bP ?_;simp only[↓zP,zG,seval,Ah,SS];refine bQ ?_;by_cases LP:64<S.length
 . have hO:iW l C S L=(.bE,2):=(if_neg Xn).trans ((if_neg ZbC).trans ((if_neg ae).trans (if_pos LP)));refine aM fun K hK=>?_;simp only[↓zP,zJ,seval,Q,g0,Ah];refine⟨fun _=>?_,fun h=>absurd LP A0⟩;exact ZbE
 refine bP ?_;simp only[↓zP,zJ,seval,Ah];refine⟨fun h=>absurd h A0,fun _=>?_⟩;refine bQ ?_;have hO:iW l C S L=(mB 3 (bR (gZ C S L)),0):=(if_neg Xn).trans ((if_neg ZbC).trans ((if_neg ae).trans (if_neg LP)));rw[hO];refine bP ?_;refine Ty ?_;refine bQ ?_;refine aM fun K hK=>?_;refine Tz ?_;have Zc:¬(0=H1.next):=by omega
 generalize G:(H1.alloc _).set H1.next _=H4;have y0:H4.get 0=some (.cells [.bE,.int .i64 0] false):=by subst G;rw[aA.aH,if_neg Zc,aA.aI,if_neg Zc];exact g0
 have yb:=Kz G;have yn:H4.next=H1.next+1:=by subst G;simp only[aA.aZ,aA.bK]
 clear G;generalize H1.next=T at *;have nm:(S.map (cX L)).length=S.length:=Ah ..;refine cL [] (fun i _ H'=>H'.get 0=some (.cells [.bE,.int .i64 0] false)/\T<H'.next/\∃v,H'.get T=some (.cells [v,.int .i64 0] false)/\Own H' 3 v (bR (((List.range i).filter (gV S L)).map fun k=>C.getD k V0))/\(((List.range i).filter (gV S L)).map (fun k=>C.getD k V0)=[]->v=.bE)) 0 C.length (Bk _) A0 A1 ?_ ?_ ?_ ?_ ?_
 . exact zq
 . exact⟨y0,by omega,.bE,yb,.nil _ _,fun _=>rfl⟩
 . rintro i f2 w o F N P _;have u5:f2 5=.bJ 0 3 (bR C):=N 5 rfl;simp only[↓zP,zG,seval,P,u5,aU];exact tB A0
 . rintro i f2 w o F N P ⟨q0,qn,v,qv,qo,qe⟩;have u5:f2 5=.bJ 0 3 (bR C):=N 5 rfl;have u6:f2 6=.bJ 0 5 (S.map (cX L)):=N 6 rfl;have u7:f2 7=.ref T 0:=N 7 rfl;refine aJ ?_;refine bP ?_;refine Tz ?_;refine bQ ?_;refine aM fun K hK=>?_;refine Tz ?_;refine cL [9] (fun k vs H'=>H'=w/\vs=[.bool ((S.take k).any fun q=>(L q).contains i)]) 0 S.length (Bk _) A0 A1 ?_ ?_ ?_ ?_ ?_
   . exact zq
   . exact Zb5
   . rintro k g X o wU gA B _;have w6:g 6=.bJ 0 5 (S.map (cX L)):=(by rw[gA 6 rfl];simp only[zB,seval];exact u6);simp only[↓zP,zG,seval,B,w6,nm];exact tB A0
   . rintro k g X o wU gA B ⟨rfl,J⟩;simp only[zM] at J;have w6:g 6=.bJ 0 5 (S.map (cX L)):=(by rw[gA 6 rfl];simp only[zB,seval];exact u6);have z:g 8=.int .i64 i:=(by rw[gA 8 rfl];simp only[zB,seval];exact P);have ad:(S.map (cX L)).getD k []=cX L S[k]:=eO wU
     have uL:((S.take (k+1)).any fun q=>(L q).contains i)=(((S.take k).any fun q=>(L q).contains i)||(L S[k]).contains i):=by rw[Ao,Is];simp[wU]
     have aj:=Ac wU;rw[uL];generalize S[k]=q at *;generalize ((S.take k).any fun q=>(L q).contains i)=b0 at *
     have aK:(L q).length<2^30:=by obtain⟨s,r,m,e,W,h⟩:=(hS.po _ aj).ex;rw[h,Ah,Bv];have O:=W.le;have Z:=Db (fun k=>decide (aC.dot q.1 (C.getD k V0)=q.2)) (List.range C.length);rw[Bv] at Z;have h3:(iE (fun i=>C.getD i V0) C.length q.1 q.2).length<=C.length:=Z;omega
     have d5:(cX L q).length=5:=rfl;have d4:(List.drop 4 (cX L q)).getD 0 aB=.bJ 0 1 (yL (L q)):=rfl;have af:1<=(List.drop 4 (cX L q)).length:=Ae _;refine aJ ?_;refine bP ?_;refine Tz ?_;refine bQ ?_;refine cL [9] (fun c vs H'=>H'=X/\vs=[.bool (b0||((L q).take c).contains i)]) 0 (L q).length (Bk _) A0 A1 ?_ ?_ ?_ ?_ ?_
     . exact zq
     . exact⟨rfl,by simp only[sm,zB,seval,J];simp⟩
     . rintro c d H4 o R u U ⟨rfl,_⟩;have x6:d 6=.bJ 0 5 (S.map (cX L)):=Zbp;have a7:d 10=.int .i64 k:=(by rw[u 10 rfl];simp only[zB,seval];exact B);simp only[↓zP,zG,seval,U,x6,a7,aD,nm,wU,ad,d4,af,dQ];exact tB A0
     . rintro c d H4 o R u U ⟨rfl,ZZ⟩;simp only[zM] at ZZ;have x6:d 6=.bJ 0 5 (S.map (cX L)):=Zbp;have a7:d 10=.int .i64 k:=(by rw[u 10 rfl];simp only[zB,seval];exact B);have x8:d 8=.int .i64 i:=(by rw[u 8 rfl];simp only[zB,seval];exact z);have al:=pF R
       have ag:((L q).take (c+1)).contains i=(((L q).take c).contains i||(L q)[c]==i):=by
        rw[Dc];simp only[Ea,List.contains_iff_mem,Dl,Ao,Af R,Option.toList_some,Ar,Bw];constructor
        . rintro(h|h)
          . exact .inl h
          exact .inr h.symm
        rintro(h|h)
        . exact .inl h
        exact .inr h.symm
       rw[ag,<-Bool.or_assoc];generalize (L q)[c]=p at *;generalize (b0||((L q).take c).contains i)=b1 at *;have ak:((p:Int)==(i:Int))=(p==i):=(by rw[Dc,Dl,Dl];omega);refine aJ ?_
       cases b1 with
       |true=>simp only[↓zP,zJ,seval,ZZ];exact⟨trivial,rfl⟩
       |false=>simp only[↓zP,zJ,seval,ZZ,x6,a7,x8,U,aD,nm,wU,ad,d4,af,dQ,R,al,ak];exact⟨trivial,rfl⟩
     rintro d H4 u ⟨rfl,ZZ⟩;rw[Aq] at ZZ;refine Tx ?_;exact⟨trivial,ZZ⟩
   rintro g X gA ⟨rfl,J⟩;rw[Aq] at J;simp only[zM] at J;have hP:(S.any fun q=>(L q).contains i)=gV S L i:=rfl;rw[hP] at J;have M:g 5=.bJ 0 3 (bR C):=Zbm;have w7:g 7=.ref T 0:=(by rw[gA 7 rfl];simp only[zB,seval];exact u7);have z:g 8=.int .i64 i:=(by rw[gA 8 rfl];simp only[zB,seval];exact P);have t:=cH F;have TU:C.getD i V0=C[i]:=by simp[List.getD,F]
   have az:((List.range (i+1)).filter (gV S L)).map (fun k=>C.getD k V0)=((List.range i).filter (gV S L)).map (fun k=>C.getD k V0)++(if gV S L i then [C[i]] else []):=by
    rw[Ds,Jd,Cd];congr 1;simp only[Jw,Kd];split
    . rw[Cg,TU];rfl
    rfl
   have AU:(((List.range i).filter (gV S L)).map fun k=>C.getD k V0).length<=64:=by rw[Ah];have :=Db (gV S L) (List.range i);rw[Bv] at this;omega
   refine Tx ?_;apply hK;clear hK K;rw[az];generalize ((List.range i).filter (gV S L)).map (fun k=>C.getD k V0)=els at *;generalize C[i]=x at *
   cases hu:gV S L i with
   |false=>rw[hu] at J;simp only[↓zP,zJ,seval,J];exact⟨q0,qn,v,qv,qo,qe⟩
   |true=>
    rw[hu] at J;refine Wz ?_;obtain⟨H5,z1,z2,z3,z4,z5⟩:=Has.push (.inr qo) (ys:=[cG x]) (bytes:=24) rfl Zb1;refine Dz ?_;have w2:=(z4 T A0 (by rw[qv];simp)).trans qv;simp only[↓zP,zJ,seval,zD,M,w7,z,qv,aD,aU,F,t,oL (aT x)];rw[eL];simp only[z1,bX,zJ,seval,zD,w2];refine⟨by omega,(if_neg A0).trans ((z4 0 A0 (by rw[q0];simp)).trans q0),by omega,_,rfl,?_,fun h=>?_⟩
    . rw[show bR (els++[x])=bR els++[cG x] from by simp[bR]];exact .inr ⟨X.next,rfl,by simp only[aA.aZ];omega,by rw[aA.aH,if_neg A0];exact z3⟩
    simp at h
 rintro f2 w N ⟨q0,qn,v,qv,qo,qe⟩;have u2:f2 2=.ref 0 0:=by rw[N 2 rfl];simp only[zB,seval];exact Q
 have u7:f2 7=.ref T 0:=N 7 rfl;refine Tx ?_;apply hK;clear hK K;have hL:((List.range C.length).filter (gV S L)).map (fun k=>C.getD k V0)=gZ C S L:=rfl;rw[hL] at qo qe;refine Wz ?_;refine⟨rfl,_,by simp only[↓zP,zR,seval,u2];rfl,?_⟩;refine⟨_,2,rfl,fun nw=>?_⟩
 exact Zar
theorem aIq(tag:Nat){l C:List aC.V}(Q:l.length<2^30)(j:Ord l C){S:List (aC.V×Int)}{L:aC.V×Int->List Nat}(u:vJ C S L)(H:aA):
 Sg 91 [.bJ tag 3 (bR l)] H (.ret (.agg [(iW l C S L).1,.int .i64 (iW l C S L).2])) H:=(bCv Q j u H).KD tag
theorem aAq(H:aA):Sg 91 [.bE] H (.ret (.agg [.bE,.int .i64 120])) H:=by
 refine So bLh Zac ?_ H;unfold W91;dsimp only;refine bP ?_;simp only[↓zP,zG,Nat.reduceLT];refine fW ?_;simp only[↓zP,zJ,Nat.reduceLT,Nat.reduceEqDiff,Nat.reduceAdd];refine⟨fun h=>absurd h A1,fun _=>?_⟩;refine bQ ?_;refine aM fun K hK=>?_;simp only[↓zP,zG,Nat.reduceLT];refine cL [] (fun i _ H=>H.get 0=some (.cells [.bE,.int .i64 0] false)) 0 0 (Bk _) A0 A1 ?_ ?_ ?_ ?_ ?_
 . exact Za3
 . simp only[zI]
 . rintro i f H1 o F E T g0;have A:f 0=.bE:=E 0 rfl;simp only[↓zP,zJ,Nat.reduceLT,Nat.reduceEqDiff,T,A];exact tB A0
 . rintro i f H1 o F E;exact absurd F (Al _)
 rintro f H1 E g0;have A:f 0=.bE:=E 0 rfl;have s:f 2=.ref 0 0:=E 2 rfl;simp only[↓zP];apply hK;clear hK K;refine bP ?_;have :=Yr;refine Wz ?_;refine fW ?_;have :=OS;refine Wz ?_;refine bQ ?_;refine aM fun K hK=>?_;refine Wy ?_;refine⟨rfl,_,by simp only[↓zP,zR,Nat.reduceEqDiff,Nat.reduceAdd,s,g0];rfl,?_⟩;rfl
theorem aQo{a b:List aC.V}(I:a.length<2^30)(X:b.length<2^30)(H:aA):
 Sg 92 [.bJ 0 3 (bR a),.bJ 0 3 (bR b)] H (.ret (.bool (decide (a=b)))) H:=by
 have w:Nat.blt 0 2=true:=rfl;refine So bQx (by simp only[sf,cT w]) ?_ H;unfold W92;dsimp only;refine bP ?_;simp only[↓zP,zG,Nat.reduceLT];refine bQ ?_;refine aM fun K hK=>?_;by_cases U:a.length=b.length
 . have hd:((a.length:Int) != (b.length:Int))=false:=by simp[U]
   simp only[↓zP,zJ,Nat.reduceLT,Nat.reduceEqDiff,aU,hd];apply hK;clear hK K;refine aM fun K hK=>?_;simp only[↓zP,zG,Nat.reduceLT];refine cL [] (fun i _ H=>a.take i=b.take i) 0 a.length (Bk _) A0 A1 ?_ ?_ ?_ ?_ ?_
   . exact Za3
   . rfl
   . rintro i f H1 o F E T _;have A:f 0=.bJ 0 3 (bR a):=E 0 rfl;exact Zcq
   . rintro i f H1 o F E T r;have A:f 0=.bJ 0 3 (bR a):=E 0 rfl;have j:f 1=.bJ 0 3 (bR b):=E 1 rfl;have c:i<b.length:=A0;have g:=cH F;have d:=cH c;have S:(cG a[i]).take 3=cG a[i]:=rfl;have e:(cG b[i]).take 3=cG b[i]:=rfl;refine aJ ?_;refine bP ?_;refine Dz ?_;simp only[↓zP,zJ,Nat.reduceLT,Nat.reduceEqDiff,Nat.reduceAdd,zD,reduceCtorEq,T,A,j,aD,aU,F,c,g,d,oL (aT a[i]),oL (aT b[i]),oZ];refine bQ ?_;by_cases B:a[i]=b[i]
     . simp only[↓zP,zJ,Ag B];rw[Ao,Ao,r,Af F,Af c,B]
     simp only[↓zP,zJ,Nat.reduceLT,Ab B];refine Rx ?_;rw[Ab fun h=>B (by subst h;rfl)];rfl
   rintro f H1 E r;rw[Aq,U,Aq] at r;simp only[↓zP];apply hK;clear hK K;simp only[↓zP,zG,Nat.reduceLT];refine Rx ?_;rw[Ag r];rfl
 have hd:((a.length:Int) != (b.length:Int))=true:=Gc.2 A0;simp only[↓zP,zJ,Nat.reduceLT,Nat.reduceEqDiff,aU,hd];refine Rx ?_;rw[Ab fun h=>U (by rw[h])];rfl
theorem aIs(t1 t2:Nat){a b:List aC.V}(I:a.length<2^30)(X:b.length<2^30)(H:aA):
 Sg 92 [.bJ t1 3 (bR a),.bJ t2 3 (bR b)] H (.ret (.bool (decide (a=b)))) H:=((aQo I X H).KD t1).aQx t2
variable{tag:Nat}
theorem Sh(q:Nat.blt tag 2=true){l C:List aC.V}(Q:l.length<2^30)(j:Ord l C){S:List (aC.V×Int)}{L:aC.V×Int->List Nat}(u:vJ C S L)(H:aA):
 Sg 30 [.agg [.bJ tag 3 (bR l)]] H (.ret (.int .i64 (Od l C S L))) H:=by
 refine So bKj ZaJ ?_ H;unfold W30;dsimp only;have A:=fun H=>aIq tag Q j u H;unfold Od;have m:=VX (l:=l) (C:=C) (S:=S) (L:=L);generalize iW l C S L=o at *;obtain⟨g,k⟩:=o;dsimp only at A m ⊢;refine bP ?_;simp only[↓zP,zJ,Nat.reduceLT];refine fW ?_;refine Wz ?_;refine bQ ?_;by_cases R:k=0
 . subst R;obtain⟨y,rfl,i⟩:=m rfl;have z:=QU u y;have f:mB 3 (bR (gZ C S L))=.bJ 0 3 (bR (gZ C S L)):=if_neg (by simpa [bR] using z);rw[f]
   have d:(gZ C S L).length<2^30:=by have c:C.length<=l.length:=tL C l (Gv (fun {a b} (h:iO a b) (e:a=b)=>iO.o5 b Zby) j.Ra) fun v J=>(j.mem v).1 J;have :=Db (gV S L) (List.range C.length);rw[Bv] at this;simp only[gZ,Ah];omega
   have X:((0:Int)==0)=true:=rfl;have w:=fun H=>aIs 0 tag d Q H;refine aM fun K hK=>?_;simp only[↓zP,zJ,Nat.reduceLT,Nat.reduceEqDiff,Nat.reduceAdd,Nat.reduceLeDiff,X];refine fC (w _) ?_;by_cases B:gZ C S L=l
   . have hd:=Ag B;simp only[↓zP,zJ,Nat.reduceLT,Nat.reduceEqDiff,hd];apply hK;clear hK K;simp only[↓zP,zJ,Nat.reduceLT,Nat.reduceEqDiff,Nat.reduceAdd];refine Rx ?_;rw[if_neg (fun h=>h.2 B)];rfl
   have hd:=Ab B;simp only[↓zP,zJ,Nat.reduceLT,Nat.reduceEqDiff,hd];refine Rx ?_;rw[if_pos ⟨trivial,B⟩];rfl
 have X:(k==0)=false:=Cy.2 R;refine bP ?_;simp only[↓zP,zJ,Nat.reduceLT,Nat.reduceEqDiff,Nat.reduceAdd,X];refine bQ ?_;simp only[↓zP,zJ,Nat.reduceLT,Nat.reduceEqDiff,Nat.reduceAdd];refine Rx ?_;rw[if_neg (fun h=>R h.1)];rfl
theorem RS(H:aA):Sg 30 [.agg [.bE]] H (.ret (.int .i64 120)) H:=by
 refine So bKj Zac ?_ H;unfold W30;dsimp only;refine bP ?_;refine Ty ?_;refine fW ?_;have :=aAq;refine Wz ?_;refine bQ ?_;have X:((120:Int)==0)=false:=by decide
 refine bP ?_;refine Wz ?_;refine bQ ?_;refine Ty ?_;exact ZaD
theorem RR{p:AV×List aC.V}(h:qO p)(Q:p.2.length<2^30)(H:aA):Sg 30 [.agg [p.1]] H (.ret (.int .i64 (mS p.2))) H:=by
 rcases h with ⟨h1,Z⟩|h1
 . rw[h1,Z,KX];exact RS H
 rw[h1];exact Sh rfl Q (AM _) (jO (AM _).Ra) H
theorem ji(tag:Nat){l:List aC.V}{M:Nat}(U:∀v∈l,bN M v)(g:M<=2^18)(Q:l.length<=64){S:List (aC.V×Int)}{L:aC.V×Int->List Nat}(u:vJ l S L)(q:Nat.blt tag 2=true)(H:aA):
 Sg 96 [.agg [.bJ tag 3 (bR l)]] H (.ret (CR L S)) H:=by
 refine Sp bLi ZaJ (by simp only[NB]) ?_ H;unfold W96;dsimp only;have a:=fun H=>RQ tag U g Q u H;refine Wz ?_;exact ZaD
theorem Yg(tag:Nat){l:List aC.V}{M:Nat}(U:∀v∈l,bN M v)(g:M<=2^18)(Q:l.length<=64){S:List (aC.V×Int)}{L:aC.V×Int->List Nat}(u:vJ l S L)(z:S≠[])(q:Nat.blt tag 2=true)(H:aA):
 Sg 96 [.agg [.bJ tag 3 (bR l)]] H (.ret (.bJ (H.next+2) 5 (S.map (cX L)))) (H.alloc .tok):=by
 refine FF eE ZaJ (by simpa using z) (dP (rZ L) S) ?_ H;refine dM fit bLi (Ai rfl) ?_;unfold W96;dsimp only;have a:=fun H=>Yl tag U g Q u z H;refine Wz ?_;refine Rx ?_;exact⟨_,rfl,.inr ⟨_,rfl,by simp,by rw[aA.aI,if_pos A2]⟩⟩
def IP(I:List Nat)(m a b:Nat):Bool:=(List.range m).any fun i=>(I.getD i 0==a&&I.getD ((i+1)%I.length) 0==b)||(I.getD i 0==b&&I.getD ((i+1)%I.length) 0==a)
def Wt(S:List (aC.V×Int))(L:aC.V×Int->List Nat)(a b:Nat):Bool:=S.any fun q=>IP (L q) (L q).length a b
def JT(S:List (aC.V×Int))(L:aC.V×Int->List Nat)(a j:Nat):List (Int×Int):=((List.range j).filter fun b=>decide (a<b)&&Wt S L a b).map fun b:Nat=>(((a:Nat):Int),((b:Nat):Int))
def Rz(S:List (aC.V×Int))(L:aC.V×Int->List Nat)(N i:Nat):List (Int×Int):=(List.range i).flatMap fun a=>JT S L a N
theorem Yd(S:List (aC.V×Int))(L:aC.V×Int->List Nat)(a j:Nat):(JT S L a j).length<=j:=by grind[JT,List.length_map,List.length_range]
theorem rh(S:List (aC.V×Int))(L:aC.V×Int->List Nat)(N i:Nat):(Rz S L N i).length<=i*N:=by
 have :=nY (fun a=>JT S L a N) N (fun a=>Yd S L a N) (List.range i)
 rwa [Bv] at this
theorem aIi(S:List (aC.V×Int))(L:aC.V×Int->List Nat)(a:Nat):JT S L a (a+1)=[]:=by
 have :((List.range (a+1)).filter fun b=>decide (a<b)&&Wt S L a b)=[]:=by
  rw[List.filter_eq_nil_iff]
  grind
 simp[JT,this]
theorem bCt{S:List (aC.V×Int)}{a j:Nat}(h:a<j):JT S L a (j+1)=JT S L a j++(if Wt S L a j then [((a:Int),(j:Int))] else []):=by
 simp only[JT];rw[Ds,Jd,Cd,Jw,Kd,Ag h,Dk]
 grind
theorem bMr(S:List (aC.V×Int))(L:aC.V×Int->List Nat)(N i:Nat):Rz S L N (i+1)=Rz S L N i++JT S L i N:=by simp[Rz,Ds,Gg]
theorem aYk(I:List Nat)(m a b:Nat):IP I (m+1) a b=(IP I m a b||((I.getD m 0==a&&I.getD ((m+1)%I.length) 0==b)||(I.getD m 0==b&&I.getD ((m+1)%I.length) 0==a))):=by simp[IP,Ds,Is]
theorem aAo(ht:Nat.blt tag 2=true){l:List aC.V}{M:Nat}(hl:∀v∈l,bN M v)(g:M<=2^18)(Q:l.length<=64){S:List (aC.V×Int)}{L:aC.V×Int->List Nat}(hS:vJ l S L)(LP:S.length<=64)(H:aA):
 Sg 187 [.agg [.bJ tag 3 (bR l)]] H (.ret (mB 2 ((Rz S L l.length l.length).map pC))) H:=by
 refine eP fit eE bHy (Ai rfl) Za1 ?_ H;unfold aVu;dsimp only;have hF:=fun H=>ji tag hl g Q hS ht H;have ae:=tq hS Q;refine Wz ?_;have fF:(bR l).length=l.length:=aU _;refine cL [3] (fun i vs H'=>H'.get 0=some (.cells [.bJ tag 3 (bR l)] false)/\1<=H'.next/\∃v,vs=[v]/\Own H' 2 v ((Rz S L l.length i).map pC)/\(Rz S L l.length i=[]->v=.bE)) 0 l.length (Bk _) A0 A1 ?_ ?_ ?_ ?_ ?_
 . exact zq
 . exact⟨by simp only[zI,seval],by simp only[zI,seval],.bE,by simp only[sm,zB,seval],.nil _ _,fun _=>rfl⟩
 . rintro i f H1 o F E T ⟨g0,_⟩;have b:f 1=.ref 0 0:=E 1 rfl;simp only[↓zP,zJ,seval,T,b,g0,fF];exact tB A0
 . rintro i f H1 o F E T ⟨g0,gn,v,J,ho,hn⟩;simp only[zM] at J;have b:f 1=.ref 0 0:=E 1 rfl;have m:f 4=CR L S:=E 4 rfl;have wi:IntKind.i64.wrap ((i:Int)+1)=((i+1:Nat):Int):=(wrap_i64 A0 A0).trans A0;refine aJ ?_;refine Wz ?_;refine cL [3] (fun j vs H'=>H'.get 0=some (.cells [.bJ tag 3 (bR l)] false)/\1<=H'.next/\∃v,vs=[v]/\Own H' 2 v ((Rz S L l.length i++JT S L i j).map pC)/\(Rz S L l.length i++JT S L i j=[]->v=.bE)) (i+1) l.length A0 A0 A1 ?_ ?_ ?_ ?_ ?_
   . exact zq
   . exact⟨g0,gn,v,by simp only[sm,zB,seval,J],by rw[aIi,Bx];exact ho,by rw[aIi,Bx];exact hn⟩
   . rintro j s w o Y N P ⟨FP,_⟩;have u1:s 1=.ref 0 0:=(by rw[N 1 rfl];simp only[zB,seval];exact b);simp only[↓zP,zJ,seval,P,u1,FP,fF];exact tB A0
   . rintro j s w CI Y N P ⟨FP,ad,v2,rT,a,Lg⟩;simp only[zM] at rT;have u4:s 4=CR L S:=(by rw[N 4 rfl];simp only[zB,seval];exact m);have u5:s 5=.int .i64 i:=by rw[N 5 rfl];simp only[zB,seval];exact T
     have aj:(Rz S L l.length i++JT S L i j).length<2^20:=by have O:=rh S L l.length i;have Z:=Yd S L i j;have W:i*l.length<=64*64:=Be A0 Q;rw[An];omega
     refine aJ ?_;refine bP ?_;refine Tz ?_;refine bQ ?_;refine aM fun K hK=>?_;refine Ty ?_;refine cL [7] (fun k vs H'=>H'=w/\vs=[.bool ((S.take k).any fun q=>IP (L q) (L q).length i j)]) 0 S.length (Bk _) A0 A1 ?_ ?_ ?_ ?_ ?_
     . exact zq
     . exact Zb5
     . rintro k f3 H3 o R gA e3 _;have t:f3 4=CR L S:=by rw[gA 4 rfl];simp only[zB,seval];exact u4
       rcases kZ L S with ⟨h,e⟩|⟨h,e⟩
       . rw[e] at t;subst h;simp only[↓zP,zG,seval,e3,t];exact Zct
       rw[e] at t;simp only[↓zP,zG,seval,e3,t,Ah];exact tB A0
     . rintro k f3 H3 o R gA e3 ⟨rfl,YA⟩;simp only[zM] at YA
       have t:f3 4=.bJ 0 5 (S.map (cX L)):=by
        rw[gA 4 rfl];simp only[zB,seval];rw[u4]
        rcases kZ L S with ⟨h,e⟩|⟨h,e⟩
        . rw[h] at R;exact absurd R (Al _)
        exact e
       have w5:f3 5=.int .i64 i:=Zbm;have w6:f3 6=.int .i64 j:=(by rw[gA 6 rfl];simp only[zB,seval];exact P);have ag:(S.map (cX L)).getD k []=cX L S[k]:=eO R
       have uL:((S.take (k+1)).any fun q=>IP (L q) (L q).length i j)=(((S.take k).any fun q=>IP (L q) (L q).length i j)||IP (L S[k]) (L S[k]).length i j):=by rw[Ao,Is];simp[R]
       have nm:(S.map (cX L)).length=S.length:=Ah ..;have ak:=ae _ (Ac R);rw[uL];generalize S[k]=q at *;generalize ((S.take k).any fun q=>IP (L q) (L q).length i j)=b0 at *;have d5:(cX L q).length=5:=rfl;have d4:(List.drop 4 (cX L q)).getD 0 aB=.bJ 0 1 (yL (L q)):=rfl;have al:1<=(List.drop 4 (cX L q)).length:=Ae _;refine aJ ?_;refine bP ?_;refine Wy ?_;refine fW ?_;refine Tz ?_;refine bQ ?_;generalize L q=I at *;refine cL [7] (fun c vs H'=>H'=H3/\vs=[.bool (b0||IP I c i j)]) 0 I.length (Bk _) A0 A1 ?_ ?_ ?_ ?_ ?_
       . exact zq
       . exact⟨rfl,by simp only[sm,zB,seval,YA];simp[IP]⟩
       . rintro c m H4 o hc u U _;have x9:m 9=.bJ 0 1 (yL I):=u 9 rfl;simp only[↓zP,zG,seval,U,x9,dQ];exact tB A0
       . rintro c m H4 o hc u U ⟨rfl,ZZ⟩;simp only[zM] at ZZ;have x9:m 9=.bJ 0 1 (yL I):=u 9 rfl;have x5:m 5=.int .i64 i:=(by rw[u 5 rfl];simp only[zB,seval];exact w5);have x6:m 6=.int .i64 j:=Zbp;have wj:IntKind.i64.wrap ((c:Int)+1)=((c+1:Nat):Int):=(wrap_i64 A0 A0).trans A0;have nz:¬((I.length:Int)=0):=A0;have hm:(c+1)%I.length<I.length:=Bz _ A0;have tm:((c+1:Nat):Int).tmod (I.length:Int)=(((c+1)%I.length:Nat):Int):=rfl;have a6:=pF hc;have a7:=pF hm;have ab:∀x y:Nat,((x:Int)==(y:Int))=(x==y):=fun x y=>by rw[Dc,Dl,Dl];omega
         rw[aYk,<-Bool.or_assoc];rw[show I.getD c 0=I[c] by simp[List.getD,hc],show I.getD ((c+1)%I.length) 0=I[(c+1)%I.length] by simp[List.getD,hm]];generalize (b0||IP I c i j)=b1 at *;generalize I[c]=p at *;generalize I[(c+1)%I.length]=p' at *;have n:=ab p i;have hB:=ab p' j;have hC:=ab p j;have r:=ab p' i;generalize (p==i)=A at *;generalize (p'==j)=B at *;generalize (p==j)=C at *;generalize (p'==i)=D at *;refine aJ ?_
         cases b1 with
         |true=>simp only[↓zP,zJ,seval,ZZ,qA];exact⟨trivial,rfl⟩
         |false=>
          cases A with
          |true=>
           cases B with
           |true=>simp only[↓zP,zJ,seval,ZZ,x9,x5,x6,U,aD,dQ,hc,a6,a7,wj,nz,tm,hm,n,hB,qA];exact⟨trivial,rfl⟩
           |false=>
            cases C with
            |true=>simp only[↓zP,zJ,seval,ZZ,x9,x5,x6,U,aD,dQ,hc,a6,a7,wj,nz,tm,hm,n,hB,hC,r];exact⟨trivial,rfl⟩
            |false=>simp only[↓zP,zJ,seval,ZZ,x9,x5,x6,U,aD,dQ,hc,a6,a7,wj,nz,tm,hm,n,hB,hC];exact⟨trivial,rfl⟩
          |false=>
           cases C with
           |true=>simp only[↓zP,zJ,seval,ZZ,x9,x5,x6,U,aD,dQ,hc,a6,a7,wj,nz,tm,hm,n,hC,r];exact⟨trivial,by simp⟩
           |false=>simp only[↓zP,zJ,seval,ZZ,x9,x5,x6,U,aD,dQ,hc,a6,n,hC];exact⟨trivial,rfl⟩
       rintro m H4 u ⟨rfl,ZZ⟩;refine Tx ?_;exact⟨trivial,ZZ⟩
     rintro f3 H3 gA ⟨rfl,YA⟩;rw[Aq] at YA;simp only[zM] at YA;have hP:(S.any fun q=>IP (L q) (L q).length i j)=Wt S L i j:=rfl;rw[hP] at YA;have w5:f3 5=.int .i64 i:=Zbm;have w6:f3 6=.int .i64 j:=(by rw[gA 6 rfl];simp only[zB,seval];exact P);have G:f3 3=v2:=(by rw[gA 3 rfl];simp only[zB,seval];exact rT);refine Tx ?_;apply hK;clear hK K;rw[bCt A0,<-Dg];generalize Rz S L l.length i++JT S L i j=X at *
     cases hu:Wt S L i j with
     |false=>rw[hu] at YA;simp only[↓zP,zJ,seval,YA];exact⟨FP,ad,v2,by rw[G],a,Lg⟩
     |true=>
      rw[hu] at YA;obtain⟨H5,z1,z2,z3,z4,z5⟩:=Has.push (.inr a) (ys:=[pC ((i:Int),(j:Int))]) (bytes:=16) rfl (by rw[Ah,Ba,Ca];omega);have af:[AV.int .i64 (i:Int),.int .i64 (j:Int)]=pC ((i:Int),(j:Int)):=rfl;have := @RE;refine Wz ?_;rw[eL];simp only[z1,bX,seval];refine⟨(z4 0 A0 (by rw[FP];simp)).trans FP,by omega,_,rfl,?_,fun h=>?_⟩
      . rw[Cd];exact .inr ⟨H3.next,rfl,by omega,z3⟩
      simp at h
   rintro s w N ⟨FP,ad,v2,rT,a,Lg⟩;simp only[zM] at rT;refine Tx ?_;rw[bMr];exact⟨FP,ad,v2,by rw[rT],a,Lg⟩
 rintro f H1 E ⟨g0,gn,v,J,ho,hn⟩;simp only[zM] at J;simp only[↓zP,seval,J];refine Rx ?_;refine⟨v,0,rfl,?_⟩
 rcases ho with ⟨rfl,Z⟩|⟨k,rfl,_,_⟩
 . rw[Z];exact fun _=>rfl
 have z:¬(Rz S L l.length l.length).map pC=[]:=fun h=>by cases hn Zcx
 have uK:fN ((Rz S L l.length l.length).map pC)=true:=dP Vo _;intro d;rw[show mB 2 ((Rz S L l.length l.length).map pC)=.bJ 0 2 ((Rz S L l.length l.length).map pC) from if_neg z];simp[jB,mJ,uK,GY]
end Go.Proofs.YtogfcjbgeebfkaaGreatDoor
