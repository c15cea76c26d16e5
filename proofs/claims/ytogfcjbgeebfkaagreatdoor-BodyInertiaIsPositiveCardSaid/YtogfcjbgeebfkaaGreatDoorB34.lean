/-
  Part of the proof of statement 13
-/
import Derived.Test.YtogfcjbgeebfkaaGreatDoorB32
import Derived.Test.YtogfcjbgeebfkaaGreatDoorB33
import Derived.Test.YtogfcjbgeebfkaaGreatDoorB07
import Derived.Test.YtogfcjbgeebfkaaGreatDoorB17
import Derived.Test.YtogfcjbgeebfkaaGreatDoorB23
import Derived.Test.YtogfcjbgeebfkaaGreatDoorB24
set_option linter.unusedVariables false
set_option maxRecDepth 100000
set_option linter.unusedSimpArgs false
set_option maxHeartbeats 16000000
namespace Go.Proofs.YtogfcjbgeebfkaaGreatDoor
open Go Go.Av Go.aH Go.iW
attribute [local congr] aZ aQ aR aL bD aU aS aG bE
attribute [local irreducible] FC bS eE
theorem DP{q x:aH.V×Int}:∀{S:List (aH.V×Int)},x∈wD q S↔x=q\/x∈S
 |[]=>by simp[wD]
 |s::r=>by
  unfold wD;split
  . simp
  rw[Ba,DP,Ba];exact ZaE
theorem Xj{q:aH.V×Int}:∀{S:List (aH.V×Int)},(S.Pairwise fun a b=>jC a.1 b.1)->(∀s∈S,s.1≠q.1)->(wD q S).Pairwise fun a b=>jC a.1 b.1
 |[],_,_=>by simp[wD]
 |s::r,h,cU=>by
  rw[Cj] at h;unfold wD
  cases J:vU q.1 s.1 with
  |true=>
   have D:=EM.1 J;rw[if_pos rfl,Cj];refine⟨fun x hx=>?_,Cj.2 h⟩
   rcases Ba.1 hx with rfl|hx
   . omega
   exact jC.trans D (h.1 x hx)
  |false=>
   rw[if_neg A1,Cj]
   have c:jC s.1 q.1:=by
    rcases jC.total (cU s Ay) with h1|h1
    . omega
    rw[EM.2 h1] at J;grind
   refine⟨fun x hx=>?_,Xj h.2 fun x hx=>cU x (Ax _ hx)⟩
   rcases DP.1 hx with rfl|hx<;>grind
structure KF (l:List aH.V) (K:List (aH.V×Int)):Prop where
 SL:K.Pairwise fun a b=>jC a.1 b.1
 is:∀q∈K,oR (fun i=>l.getD i V0) l.length q.1 q.2
variable{l:List aH.V}{K:List (aH.V×Int)}
theorem KF.nodup(h:KF l K):K.Nodup:=Gx (fun {a b} (h:jC a.1 b.1) (e:a=b)=>jC.nv b.1 (by grind)) h.SL
theorem KF.len(h:KF l K)(U:l.length<=64):K.length<2^20:=by have O:=yR (N:=l.length) (p:=fun i=>l.getD i V0) h.nodup h.is;have Z:l.length*(l.length*(l.length*2))<=64*(64*(64*2)):=Az U (Az U (Az U (Ad _)));omega
theorem KF.ins(h:KF l K){q:aH.V×Int}(D:oR (fun i=>l.getD i V0) l.length q.1 q.2)(E:(K.any fun x=>decide (x.1=q.1))=false):KF l (wD q K) where
 SL:=Xj h.SL fun s M e=>by grind
 is:=fun x hx=>by
  rcases DP.1 hx with rfl|hx
  . omega
  exact h.is x hx
theorem KF.known(h:KF l K){q:aH.V×Int}(E:(K.any fun x=>decide (x.1=q.1))=true)(D:oR (fun i=>l.getD i V0) l.length q.1 q.2):q∈K:=by
 obtain⟨x,C,e⟩:=Cz.1 E;have e:=Ek e;have g:=h.is x C;rw[e] at g;have :=g.uniq D
 grind
def HW(L:aH.V×Int->List Nat)(H:aB)(v:AV)(K:List (aH.V×Int)):Prop:=
 (K=[]/\v=.bG)\/(K≠[]/\∃k,v=.bK (k+2) 5 (K.map (cX L))/\k<H.next/\H.get k=some .tok)
variable{L:aH.V×Int->List Nat}{H:aB}{v:AV}
theorem HW.LP{H':aB}(h:HW L H v K)(A:H.next<=H'.next)(E:∀k,k<H.next->H.get k=some .tok->H'.get k=some .tok):HW L H' v K:=by
 rcases h with h|⟨h,k,rfl,O,Z⟩
 . exact .inl h
 exact .inr ⟨h,k,rfl,by omega,E k O Z⟩
theorem HW.sound(h:HW L H v K){f:FuncId}{rest:List AV}{H1 H2:aB}{out:Out}(w:Sg f (BW L K::rest) H1 out H2):Sg f (v::rest) H1 out H2:=by
 rcases h with ⟨O,rfl⟩|⟨O,k,rfl,_,_⟩
 . rcases kS L K with ⟨_,e⟩|⟨Z,_⟩<;>simp_all
 rcases kS L K with ⟨Z,_⟩|⟨_,e⟩
 . grind
 rw[e] at w;exact w.JS (k+2)
theorem HW.bEg{f:FuncId}{args:List AV}(I:cP args=true){K:List (aH.V×Int)}(h:∃out H',(∃v,out=.ret v/\HW L H' v K)/\Sg f args ⟨0,.nil⟩ out H')(H:aB):Sg f args H (.ret (BW L K)) H:=by
 obtain⟨out,H',⟨v,rfl,a⟩,w⟩:=h;refine w.frame dZ I (tk:=none) (fun p q=>by grind) (n:=0) H ?_
 rcases a with ⟨rfl,rfl⟩|⟨O,k,rfl,_,_⟩
 . rfl
 have N:fK (K.map (cX L))=true:=dQ (rQ L) _
 rcases kS L K with ⟨Z,_⟩|⟨_,e⟩
 all_goals grind[Out.av,iH,kK,EK]
theorem Nz{M:Nat}(hl:∀v∈l,bT M v)(hM:M<=2^18)(Q:l.length<=64){S:List (aH.V×Int)}{L:aH.V×Int->List Nat}(hS:wB l S L):
 ∃out H',(∃v,out=.ret v/\HW L H' v S)/\Sg 180 [.bK 0 3 (bU l)] ⟨0,.nil⟩ out H':=by
 have TR:Nat.blt 0 2=true:=rfl;refine bZ fit aSg (Ab rfl) ?_;unfold aKu;dsimp only;have c:∀k (h:k<l.length),l.getD k V0=l[k]:=fun k h=>by simp[List.getD,h]
 refine Tz ?_;refine cH [3] (fun i vs H'=>aY H'/\∃v K,vs=[v]/\HW L H' v K/\KF l K/\jP (fun i=>l.getD i V0) l.length i 0 0 K) 0 l.length (Bh _) A0 A1 ?_ ?_ ?_ ?_ ?_
 . exact zq
 . refine⟨.nil 0,.bG,[],by simp only[sm,zB,seval],.inl ⟨rfl,rfl⟩,⟨.nil,fun q D=>by cases D⟩,.zero⟩
 . rintro i f H1 G hi E T ⟨hf,w,K,J,r,hK,hT⟩;have f0:f 0=.bK 0 3 (bU l):=E 0 rfl;simp only[↓zP,zG,seval,T,f0,aX];exact tB A0
 . rintro i f H1 G hi E T ⟨hf,w,K,J,r,hK,hT⟩;simp only[zM] at J;have f0:f 0=.bK 0 3 (bU l):=E 0 rfl;have w1:IntKind.i64.wrap ((i:Int)+1)=((i+1:Nat):Int):=by rw[wrap_i64 A0 A0];rfl
   refine aM ?_;refine Wz ?_;refine cH [3] (fun j vs H'=>aY H'/\∃v K,vs=[v]/\HW L H' v K/\KF l K/\jP (fun i=>l.getD i V0) l.length i j 0 K) (i+1) l.length A0 A0 A1 ?_ ?_ ?_ ?_ ?_
   . exact zq
   . exact⟨hf,w,K,by simp only[sm,zB,seval,J],r,hK,hT.j0⟩
   . rintro j P H2 G Y N e2 ⟨aq,w2,K2,rT,aE,dJ,az⟩;have k0:P 0=.bK 0 3 (bU l):=(by rw[N 0 rfl];simp only[zB,seval];exact f0);simp only[↓zP,zG,seval,e2,k0,aX];exact tB A0
   . rintro j P H2 BQ Y N e2 ⟨aq,w2,K2,rT,aE,dJ,az⟩;simp only[zM] at rT;have k0:P 0=.bK 0 3 (bU l):=(by rw[N 0 rfl];simp only[zB,seval];exact f0);have k4:P 4=.int .i64 i:=(by rw[N 4 rfl];simp only[zB,seval];exact T);have bn:IntKind.i64.wrap ((j:Int)+1)=((j+1:Nat):Int):=(by rw[wrap_i64 A0 A0];rfl);refine aM ?_;refine Wz ?_;refine cH [3] (fun k vs H'=>aY H'/\∃v K,vs=[v]/\HW L H' v K/\KF l K/\jP (fun i=>l.getD i V0) l.length i j k K) (j+1) l.length A0 A0 A1 ?_ ?_ ?_ ?_ ?_
     . exact zq
     . exact⟨aq,w2,K2,by simp only[sm,zB,seval,rT],aE,dJ,az.k0⟩
     . rintro k f3 W G CD lO e3 ⟨aj,R,F,Xi,aA,DJ,ay⟩;have u0:f3 0=.bK 0 3 (bU l):=(by rw[lO 0 rfl];simp only[zB,seval];exact k0);simp only[↓zP,zG,seval,e3,u0,aX];exact tB A0
     . rintro k f3 W bq CD lO e3 ⟨aj,R,F,Xi,aA,DJ,ay⟩;simp only[zM] at Xi;have u0:f3 0=.bK 0 3 (bU l):=(by rw[lO 0 rfl];simp only[zB,seval];exact k0);have u4:f3 4=.int .i64 i:=(by rw[lO 4 rfl];simp only[zB,seval];exact k4);have u5:f3 5=.int .i64 j:=(by rw[lO 5 rfl];simp only[zB,seval];exact e2);have OM:i<l.length:=A0;have TO:j<l.length:=A0;have gi:=cG OM;have gj:=cG TO;have gk:=cG CD;have ni:=hl _ (Ag OM);have nj:=hl _ (Ag TO);have nk:=hl _ (Ag CD);have bo:=je ni nj nk hM;have br:(M+M)*(M+M)<=2^19*2^19:=Az A0 A0;have bt:2*((M+M)*(M+M))*M<=2^39*2^18:=Az A0 hM;have b3:bT (2*((M+M)*(M+M))) (iC (aH.bC (aH.sub l[j] l[i]) (aH.sub l[k] l[i]))):=uE (iM (gT nj ni) (gT nk ni))
       have vY:fW (fun i=>l.getD i V0) i j k=(iC (aH.bC (aH.sub l[j] l[i]) (aH.sub l[k] l[i])),aH.dot (iC (aH.bC (aH.sub l[j] l[i]) (aH.sub l[k] l[i]))) l[i]):=by simp only[fW,vec,c i OM,c j TO,c k CD]
       have aF:∀q,q∈jM (fun i=>l.getD i V0) i j k↔(fW (fun i=>l.getD i V0) i j k).1≠V0/\(q=fW (fun i=>l.getD i V0) i j k\/q=(aH.neg (fW (fun i=>l.getD i V0) i j k).1,-(fW (fun i=>l.getD i V0) i j k).2)):=fun q=>by
        unfold jM;by_cases s:(fW (fun i=>l.getD i V0) i j k).1=V0
        . rw[if_pos s];exact⟨fun h=>(by cases h),fun h=>absurd s h.1⟩
        rw[if_neg s,Ba,Ca];exact⟨fun h=>⟨s,h⟩,fun h=>h.2⟩
       rw[vY] at aF;generalize iC (aH.bC (aH.sub l[j] l[i]) (aH.sub l[k] l[i]))=g at *;generalize bs:2*((M+M)*(M+M))=B at *;have m:∀k (h:k<l.length),l.getD k V0=l[k]:=c;refine aM ?_;refine bP ?_;refine fZ 1 A1 aj.at1 fun H4 n4 e4=>?_;have := @aX;have :=oL (aW l[i]);have :=oL (aW l[j]);have :=oL (aW l[k]);have :=oL (aW g);refine Wz ?_;refine bQ ?_;generalize hX:(H4.set W.next _).set W.next _=H5;have y7:=Kz hX;have yn:W.next<H5.next:=by subst hX;simp only[aB.bB];omega
       have yf:aY H5:=fun j Y=>by subst hX;simp only[aB.bB] at Y;rw[aB.aD,if_neg A0,aB.aD,if_neg A0,e4];exact aj j A0
       have yr:HW L H5 R F:=by refine aA.LP A0 fun k O Z=>?_;subst hX;rw[aB.aD,if_neg A0,aB.aD,if_neg A0,e4];exact Z
       clear hX;refine Ty ?_
       let X:Nat->aH.V:=fun t=>if t=1 then aH.neg g else g
       have ba:∀t,bT B (X t):=fun t=>by
        simp only[X];split
        . exact Lh b3
        exact b3
       have b9:∀t,X t=V0↔g=V0:=fun t=>by
        simp only[X];split
        . constructor
          . intro h;exact Ey fun hc=>VU hc h
          intro h;rw[h];rfl
        exact Iff.rfl
       have bf:∀t,t<2->g≠V0->(X t,aH.dot (X t) l[i])∈jM (fun i=>l.getD i V0) i j k:=fun t ht s=>by
        rw[aF];refine⟨s,?_⟩
        match t,ht with
        |0,_=>exact .inl rfl
        |1,_=>exact .inr (by simp only[X,if_true,qN])
       refine cH [3] (fun t vs H'=>H'.get W.next=some (.cells (cS (X t)) false)/\W.next<H'.next/\aY H'/\∃v K',vs=[v]/\HW L H' v K'/\KF l K'/\(∀q∈F,q∈K')/\∀u,u<t->g≠V0->oR (fun i=>l.getD i V0) l.length (X u) (aH.dot (X u) l[i])->(X u,aH.dot (X u) l[i])∈K') 0 2 A1 A1 A1 ?_ ?_ ?_ ?_ ?_
       . exact zq
       . exact⟨y7,yn,yf,R,F,by simp only[sm,zB,seval,Xi],yr,DJ,fun q D=>D,fun u hu=>absurd hu (Am _)⟩
       . rintro t f6 H6 G ht GW e6 ⟨o,I,gf,U,K6,ab,ad,a6,DM,LD⟩;simp only[↓zP,zG,seval,e6];exact tB A0
       . rintro t f6 H6 G ht GW e6 ⟨o,I,gf,U,K6,ab,ad,a6,DM,LD⟩;simp only[zM] at ab;have v0:f6 0=.bK 0 3 (bU l):=(by rw[GW 0 rfl];simp only[zB,seval];exact u0);have v4:f6 4=.int .i64 i:=(by rw[GW 4 rfl];simp only[zB,seval];exact u4);have v7:f6 7=.ref W.next 0:=GW 7 rfl;have ak:=ba t;have aN:=b9 t;have bc:=bf t ht
         have bm:X (t+1)=aH.sub V0 (X t):=by
          match t,ht with
          |0,_=>simp[X,aH.neg,aH.sub,V0]
          |1,_=>simp[X,aH.neg,aH.sub,V0]
         have hd:=rZ ak ni A0
         have bl:∀K':List (aH.V×Int),(∀q∈K6,q∈K')->(g≠V0->oR (fun i=>l.getD i V0) l.length (X t) (aH.dot (X t) l[i])->(X t,aH.dot (X t) l[i])∈K')->∀u,u<t+1->g≠V0->oR (fun i=>l.getD i V0) l.length (X u) (aH.dot (X u) l[i])->(X u,aH.dot (X u) l[i])∈K':=fun K' O Z u hu s hF=>by
          by_cases e:u=t
          . subst e;exact Z s hF
          exact O _ (LD u A0 s hF)
         rw[bm];have ex:=fun H=>YV 0 hl A0 (n:=X t) (d:=aH.dot (X t) l[i]) ak A0 H
         have hF:g≠V0->(GJ l (X t,aH.dot (X t) l[i])=true↔oR (fun i=>l.getD i V0) l.length (X t) (aH.dot (X t) l[i])):=fun s=>by
          rw[Ln];constructor
          . rintro⟨O,Z⟩;exact AU OM TO CD (bc s) O Z
          intro h;exact⟨h.le,h.lt⟩
         have kn:=fun H=>ad.sound (aAg L K6 (by have :=a6.len Q;omega) (X t) H);have b6:=zV (a:=V0) (b:=X t) (A:=0) (B:=B) ⟨by decide,by decide,by decide⟩ ak A0;generalize X t=n at *;generalize mj:aH.dot n l[i]=d at *;refine aM ?_;refine bP ?_;refine Dz ?_;simp only[↓zP,zJ,seval,zD,v0,v4,v7,o,aI,aX,OM,gi,oL (aW l[i]),oL (aW n)];refine gV (hd _) ?_;simp only[↓zP,zJ,seval,zD];refine fQ ?_;refine Wz ?_;refine fQ ?_;simp only[↓zP,zJ,seval,v7,o,oL (aW n),KP];refine bQ ?_;refine aP fun K7 aO=>?_
         have p:∀(f7:dI) (H7:aB) (w':AV) (K':List (aH.V×Int)),f7 3=w'->HW L H7 w' K'->f7 7=.ref W.next 0->H7.get W.next=some (.cells (cS n) false)->W.next<H7.next->aY H7->KF l K'->(∀q∈K6,q∈K')->(g≠V0->oR (fun i=>l.getD i V0) l.length n d->(n,d)∈K')->K7 f7 [] H7:=by
          intro f7 H7 w' K' a3 ar a7 ag an af aK b4 bj;apply aO;clear aO K7;simp only[↓zP,zJ,seval,a7,ag,oL (aW n)];rw[show [AV.int .i64 0,.int .i64 0,.int .i64 0]=cS V0 from rfl];refine eI (b6 _) ?_;simp only[↓zP,zJ,seval,a7,ag,oL (aW n),oL (aW (aH.sub V0 n))]
          refine⟨trivial,an,af.set an _,w',K',by rw[a3],ar.LP A3 (fun k O Z=>by
           rw[aB.aD];split
           . rename_i e;subst e;rw[ag] at Z;cases Z
           exact Z),aK,fun q D=>b4 q (DM q D),bl K' b4 bj⟩
         cases bp:K6.any fun q=>decide (q.1=n) with
         |true=>refine Ty ?_;exact p _ H6 U K6 ZbN ad Za5 o I gf a6 (fun q D=>D) (fun _ ae=>a6.known (q:=(n,d)) bp ae)
         |false=>
          by_cases s:n=V0
          . have d1:=Af s;refine Wz ?_;exact p _ H6 U K6 ZbN ad Za5 o I gf a6 (fun q D=>D) (fun h=>absurd (aN.1 s) h)
          have d1:=Ac s;have SD:g≠V0:=fun h=>s (aN.2 h);simp only[↓zP,zJ,seval,d1,v0,v7,o,oL (aW n)];refine eI (ex _) ?_
          cases Uy:GJ l (n,d) with
          |false=>
           refine Tz ?_
           exact p _ H6 U K6 ZbN ad Za5 o I gf a6 (fun q D=>D) (fun _ ae=>by
            have :=(hF SD).2 ae
            rw[Uy] at this;cases this)
          |true=>
           have ae:=(hF SD).1 Uy;have b7:(n,d)∈S:=(hS.fl.mem (n,d)).2 ae;have b8:=fun H=>Ya 0 hl hM Q (d:=d) ak A0 (hS.po (n,d) b7) H;have bb:=fun H=>ad.sound (ja L K6 (a6.len Q) (n,d) H);refine Tz ?_;refine Dz ?_;simp only[↓zP,zJ,seval,zD,ab,v0,v7,o,oL (aW n)];refine gV (b8 _) ?_;simp only[↓zP,zJ,seval,zD,cS];rw[show [AV.int .i64 n.x,.int .i64 n.y,.int .i64 n.z,.int .i64 d,.bK 0 1 (xV (L (n,d)))]=cX L (n,d) from rfl];refine yG A1 ZaI (bb _) A3 (fun x C m=>?_) ?_
           . have b5:x.2=W.next:=by
              simp only[Ba,Cn,Fg] at C
              rcases C with rfl|rfl<;>rfl
             rw[b5,aB.aJ,if_neg A0]
           refine Wz ?_;exact p _ (H6.alloc .tok) _ (wD (n,d) K6) zq (.inr ⟨fun h=>by have :=QK (n,d) K6;rw[h] at this;simp at this,H6.next,rfl,by simp,by rw[aB.aJ,if_pos rfl]⟩) Za5 (by rw[aB.aJ,if_neg A0];exact o) Zal (gf.alloc _) (a6.ins ae bp) (fun q D=>DP.2 (.inr D)) (fun _ _=>DP.2 (.inl rfl))
       rintro f6 H6 GW ⟨o,I,gf,U,K6,ab,ad,a6,DM,LD⟩;refine Tx ?_;refine⟨gf,U,K6,ab,ad,a6,ay.step DM fun q D hF=>?_⟩;obtain⟨s,h⟩:=(aF q).1 D
       rcases h with rfl|rfl
       . exact LD 0 A1 s hF
       have :=LD 1 A1 s (by simp only[X,if_true,qN];exact hF);simpa only[X,if_true,qN] using this
     rintro f3 W lO ⟨aj,R,F,Xi,aA,DJ,ay⟩;refine Tx ?_;exact⟨aj,R,F,Xi,aA,DJ,ay.kN⟩
   rintro P H2 N ⟨aq,w2,K2,rT,aE,dJ,az⟩;refine Tx ?_;exact⟨aq,w2,K2,rT,aE,dJ,az.jN⟩
 rintro f H1 E ⟨hf,w,K,J,r,hK,hT⟩;simp only[zM] at J;have :K=S:=pS.uniq ⟨hT.all hK.is,hK.SL⟩ hS.fl;subst this;simp only[↓zP,seval,J];refine Rx ?_;exact⟨w,rfl,r⟩
theorem Qz(tag:Nat){l:List aH.V}{M:Nat}(U:∀v∈l,bT M v)(g:M<=2^18)(Q:l.length<=64){S:List (aH.V×Int)}{L:aH.V×Int->List Nat}(w:wB l S L)(H:aB):
 Sg 180 [.bK tag 3 (bU l)] H (.ret (BW L S)) H:=(HW.bEg Zb5 (Nz U g Q w) H).JS tag
theorem YW(tag:Nat){l:List aH.V}{M:Nat}(U:∀v∈l,bT M v)(g:M<=2^18)(Q:l.length<=64){S:List (aH.V×Int)}{L:aH.V×Int->List Nat}(w:wB l S L)(s:S≠[])(H:aB):
 Sg 180 [.bK tag 3 (bU l)] H (.ret (.bK (H.next+2) 5 (S.map (cX L)))) (H.alloc .tok):=by
 refine(ER dZ Zb5 (by simp_all) (dQ (rQ L) S) ?_ H).JS tag;obtain⟨out,H',⟨v,O,Z⟩,c⟩:=Nz U g Q w;refine⟨out,H',⟨v,O,?_⟩,c⟩
 rcases Z with ⟨h,_⟩|⟨_,k,e,B,h4⟩
 . grind
 exact .inr ⟨k,e,B,h4⟩
def yY(x:aH.V):List aH.V->List aH.V
 |[]=>[x]
 |o::r=>if vU x o then x::o::r else if o=x then o::r else o::yY x r
theorem VK{x:aH.V}:∀{S:List aH.V} {i:Nat},(∀s∈S.take i,vU x s=false/\s≠x)->yY x S=S.take i++yY x (S.drop i)
 |[],i,_=>by simp
 |s::r,0,_=>by simp
 |s::r,i+1,h=>by have O:=h s A3;have K:=VK (x:=x) (S:=r) (i:=i) fun y Q=>h y (by grind);rw[yY,O.1,if_neg A1,if_neg O.2,Ft,Gj,Fe,<-K]
theorem Xk(x:aH.V):∀S:List aH.V,(yY x S).length<=S.length+1
 |[]=>Ad _
 |s::r=>by
  have :=Xk x r
  grind[yY]
theorem QL{x y:aH.V}:∀{S:List aH.V},y∈yY x S↔y=x\/y∈S
 |[]=>by simp[yY]
 |s::r=>by
  unfold yY;split
  . simp
  split
  . rename_i h;subst h;simp
  rw[Ba,QL,Ba];exact ZaE
theorem Xl{x:aH.V}:∀{S:List aH.V},S.Pairwise jC->(yY x S).Pairwise jC
 |[],_=>by simp[yY]
 |s::r,h=>by
  have M:=Cj.1 h;unfold yY
  cases J:vU x s with
  |true=>
   have D:=EM.1 J;rw[if_pos rfl,Cj];refine⟨fun y hy=>?_,h⟩
   rcases Ba.1 hy with rfl|hy
   . omega
   exact jC.trans D (M.1 y hy)
  |false=>
   rw[if_neg A1];by_cases z:s=x
   . grind
   rw[if_neg z,Cj]
   have c:jC s x:=by
    rcases jC.total z with h1|h1
    . omega
    rw[EM.2 h1] at J;grind
   refine⟨fun y hy=>?_,Xl M.2⟩
   rcases QL.1 hy with rfl|hy<;>simp_all
theorem aIj{C:List aH.V}(Q:l.length<=64)(hC:Ord l C)(H:aB):
 Sg 179 [.bK 0 3 (bU l)] H (.ret (lT 3 (bU C))) H:=by
 have TR:Nat.blt 0 2=true:=rfl;refine fA fit dZ aSf (Ab rfl) (by simp only[sf,cT TR]) ?_ H;unfold aKt;dsimp only;refine Tz ?_;refine cH [3] (fun i vs H'=>∃v X,vs=[v]/\Own H' 3 v (bU X)/\(X=[]->v=.bG)/\X.Pairwise jC/\(∀y,y∈X↔y∈l.take i)/\X.length<=i) 0 l.length (Bh _) A0 A1 ?_ ?_ ?_ ?_ ?_
 . exact zq
 . exact⟨.bG,[],by simp only[sm,zB,seval],.nil _ _,fun _=>rfl,.nil,fun y=>by simp,Ad _⟩
 . rintro i f H1 G F E e1 ⟨v,X,J,ho,hn,M,t,hl⟩;have f0:f 0=.bK 0 3 (bU l):=E 0 rfl;simp only[↓zP,zG,seval,e1,f0,aX];exact tB A0
 . rintro i f H1 G F E e1 ⟨v,X,J,ho,hn,M,t,hl⟩;simp only[zM] at J;have f0:f 0=.bK 0 3 (bU l):=E 0 rfl;have TK:(bU l).getD i []=cS l[i]:=fT F;have vZ:l.take (i+1)=l.take i++[l[i]]:=by rw[Ao];simp[F]
   rw[vZ];generalize l[i]=x at *;have dx:(cS x).length=3:=rfl;refine aM ?_;refine aP fun K hK=>?_;refine Tz ?_;apply hK;clear hK K;refine aP fun K hK=>?_;refine Tz ?_;apply hK;clear hK K;refine aP fun K hK=>?_;refine Ty ?_
   obtain⟨tg,ay⟩:∃tg,∀j,j<X.length->f 3=.bK tg 3 (bU X):=by
    rcases ho with ⟨_,Z⟩|⟨k,q,_,_⟩
    . exact⟨0,fun j h=>by rw[show X=[] by simpa [bU] using Z] at h;exact absurd h (Am _)⟩
    exact⟨k+2,fun j h=>by rw[J,q]⟩
   have push:∀(c:aB) (w:AV) (Y:List aH.V) (y:aH.V),Own c 3 w (bU Y)->Y.length<2^21->
    ∃H5,fM c 3 24 false w [cS y]=some (.bK (c.next+2) 3 (bU (Y++[y])),H5)/\Own H5 3 (.bK (c.next+2) 3 (bU (Y++[y]))) (bU (Y++[y])):=fun c w Y y ho hY=>by
    obtain⟨H5,n,z,b,z4,z5⟩:=Has.push (.inr ho) (ys:=[cS y]) (bytes:=24) rfl (by simp only[bU,Ah,As,Bo];omega);have e:bU (Y++[y])=bU Y++[cS y]:=(by simp only[bU,Cg,Bw,Er]);exact⟨H5,by rw[n,e],by rw[e];exact .inr ⟨c.next,rfl,by omega,b⟩⟩
   refine cH [5,6] (fun k vs H'=>∃w Y put,vs=[w,.bool put]/\Own H' 3 w (bU Y)/\(Y=[]->w=.bG)/\Y.length<=k+1/\(if put then Y++X.drop k=yY x X/\∀o∈X.drop k,o≠x else Y=X.take k/\∀s∈X.take k,vU x s=false/\s≠x)) 0 X.length (Bh _) A0 A1 ?_ ?_ ?_ ?_ ?_
   . exact zq
   . exact⟨.bG,[],false,by simp only[sm,zB,seval],.nil _ _,fun _=>rfl,by simp,by simp⟩
   . rintro k g H2 XW q P e2 ⟨w,Y,put,L,a,a7,ad,m⟩;have U:g 3=v:=by rw[P 3 rfl];simp only[zB,seval];exact J
     rcases ho with ⟨O,Z⟩|⟨k',O,_,_⟩
     . have az:X=[]:=(by simpa [bU] using Z);subst az;simp only[↓zP,zG,seval,e2,U,O];exact⟨trivial,trivial,Al AV.bool (Bj.2 (by simp at q;simp[q]))⟩
     simp only[↓zP,zG,seval,e2,U,O,aX];exact tB A0
   . rintro k g H2 XW q P e2 ⟨w,Y,put,L,a,a7,ad,m⟩;simp only[zM] at L;have g0:g 0=.bK 0 3 (bU l):=(by rw[P 0 rfl];simp only[zB,seval];exact f0);have R:g 4=.int .i64 i:=(by rw[P 4 rfl];simp only[zB,seval];exact e1);have U:g 3=.bK tg 3 (bU X):=(by rw[P 3 rfl];simp only[zB,seval];exact ay k q);have A:(bU X).getD k []=cS X[k]:=fT q;have dk:(cS X[k]).length=3:=rfl;have ag:(bU X).length=X.length:=aX _;have Mn:(bU l).length=l.length:=aX _;have af:(cS x).take 3=cS x:=rfl;have an:(cS X[k]).take 3=cS X[k]:=rfl;have aA:=Tk x X[k];have aF:X.length<=64:=A0;have W:X.drop k=X[k]::X.drop (k+1):=Gb q;have vZ:X.take (k+1)=X.take k++[X[k]]:=by rw[Ao];simp[q]
     have ak:∀d∈X.drop (k+1),jC X[k] d:=by have :=M.drop (i:=k);rw[W] at this;exact(Cj.1 this).1
     have I:(∀s∈X.take k,vU x s=false/\s≠x)->yY x X=X.take k++yY x (X[k]::X.drop (k+1)):=fun h=>by
      have :=VK h
      rwa [W] at this
     rw[W] at m;rw[vZ];have aK:(X.take k).length<=k:=(by rw[Fb];exact Ik _ _);generalize X[k]=o at *;generalize X.take k=T at *;generalize X.drop (k+1)=D at *;refine aM ?_;refine bP ?_;refine Dz ?_;refine Wy ?_;refine bQ ?_;refine aP fun K1 ae=>?_
     have key:∀(u:dI) (c:aB) (w:AV) (Y:List aH.V) (OX:Bool),u 5=w->u 6=.bool OX->u 0=.bK 0 3 (bU l)->u 3=.bK tg 3 (bU X)->u 4=.int .i64 i->u 7=.int .i64 k->Own c 3 w (bU Y)->(Y=[]->w=.bG)->Y.length<=k+1->
      (if OX then((o≠x/\Y++o::D=yY x X)\/(o=x/\Y++D=yY x X))/\∀d∈D,d≠x else Y=T/\∀s∈T++[o],vU x s=false/\s≠x)->K1 u [] c:=by
      intro u c w Y OX v5 v6 v0 v3 v4 v7 hY aq aE p;apply ae;clear ae K1;refine bP ?_;refine Dz ?_;have := @oU;refine Wy ?_;refine bQ ?_;by_cases a6:o=x
      . cases OX with
        |false=>simp only[Br,Db] at p;exact absurd a6 (p.2 o A3).2
        |true=>
         simp only[if_true] at p;simp only[↓zP,zJ,seval,Af a6];refine⟨w,Y,true,by simp only[seval,v5,v6],hY,aq,by omega,?_⟩;simp only[if_true]
         rcases p.1 with h|h
         . exact absurd a6 h.1
         exact⟨h.2,p.2⟩
      obtain⟨H5,n,z⟩:=push c w Y o hY A0;have :=Ac a6;have :=oL dk;refine Wy ?_;rw[eL];simp only[n,bV,seval];refine⟨_,Y++[o],OX,by simp only[seval,v6],z,fun h=>by simp at h,by simp;omega,?_⟩
      cases OX with
      |true=>
       simp only[if_true] at p ⊢
       rcases p.1 with h|h
       . exact⟨by rw[<-h.2];simp,p.2⟩
       exact absurd h.1 a6
      |false=>simp only[Br,Db] at p ⊢;rw[p.1];exact⟨rfl,p.2⟩
     clear ae;refine aP fun K2 dJ=>?_;refine Dz ?_
     cases put with
     |true=>
      simp only[if_true] at m;simp only[↓zP,zJ,seval,zD,L,pW];apply dJ;clear dJ K2;refine Tz ?_
      exact key _ H2 w Y true (by simp only[zB,seval];exact L.1) (by simp only[zB,seval];exact L.2) Za6 Zbc Zbd Za7 a a7 ad (by
       simp only[if_true]
       exact⟨.inl ⟨m.2 o A3,m.1⟩,fun d hd=>m.2 d (by simp[hd])⟩)
     |false=>
      simp only[Br,Db] at m;obtain⟨ab,iO⟩:=m;have aj:=I iO
      cases hb:vU x o with
      |true=>have r:=EM.1 hb;obtain⟨H5,n,z⟩:=push H2 w Y x a A0;refine Wy ?_;apply dJ;clear dJ K2;have :=oL dx;refine Wy ?_;rw[eL];simp only[n,bV,seval];refine key _ H5 _ (Y++[x]) true zq zq Za6 Zbc Zbd Za7 z (fun h=>by simp at h) (by simp[ab];omega) ?_;simp only[if_true];refine⟨.inl ⟨fun h=>jC.nv _ (h▸r),?_⟩,fun d hd h=>jC.nv _ (h▸jC.trans r (ak d hd))⟩;rw[aj,ab,yY,if_pos hb];simp
      |false=>
       by_cases N:x=o
       . obtain⟨H5,n,z⟩:=push H2 w Y x a A0;simp only[↓zP,zJ,seval,zD,L,g0,U,R,e2,aI,ag,q,A,dk,an,Mn,F,TK,dx,af,oU,Af N];apply dJ;clear dJ K2;simp only[↓zP,zJ,seval,L,g0,R,aI,Mn,F,TK,dx,oL dx];rw[eL];simp only[n,bV,seval];refine key _ H5 _ (Y++[x]) true zq zq Za6 Zbc Zbd Za7 z (fun h=>by simp at h) (by simp[ab];omega) ?_;simp only[if_true];refine⟨.inr ⟨N.symm,?_⟩,fun d hd h=>jC.nv _ (h▸N▸ak d hd)⟩;rw[aj,ab,yY,hb,if_neg A1,if_pos N.symm,N];simp
       simp only[↓zP,zJ,seval,zD,L,g0,U,R,e2,aI,ag,q,A,dk,an,Mn,F,TK,dx,oL dx,oU,Ac N];apply dJ;clear dJ K2;refine Tz ?_;refine key _ H2 w Y false (by simp only[zB,seval];exact L.1) (by simp only[zB,seval];exact L.2) Za6 Zbc Zbd Za7 a a7 ad ?_;simp only[Br,Db];refine⟨ab,fun s DL=>?_⟩
       rcases Ar.1 DL with h|h
       . exact iO s h
       rw[Ca] at h;subst h;exact⟨hb,fun h=>N h.symm⟩
   rintro g H2 P ⟨w,Y,put,L,a,a7,ad,m⟩;simp only[zM] at L;have g0:g 0=.bK 0 3 (bU l):=(by rw[P 0 rfl];simp only[zB,seval];exact f0);have R:g 4=.int .i64 i:=(by rw[P 4 rfl];simp only[zB,seval];exact e1);have Mn:(bU l).length=l.length:=aX _;have af:(cS x).take 3=cS x:=rfl;rw[Jq,Bx,Ap] at m
   have done:∀(c:aB) (w':AV) (Y':List aH.V),Own c 3 w' (bU Y')->(Y'=[]->w'=.bG)->Y'=yY x X->∃v X',[w']=[v]/\Own c 3 v (bU X')/\(X'=[]->v=.bG)/\X'.Pairwise jC/\(∀y,y∈X'↔y∈l.take i++[x])/\X'.length<=i+1:=fun c w' Y' O Z B=>⟨w',Y',rfl,O,Z,B▸Xl M,fun y=>by rw[B,QL,Ar,Ca,t];exact Or.comm,by have :=Xk x X;rw[B];omega⟩
   simp only[iZ];apply hK;clear hK K
   cases put with
   |true=>simp only[if_true] at m;refine Wz ?_;exact done H2 w Y a a7 m.1
   |false=>simp only[Br,Db] at m;obtain⟨H5,n,z⟩:=push H2 w Y x a A0;have :=oL dx;refine Wz ?_;rw[eL];simp only[n,bV,seval];refine done H5 _ _ z (fun h=>by simp at h) ?_;have :=VK (x:=x) (S:=X) (i:=X.length) (by rw[Ap];exact m.2);rw[this,Ap,Jq,m.1];rfl
 rintro f H1 E ⟨v,X,J,ho,hn,M,t,hl⟩;simp only[zM] at J;rw[Ap] at t;have ar:X=C:=Ord.uniq ⟨M,t⟩ hC;subst ar;simp only[↓zP,seval,J];refine Rx ?_;refine⟨v,0,rfl,?_⟩
 rcases ho with ⟨rfl,Z⟩|⟨k,rfl,_,_⟩
 . rw[show X=[] by simpa [bU] using Z];exact fun _=>rfl
 have cU:X≠[]:=fun h=>by cases hn h
 have uD:fK (bU X)=true:=by have :=cT TR X;simpa [AV.free] using this
 have CE:lT 3 (bU X)=.bK 0 3 (bU X):=by simp[lT,bU,cU]
 intro nw;rw[CE];simp[iH,kK,uD,EK]
theorem jf(tag:Nat){l C:List aH.V}(Q:l.length<=64)(u:Ord l C)(H:aB):
 Sg 179 [.bK tag 3 (bU l)] H (.ret (lT 3 (bU C))) H:=(aIj Q u H).JS tag
theorem Yc(H:aB):Sg 179 [.bG] H (.ret .bG) H:=by
 refine So aSf Zad ?_ H;unfold aKt;exact Zak
theorem Ny(H:aB):Sg 180 [.bG] H (.ret .bG) H:=by
 refine So aSg Zad ?_ H;unfold aKu;exact Zak
theorem bCv{C:List aH.V}(Q:l.length<2^30)(u:Ord l C){S:List (aH.V×Int)}{L:aH.V×Int->List Nat}(w:wB C S L)(H:aB):
 Sg 91 [.bK 0 3 (bU l)] H (.ret (.agg [(jO l C S L).1,.int .i64 (jO l C S L).2])) H:=by
 have TR:Nat.blt 0 2=true:=rfl;refine fA fit dZ bLh (Ab rfl) (by simp only[sf,cT TR]) ?_ H;unfold W91;dsimp only;refine bP ?_;refine Tz ?_;refine fQ ?_;simp only[↓zP,zJ,seval,aX];refine⟨fun h=>?_,fun aF=>?_⟩
 . have bj:64<l.length:=by omega
   refine Rx ?_;rw[show jO l C S L=(.bG,2) from if_pos bj];exact Zas
 have bj:¬(64<l.length):=by omega
 refine fQ ?_;refine Tz ?_;refine cH [] (fun i _ H=>(∀v∈l.take i,nr v=true)/\H.get 0=some (.cells [.bG,.int .i64 0] false)/\1<=H.next) 0 l.length (Bh _) A0 A1 ?_ ?_ ?_ ?_ ?_
 . exact zq
 . exact ZbU
 . rintro i f H1 G F E T ⟨y,g0,hn⟩;have A:f 0=.bK 0 3 (bU l):=E 0 rfl;simp only[↓zP,zG,seval,T,A,aX];exact tB A0
 . rintro i f H1 G F E T ⟨y,g0,hn⟩;have A:f 0=.bK 0 3 (bU l):=E 0 rfl;have P:f 2=.ref 0 0:=E 2 rfl;have hg:=cG F;have vC:=Ag F
   have hx:∀v,v∈l.take (i+1)->v∈l.take i\/v=l[i]:=fun v J=>by
    exact Zam
   generalize l[i]=x at *;refine aM ?_;refine bP ?_;refine Tz ?_;refine bQ ?_;refine cH [] (fun j _ H=>(∀c,c<j->¬(x.at c>262144)/\¬(x.at c< -262144))/\H.get 0=some (.cells [.bG,.int .i64 0] false)/\1<=H.next) 0 3 (Bh _) A1 A1 ?_ ?_ ?_ ?_ ?_
   . exact zq
   . exact⟨fun c R=>absurd R (Am _),g0,hn⟩
   . rintro j g H2 XW Y N o hJ;simp only[↓zP,zG,seval,o];exact tB A0
   . rintro j g H2 XW Y N o ⟨R,EZ,LL⟩;have u0:g 0=.bK 0 3 (bU l):=(by rw[N 0 rfl];simp only[zB,seval];exact A);have u2:g 2=.ref 0 0:=(by rw[N 2 rfl];simp only[zB,seval];exact P);have u3:g 3=.int .i64 i:=(by rw[N 3 rfl];simp only[zB,seval];exact T);have IZ:j<=2:=by omega
     have LB:(x.at j>262144\/x.at j< -262144)->l.all nr=false:=fun h=>by rw[<-Fx,Bi];intro ha;have :=ha x vC;simp only[nr,Bi,Bb,Bs] at this;have :=this j Y;omega
     refine aM ?_;have Ut:1<=(List.drop j (cS x)).length:=(by rw[Hi,aW];omega);have ab:(List.drop j (cS x)).getD 0 aC=.int .i64 (x.at j):=(by rw[<-iY x Y];simp[List.getD]);refine aP fun K2 dJ=>?_;by_cases I:x.at j>262144
     . have d1:=Af I;simp only[↓zP,zJ,seval,o,u0,u3,aI,aX,F,hg,Y,Ut,ab,d1];apply dJ;clear dJ K2;refine Wz ?_;refine⟨rfl,_,by simp only[↓zP,zR,seval,u2];rfl,?_⟩;exact Zar
     have d1:=Ac I;by_cases X:x.at j< -262144
     . have d2:=Af X;simp only[↓zP,zJ,seval,o,u0,u3,aI,aX,F,hg,Y,Ut,ab,d1,d2];apply dJ;clear dJ K2;refine Wz ?_;refine⟨rfl,_,by simp only[↓zP,zR,seval,u2];rfl,?_⟩;exact Zar
     have d2:=Ac X;simp only[↓zP,zJ,seval,o,u0,u3,aI,aX,F,hg,Y,Ut,ab,d1,d2];apply dJ;clear dJ K2;refine Tz ?_;refine⟨fun c h=>?_,EZ,LL⟩;by_cases aq:c=j
     . subst aq;exact⟨I,X⟩
     exact R c A0
   rintro P H2 N ⟨R,EZ,LL⟩;refine Tx ?_;refine⟨fun v J=>?_,EZ,LL⟩
   exact ZbE
 rintro f H1 E ⟨y,g0,hn⟩;rw[Ap] at y;have iO:l.all nr=true:=Bi.2 y;have A:f 0=.bK 0 3 (bU l):=E 0 rfl;have a2:f 2=.ref 0 0:=E 2 rfl;refine Tx ?_;refine bQ ?_;have ay:∀v∈C,bT (2^18) v:=fun v J=>QI.1 (y v ((u.mem v).1 J))
 have az:C.length<=64:=by have :=sT C l (Gx (fun {a b} (h:jC a b) (e:a=b)=>jC.nv b Zbk) u.SL) fun v J=>(u.mem v).1 J;omega
 have vY:∀H,Sg 180 [lT 3 (bU C)] H (.ret (BW L S)) H:=fun H=>by
  by_cases R:C=[]
  . subst R
    have ar:S=[]:=Fc.2 fun q D=>by obtain⟨i,j,k,_,_,h,_⟩:=iB ((w.fl.mem q).1 D);exact absurd h (Am _)
    subst ar;exact Ny H
  rw[show lT 3 (bU C)=.bK 0 3 (bU C) from if_neg (by simpa [bU] using R)];exact Qz 0 ay (Ad _) az w H
 have b8:∀H,Sg 179 [.bK 0 3 (bU l)] H (.ret (lT 3 (bU C))) H:=jf 0 A0 u;refine bP ?_;refine Wz ?_;refine fQ ?_;refine Wz ?_;refine bQ ?_;by_cases a6:S=[]
 . have M:jO l C S L=(.bG,120):=(if_neg bj).trans ((if_neg Zbp).trans (if_pos (by rw[a6];decide)));refine aP fun K hK=>?_;rw[show BW L S=.bG by rw[a6];rfl];simp only[↓zP,zJ,seval,a2,g0];refine⟨rfl,_,by simp only[↓zP,zR,seval,a2];rfl,?_⟩;rw[M];exact Zas
 have ae:¬S.length<4:=by have :=w.fl.four (CS u.SL) a6;omega
 have uD:BW L S=.bK 0 5 (S.map (cX L)):=by
  rcases kS L S with ⟨h,_⟩|⟨_,h⟩
  . exact absurd h a6
  exact h
 have aA:bU C≠[]:=fun h=>a6 (Fc.2 fun q D=>by
  obtain⟨i,j,k,_,_,h',_⟩:=iB ((w.fl.mem q).1 D);have :C.length=0:=by rw[<-aX,h];rfl
  omega)
 rw[show lT 3 (bU C)=.bK 0 3 (bU C) from if_neg aA,uD];have Rz:((S.length:Int)==0)=false:=Dc.2 fun h=>a6 (Cl A0);refine bP ?_;simp only[↓zP,zG,seval,Ah,Rz];refine bQ ?_;by_cases KZ:64<S.length
 . have M:jO l C S L=(.bG,2):=(if_neg bj).trans ((if_neg Zbp).trans ((if_neg ae).trans (if_pos KZ)));refine aP fun K hK=>?_;simp only[↓zP,zJ,seval,a2,g0,Ah];refine⟨fun _=>?_,fun h=>absurd KZ A0⟩;refine⟨rfl,_,by simp only[↓zP,zR,seval,a2];rfl,?_⟩;rw[M];exact Zas
 refine bP ?_;simp only[↓zP,zJ,seval,Ah];refine⟨fun h=>absurd h A0,fun _=>?_⟩;refine bQ ?_;have M:jO l C S L=(lT 3 (bU (jB C S L)),0):=(if_neg bj).trans ((if_neg Zbp).trans ((if_neg ae).trans (if_neg KZ)));rw[M];refine bP ?_;refine Ty ?_;refine bQ ?_;refine aP fun K hK=>?_;refine Tz ?_;have yw:¬(0=H1.next):=by omega
 generalize hX:(H1.alloc _).set H1.next _=H4;have y0:H4.get 0=some (.cells [.bG,.int .i64 0] false):=by subst hX;rw[aB.aD,if_neg yw,aB.aJ,if_neg yw];exact g0
 have yb:=Kz hX;have yn:H4.next=H1.next+1:=by subst hX;simp only[aB.bB,aB.bJ]
 clear hX;generalize H1.next=z at *;have ma:(S.map (cX L)).length=S.length:=Ah ..;refine cH [] (fun i _ H'=>H'.get 0=some (.cells [.bG,.int .i64 0] false)/\z<H'.next/\∃v,H'.get z=some (.cells [v,.int .i64 0] false)/\Own H' 3 v (bU (((List.range i).filter (iK S L)).map fun k=>C.getD k V0))/\(((List.range i).filter (iK S L)).map (fun k=>C.getD k V0)=[]->v=.bG)) 0 C.length (Bh _) A0 A1 ?_ ?_ ?_ ?_ ?_
 . exact zq
 . exact⟨y0,by omega,.bG,yb,.nil _ _,fun _=>rfl⟩
 . rintro i P H2 G F N o _;have u5:P 5=.bK 0 3 (bU C):=N 5 rfl;simp only[↓zP,zG,seval,o,u5,aX];exact tB A0
 . rintro i P H2 G F N o ⟨q0,qn,v,qv,qo,qe⟩;have u5:P 5=.bK 0 3 (bU C):=N 5 rfl;have u6:P 6=.bK 0 5 (S.map (cX L)):=N 6 rfl;have u7:P 7=.ref z 0:=N 7 rfl;refine aM ?_;refine bP ?_;refine Tz ?_;refine bQ ?_;refine aP fun K hK=>?_;refine Tz ?_;refine cH [9] (fun k vs H'=>H'=H2/\vs=[.bool ((S.take k).any fun q=>(L q).contains i)]) 0 S.length (Bh _) A0 A1 ?_ ?_ ?_ ?_ ?_
   . exact zq
   . exact ZbS
   . rintro k g H3 G vX n e3 _;have U:g 6=.bK 0 5 (S.map (cX L)):=(by rw[n 6 rfl];simp only[zB,seval];exact u6);simp only[↓zP,zG,seval,e3,U,ma];exact tB A0
   . rintro k g H3 G vX n e3 ⟨rfl,J⟩;simp only[zM] at J;have U:g 6=.bK 0 5 (S.map (cX L)):=(by rw[n 6 rfl];simp only[zB,seval];exact u6);have w8:g 8=.int .i64 i:=(by rw[n 8 rfl];simp only[zB,seval];exact o);have ad:(S.map (cX L)).getD k []=cX L S[k]:=fT vX
     have vZ:((S.take (k+1)).any fun q=>(L q).contains i)=(((S.take k).any fun q=>(L q).contains i)||(L S[k]).contains i):=by rw[Ao,Im];simp[vX]
     have aj:=Ag vX;rw[vZ];generalize S[k]=q at *;generalize ((S.take k).any fun q=>(L q).contains i)=b0 at *
     have aK:(L q).length<2^30:=by obtain⟨s,r,m,e,W,h⟩:=(w.po _ aj).ex;rw[h,Ah,Bt];have O:=W.le;have Z:=Da (fun k=>decide (aH.dot q.1 (C.getD k V0)=q.2)) (List.range C.length);rw[Bt] at Z;have h3:(iF (fun i=>C.getD i V0) C.length q.1 q.2).length<=C.length:=Z;omega
     have d5:(cX L q).length=5:=rfl;have d4:(List.drop 4 (cX L q)).getD 0 aC=.bK 0 1 (xV (L q)):=rfl;have af:1<=(List.drop 4 (cX L q)).length:=Ad _;refine aM ?_;refine bP ?_;refine Tz ?_;refine bQ ?_;refine cH [9] (fun c vs H'=>H'=H3/\vs=[.bool (b0||((L q).take c).contains i)]) 0 (L q).length (Bh _) A0 A1 ?_ ?_ ?_ ?_ ?_
     . exact zq
     . exact⟨rfl,by simp only[sm,zB,seval,J];simp⟩
     . rintro c g2 H4 G R d e4 ⟨rfl,_⟩;have x6:g2 6=.bK 0 5 (S.map (cX L)):=(by rw[d 6 rfl];simp only[zB,seval];exact U);have a7:g2 10=.int .i64 k:=(by rw[d 10 rfl];simp only[zB,seval];exact e3);simp only[↓zP,zG,seval,e4,x6,a7,aI,ma,vX,ad,d4,af,dR];exact tB A0
     . rintro c g2 H4 G R d e4 ⟨rfl,ZI⟩;simp only[zM] at ZI;have x6:g2 6=.bK 0 5 (S.map (cX L)):=(by rw[d 6 rfl];simp only[zB,seval];exact U);have a7:g2 10=.int .i64 k:=(by rw[d 10 rfl];simp only[zB,seval];exact e3);have x8:g2 8=.int .i64 i:=(by rw[d 8 rfl];simp only[zB,seval];exact w8);have an:=oX R
       have ag:((L q).take (c+1)).contains i=(((L q).take c).contains i||(L q)[c]==i):=by
        rw[Eh];simp only[Eb,List.contains_iff_mem,Dr,Ao,Ai R,Option.toList_some,Ar,Ca];constructor
        . rintro(h|h)
          . exact .inl h
          exact .inr h.symm
        rintro(h|h)
        . exact .inl h
        exact .inr h.symm
       rw[ag,<-Bool.or_assoc];generalize (L q)[c]=p at *;generalize (b0||((L q).take c).contains i)=b1 at *;have ak:((p:Int)==(i:Int))=(p==i):=(by rw[Eh,Dr,Dr];omega);refine aM ?_
       cases b1 with
       |true=>simp only[↓zP,zJ,seval,ZI];exact⟨trivial,rfl⟩
       |false=>simp only[↓zP,zJ,seval,ZI,x6,a7,x8,e4,aI,ma,vX,ad,d4,af,dR,R,an,ak];exact⟨trivial,rfl⟩
     rintro g2 H4 d ⟨rfl,ZI⟩;rw[Ap] at ZI;refine Tx ?_;exact⟨trivial,ZI⟩
   rintro g H3 n ⟨rfl,J⟩;rw[Ap] at J;simp only[zM] at J;have hP:(S.any fun q=>(L q).contains i)=iK S L i:=rfl;rw[hP] at J;have w5:g 5=.bK 0 3 (bU C):=Zbf;have w7:g 7=.ref z 0:=(by rw[n 7 rfl];simp only[zB,seval];exact u7);have w8:g 8=.int .i64 i:=(by rw[n 8 rfl];simp only[zB,seval];exact o);have hg:=cG F;have TK:C.getD i V0=C[i]:=by simp[List.getD,F]
   have aE:((List.range (i+1)).filter (iK S L)).map (fun k=>C.getD k V0)=((List.range i).filter (iK S L)).map (fun k=>C.getD k V0)++(if iK S L i then [C[i]] else []):=by
    rw[Dh,Iz,Cg];congr 1;simp only[Jp,Jx];split
    . rw[Bw,TK];rfl
    rfl
   have AE:(((List.range i).filter (iK S L)).map fun k=>C.getD k V0).length<=64:=by rw[Ah];have :=Da (iK S L) (List.range i);rw[Bt] at this;omega
   refine Tx ?_;apply hK;clear hK K;rw[aE];generalize ((List.range i).filter (iK S L)).map (fun k=>C.getD k V0)=els at *;generalize C[i]=x at *
   cases B:iK S L i with
   |false=>rw[B] at J;simp only[↓zP,zJ,seval,J];exact⟨q0,qn,v,qv,qo,qe⟩
   |true=>
    rw[B] at J;refine Wz ?_;obtain⟨H5,z1,z2,z3,z4,z5⟩:=Has.push (.inr qo) (ys:=[cS x]) (bytes:=24) rfl ZbO;refine Dz ?_;have w2:=(z4 z A0 (by rw[qv];simp)).trans qv;simp only[↓zP,zJ,seval,zD,w5,w7,w8,qv,aI,aX,F,hg,oL (aW x)];rw[eL];simp only[z1,bV,zJ,seval,zD,w2];refine⟨by omega,(if_neg A0).trans ((z4 0 A0 (by rw[q0];simp)).trans q0),by omega,_,rfl,?_,fun h=>?_⟩
    . rw[show bU (els++[x])=bU els++[cS x] from by simp[bU]];exact .inr ⟨H3.next,rfl,by simp only[aB.bB];omega,by rw[aB.aD,if_neg A0];exact z3⟩
    simp at h
 rintro P H2 N ⟨q0,qn,v,qv,qo,qe⟩;have u2:P 2=.ref 0 0:=by rw[N 2 rfl];simp only[zB,seval];exact a2
 have u7:P 7=.ref z 0:=N 7 rfl;refine Tx ?_;apply hK;clear hK K;have hL:((List.range C.length).filter (iK S L)).map (fun k=>C.getD k V0)=jB C S L:=rfl;rw[hL] at qo qe;refine Wz ?_;refine⟨rfl,_,by simp only[↓zP,zR,seval,u2];rfl,?_⟩;refine⟨_,2,rfl,fun t=>?_⟩
 exact Zap
theorem aHw(tag:Nat){l C:List aH.V}(Q:l.length<2^30)(u:Ord l C){S:List (aH.V×Int)}{L:aH.V×Int->List Nat}(w:wB C S L)(H:aB):
 Sg 91 [.bK tag 3 (bU l)] H (.ret (.agg [(jO l C S L).1,.int .i64 (jO l C S L).2])) H:=(bCv Q u w H).JS tag
theorem zy(H:aB):Sg 91 [.bG] H (.ret (.agg [.bG,.int .i64 120])) H:=by
 refine So bLh Zad ?_ H;unfold W91;dsimp only;refine bP ?_;simp only[↓zP,zG,Nat.reduceLT];refine fQ ?_;simp only[↓zP,zJ,Nat.reduceLT,Nat.reduceEqDiff,Nat.reduceAdd];refine⟨fun h=>absurd h A1,fun _=>?_⟩;refine bQ ?_;refine aP fun K hK=>?_;simp only[↓zP,zG,Nat.reduceLT];refine cH [] (fun i _ H=>H.get 0=some (.cells [.bG,.int .i64 0] false)) 0 0 (Bh _) A0 A1 ?_ ?_ ?_ ?_ ?_
 . exact ZaW
 . simp only[zI]
 . rintro i f H1 G F E T g0;have A:f 0=.bG:=E 0 rfl;simp only[↓zP,zJ,Nat.reduceLT,Nat.reduceEqDiff,T,A];exact tB A0
 . rintro i f H1 G F E;exact absurd F (Am _)
 rintro f H1 E g0;have A:f 0=.bG:=E 0 rfl;have P:f 2=.ref 0 0:=E 2 rfl;simp only[↓zP];apply hK;clear hK K;refine bP ?_;have :=Yc;refine Wz ?_;refine fQ ?_;have :=Ny;refine Wz ?_;refine bQ ?_;refine aP fun K hK=>?_;refine Wy ?_;refine⟨rfl,_,by simp only[↓zP,zR,Nat.reduceEqDiff,Nat.reduceAdd,P,g0];rfl,?_⟩;rfl
theorem aPw{a b:List aH.V}(I:a.length<2^30)(X:b.length<2^30)(H:aB):
 Sg 92 [.bK 0 3 (bU a),.bK 0 3 (bU b)] H (.ret (.bool (decide (a=b)))) H:=by
 have N:Nat.blt 0 2=true:=rfl;refine So bRm (by simp only[sf,cT N]) ?_ H;unfold W92;dsimp only;refine bP ?_;simp only[↓zP,zG,Nat.reduceLT];refine bQ ?_;refine aP fun K hK=>?_;by_cases U:a.length=b.length
 . have hd:((a.length:Int) != (b.length:Int))=false:=by simp[U]
   simp only[↓zP,zJ,Nat.reduceLT,Nat.reduceEqDiff,aX,hd];apply hK;clear hK K;refine aP fun K hK=>?_;simp only[↓zP,zG,Nat.reduceLT];refine cH [] (fun i _ H=>a.take i=b.take i) 0 a.length (Bh _) A0 A1 ?_ ?_ ?_ ?_ ?_
   . exact ZaW
   . rfl
   . rintro i f H1 G F E T _;have A:f 0=.bK 0 3 (bU a):=E 0 rfl;exact Zb9
   . rintro i f H1 G F E T t;have A:f 0=.bK 0 3 (bU a):=E 0 rfl;have u:f 1=.bK 0 3 (bU b):=E 1 rfl;have c:i<b.length:=A0;have g:=cG F;have e:=cG c;have p:(cS a[i]).take 3=cS a[i]:=rfl;have q:(cS b[i]).take 3=cS b[i]:=rfl;refine aM ?_;refine bP ?_;refine Dz ?_;simp only[↓zP,zJ,Nat.reduceLT,Nat.reduceEqDiff,Nat.reduceAdd,zD,reduceCtorEq,T,A,u,aI,aX,F,c,g,e,oL (aW a[i]),oL (aW b[i]),oU];refine bQ ?_;by_cases z:a[i]=b[i]
     . simp only[↓zP,zJ,Af z];rw[Ao,Ao,t,Ai F,Ai c,z]
     simp only[↓zP,zJ,Nat.reduceLT,Ac z];refine Rx ?_;rw[Ac fun h=>z (by subst h;rfl)];rfl
   rintro f H1 E t;rw[Ap,U,Ap] at t;simp only[↓zP];apply hK;clear hK K;simp only[↓zP,zG,Nat.reduceLT];refine Rx ?_;rw[Af t];rfl
 have hd:((a.length:Int) != (b.length:Int))=true:=Ge.2 A0;simp only[↓zP,zJ,Nat.reduceLT,Nat.reduceEqDiff,aX,hd];refine Rx ?_;rw[Ac fun h=>U (by rw[h])];rfl
theorem aHy(t1 t2:Nat){a b:List aH.V}(I:a.length<2^30)(X:b.length<2^30)(H:aB):
 Sg 92 [.bK t1 3 (bU a),.bK t2 3 (bU b)] H (.ret (.bool (decide (a=b)))) H:=((aPw I X H).JS t1).aQf t2
variable{tag:Nat}
theorem SJ(W:Nat.blt tag 2=true){l C:List aH.V}(Q:l.length<2^30)(u:Ord l C){S:List (aH.V×Int)}{L:aH.V×Int->List Nat}(w:wB C S L)(H:aB):
 Sg 30 [.agg [.bK tag 3 (bU l)]] H (.ret (.int .i64 (Pd l C S L))) H:=by
 refine So bKk Zav ?_ H;unfold W30;dsimp only;have q:=fun H=>aHw tag Q u w H;unfold Pd;have G:=VG (l:=l) (C:=C) (S:=S) (L:=L);generalize jO l C S L=o at *;obtain⟨j,f⟩:=o;dsimp only at q G ⊢;refine bP ?_;simp only[↓zP,zJ,Nat.reduceLT];refine fQ ?_;refine Wz ?_;refine bQ ?_;by_cases R:f=0
 . subst R;obtain⟨c,rfl,g⟩:=G rfl;have s:=QG w c;have p:lT 3 (bU (jB C S L))=.bK 0 3 (bU (jB C S L)):=if_neg (by simpa [bU] using s);rw[p]
   have D:(jB C S L).length<2^30:=by have d:C.length<=l.length:=sT C l (Gx (fun {a b} (h:jC a b) (e:a=b)=>jC.nv b Zbk) u.SL) fun v J=>(u.mem v).1 J;have :=Da (iK S L) (List.range C.length);rw[Bt] at this;simp only[jB,Ah];omega
   have X:((0:Int)==0)=true:=rfl;have i:=fun H=>aHy 0 tag D Q H;refine aP fun K hK=>?_;simp only[↓zP,zJ,Nat.reduceLT,Nat.reduceEqDiff,Nat.reduceAdd,Nat.reduceLeDiff,X];refine eI (i _) ?_;by_cases z:jB C S L=l
   . have hd:=Af z;simp only[↓zP,zJ,Nat.reduceLT,Nat.reduceEqDiff,hd];apply hK;clear hK K;simp only[↓zP,zJ,Nat.reduceLT,Nat.reduceEqDiff,Nat.reduceAdd];refine Rx ?_;rw[if_neg (fun h=>h.2 z)];rfl
   have hd:=Ac z;simp only[↓zP,zJ,Nat.reduceLT,Nat.reduceEqDiff,hd];refine Rx ?_;rw[if_pos ⟨trivial,z⟩];rfl
 have X:(f==0)=false:=Dc.2 R;refine bP ?_;simp only[↓zP,zJ,Nat.reduceLT,Nat.reduceEqDiff,Nat.reduceAdd,X];refine bQ ?_;simp only[↓zP,zJ,Nat.reduceLT,Nat.reduceEqDiff,Nat.reduceAdd];refine Rx ?_;rw[if_neg (fun h=>R h.1)];rfl
theorem RB(H:aB):Sg 30 [.agg [.bG]] H (.ret (.int .i64 120)) H:=by
 refine So bKk Zad ?_ H;unfold W30;dsimp only;refine bP ?_;refine Ty ?_;refine fQ ?_;have :=zy;refine Wz ?_;refine bQ ?_;have X:((120:Int)==0)=false:=by decide
 refine bP ?_;refine Wz ?_;refine bQ ?_;refine Ty ?_;exact ZaB
theorem RA{p:AV×List aH.V}(h:rI p)(Q:p.2.length<2^30)(H:aB):Sg 30 [.agg [p.1]] H (.ret (.int .i64 (qC p.2))) H:=by
 rcases h with ⟨h1,Z⟩|h1
 . rw[h1,Z,Pc];exact RB H
 rw[h1];exact SJ rfl Q (zY _) (mI (zY _).SL) H
theorem gq(tag:Nat){l:List aH.V}{M:Nat}(U:∀v∈l,bT M v)(g:M<=2^18)(Q:l.length<=64){S:List (aH.V×Int)}{L:aH.V×Int->List Nat}(w:wB l S L)(W:Nat.blt tag 2=true)(H:aB):
 Sg 96 [.agg [.bK tag 3 (bU l)]] H (.ret (BW L S)) H:=by
 refine Sp bLi Zav (by simp only[Me]) ?_ H;unfold W96;dsimp only;have u:=fun H=>Qz tag U g Q w H;refine Wz ?_;exact ZaB
theorem YR(tag:Nat){l:List aH.V}{M:Nat}(U:∀v∈l,bT M v)(g:M<=2^18)(Q:l.length<=64){S:List (aH.V×Int)}{L:aH.V×Int->List Nat}(w:wB l S L)(s:S≠[])(W:Nat.blt tag 2=true)(H:aB):
 Sg 96 [.agg [.bK tag 3 (bU l)]] H (.ret (.bK (H.next+2) 5 (S.map (cX L)))) (H.alloc .tok):=by
 refine ER dZ Zav ZbL (dQ (rQ L) S) ?_ H;refine bZ fit bLi (Ab rfl) ?_;unfold W96;dsimp only;have u:=fun H=>YW tag U g Q w s H;refine Wz ?_;refine Rx ?_;exact⟨_,rfl,.inr ⟨_,rfl,by simp,by rw[aB.aJ,if_pos A3]⟩⟩
def IF(z:List Nat)(m a b:Nat):Bool:=(List.range m).any fun i=>(z.getD i 0==a&&z.getD ((i+1)%z.length) 0==b)||(z.getD i 0==b&&z.getD ((i+1)%z.length) 0==a)
def Wh(S:List (aH.V×Int))(L:aH.V×Int->List Nat)(a b:Nat):Bool:=S.any fun q=>IF (L q) (L q).length a b
def JH(S:List (aH.V×Int))(L:aH.V×Int->List Nat)(a j:Nat):List (Int×Int):=((List.range j).filter fun b=>decide (a<b)&&Wh S L a b).map fun b:Nat=>(((a:Nat):Int),((b:Nat):Int))
def Rf(S:List (aH.V×Int))(L:aH.V×Int->List Nat)(N i:Nat):List (Int×Int):=(List.range i).flatMap fun a=>JH S L a N
theorem YO(S:List (aH.V×Int))(L:aH.V×Int->List Nat)(a j:Nat):(JH S L a j).length<=j:=by grind[JH,List.length_map,List.length_range]
theorem qi(S:List (aH.V×Int))(L:aH.V×Int->List Nat)(N i:Nat):(Rf S L N i).length<=i*N:=by
 have :=nT (fun a=>JH S L a N) N (fun a=>YO S L a N) (List.range i)
 rwa [Bt] at this
theorem aHo(S:List (aH.V×Int))(L:aH.V×Int->List Nat)(a:Nat):JH S L a (a+1)=[]:=by
 have :((List.range (a+1)).filter fun b=>decide (a<b)&&Wh S L a b)=[]:=by
  rw[List.filter_eq_nil_iff]
  grind
 simp[JH,this]
theorem bCs{S:List (aH.V×Int)}{a j:Nat}(h:a<j):JH S L a (j+1)=JH S L a j++(if Wh S L a j then [((a:Int),(j:Int))] else []):=by
 simp only[JH];rw[Dh,Iz,Cg,Jp,Jx,Af h,Dm]
 grind
theorem bMx(S:List (aH.V×Int))(L:aH.V×Int->List Nat)(N i:Nat):Rf S L N (i+1)=Rf S L N i++JH S L i N:=by simp[Rf,Dh,Gi]
theorem aYm(z:List Nat)(m a b:Nat):IF z (m+1) a b=(IF z m a b||((z.getD m 0==a&&z.getD ((m+1)%z.length) 0==b)||(z.getD m 0==b&&z.getD ((m+1)%z.length) 0==a))):=by simp[IF,Dh,Im]
theorem zw(ht:Nat.blt tag 2=true){l:List aH.V}{M:Nat}(hl:∀v∈l,bT M v)(g:M<=2^18)(Q:l.length<=64){S:List (aH.V×Int)}{L:aH.V×Int->List Nat}(w:wB l S L)(KZ:S.length<=64)(H:aB):
 Sg 187 [.agg [.bK tag 3 (bU l)]] H (.ret (lT 2 ((Rf S L l.length l.length).map pC))) H:=by
 refine fA fit dZ bHr (Ab rfl) ZbC ?_ H;unfold aVj;dsimp only;have hF:=fun H=>gq tag hl g Q w ht H;have ae:=rz w Q;refine Wz ?_;have eZ:(bU l).length=l.length:=aX _;refine cH [3] (fun i vs H'=>H'.get 0=some (.cells [.bK tag 3 (bU l)] false)/\1<=H'.next/\∃v,vs=[v]/\Own H' 2 v ((Rf S L l.length i).map pC)/\(Rf S L l.length i=[]->v=.bG)) 0 l.length (Bh _) A0 A1 ?_ ?_ ?_ ?_ ?_
 . exact zq
 . exact⟨by simp only[zI,seval],by simp only[zI,seval],.bG,by simp only[sm,zB,seval],.nil _ _,fun _=>rfl⟩
 . rintro i f H1 G F E T ⟨g0,_⟩;have f1:f 1=.ref 0 0:=E 1 rfl;simp only[↓zP,zJ,seval,T,f1,g0,eZ];exact tB A0
 . rintro i f H1 G F E T ⟨g0,gn,v,J,ho,hn⟩;simp only[zM] at J;have f1:f 1=.ref 0 0:=E 1 rfl;have f4:f 4=BW L S:=E 4 rfl;have wi:IntKind.i64.wrap ((i:Int)+1)=((i+1:Nat):Int):=(wrap_i64 A0 A0).trans A0;refine aM ?_;refine Wz ?_;refine cH [3] (fun j vs H'=>H'.get 0=some (.cells [.bK tag 3 (bU l)] false)/\1<=H'.next/\∃v,vs=[v]/\Own H' 2 v ((Rf S L l.length i++JH S L i j).map pC)/\(Rf S L l.length i++JH S L i j=[]->v=.bG)) (i+1) l.length A0 A0 A1 ?_ ?_ ?_ ?_ ?_
   . exact zq
   . exact⟨g0,gn,v,by simp only[sm,zB,seval,J],by rw[aHo,Bx];exact ho,by rw[aHo,Bx];exact hn⟩
   . rintro j P H2 G Y N o ⟨U,_⟩;have u1:P 1=.ref 0 0:=(by rw[N 1 rfl];simp only[zB,seval];exact f1);simp only[↓zP,zJ,seval,o,u1,U,eZ];exact tB A0
   . rintro j P H2 BQ Y N o ⟨U,ad,v2,rT,a,I⟩;simp only[zM] at rT;have u4:P 4=BW L S:=(by rw[N 4 rfl];simp only[zB,seval];exact f4);have u5:P 5=.int .i64 i:=by rw[N 5 rfl];simp only[zB,seval];exact T
     have aj:(Rf S L l.length i++JH S L i j).length<2^20:=by have O:=qi S L l.length i;have Z:=YO S L i j;have h3:i*l.length<=64*64:=Az A0 Q;rw[Aq];omega
     refine aM ?_;refine bP ?_;refine Tz ?_;refine bQ ?_;refine aP fun K hK=>?_;refine Ty ?_;refine cH [7] (fun k vs H'=>H'=H2/\vs=[.bool ((S.take k).any fun q=>IF (L q) (L q).length i j)]) 0 S.length (Bh _) A0 A1 ?_ ?_ ?_ ?_ ?_
     . exact zq
     . exact ZbS
     . rintro k f3 W G vX n e3 _;have w4:f3 4=BW L S:=by rw[n 4 rfl];simp only[zB,seval];exact u4
       rcases kS L S with ⟨h,e⟩|⟨h,e⟩
       . rw[e] at w4;subst h;simp only[↓zP,zG,seval,e3,w4];exact⟨trivial,trivial,Al AV.bool (Bj.2 (by simp at vX;simp[vX]))⟩
       rw[e] at w4;simp only[↓zP,zG,seval,e3,w4,Ah];exact tB A0
     . rintro k f3 W G vX n e3 ⟨rfl,Xi⟩;simp only[zM] at Xi
       have w4:f3 4=.bK 0 5 (S.map (cX L)):=by
        rw[n 4 rfl];simp only[zB,seval];rw[u4]
        rcases kS L S with ⟨h,e⟩|⟨h,e⟩
        . rw[h] at vX;exact absurd vX (Am _)
        exact e
       have m:f3 5=.int .i64 i:=Zbf;have w6:f3 6=.int .i64 j:=(by rw[n 6 rfl];simp only[zB,seval];exact o);have ag:(S.map (cX L)).getD k []=cX L S[k]:=fT vX
       have vZ:((S.take (k+1)).any fun q=>IF (L q) (L q).length i j)=(((S.take k).any fun q=>IF (L q) (L q).length i j)||IF (L S[k]) (L S[k]).length i j):=by rw[Ao,Im];simp[vX]
       have ma:(S.map (cX L)).length=S.length:=Ah ..;have ak:=ae _ (Ag vX);rw[vZ];generalize S[k]=q at *;generalize ((S.take k).any fun q=>IF (L q) (L q).length i j)=b0 at *;have d5:(cX L q).length=5:=rfl;have d4:(List.drop 4 (cX L q)).getD 0 aC=.bK 0 1 (xV (L q)):=rfl;have an:1<=(List.drop 4 (cX L q)).length:=Ad _;refine aM ?_;refine bP ?_;refine Wy ?_;refine fQ ?_;refine Tz ?_;refine bQ ?_;generalize L q=z at *;refine cH [7] (fun c vs H'=>H'=W/\vs=[.bool (b0||IF z c i j)]) 0 z.length (Bh _) A0 A1 ?_ ?_ ?_ ?_ ?_
       . exact zq
       . exact⟨rfl,by simp only[sm,zB,seval,Xi];simp[IF]⟩
       . rintro c f4 H4 G R d b _;have x9:f4 9=.bK 0 1 (xV z):=d 9 rfl;simp only[↓zP,zG,seval,b,x9,dR];exact tB A0
       . rintro c f4 H4 G R d b ⟨rfl,ZI⟩;simp only[zM] at ZI;have x9:f4 9=.bK 0 1 (xV z):=d 9 rfl;have x5:f4 5=.int .i64 i:=(by rw[d 5 rfl];simp only[zB,seval];exact m);have x6:f4 6=.int .i64 j:=(by rw[d 6 rfl];simp only[zB,seval];exact w6);have wj:IntKind.i64.wrap ((c:Int)+1)=((c+1:Nat):Int):=(wrap_i64 A0 A0).trans A0;have nz:¬((z.length:Int)=0):=A0;have t:(c+1)%z.length<z.length:=Bz _ A0;have tm:((c+1:Nat):Int).tmod (z.length:Int)=(((c+1)%z.length:Nat):Int):=rfl;have a6:=oX R;have a7:=oX t;have ab:∀x y:Nat,((x:Int)==(y:Int))=(x==y):=fun x y=>by rw[Eh,Dr,Dr];omega
         rw[aYm,<-Bool.or_assoc];rw[show z.getD c 0=z[c] by simp[List.getD,R],show z.getD ((c+1)%z.length) 0=z[(c+1)%z.length] by simp[List.getD,t]];generalize (b0||IF z c i j)=b1 at *;generalize z[c]=p at *;generalize z[(c+1)%z.length]=p' at *;have hA:=ab p i;have r:=ab p' j;have u:=ab p j;have hD:=ab p' i;generalize (p==i)=A at *;generalize (p'==j)=B at *;generalize (p==j)=C at *;generalize (p'==i)=D at *;refine aM ?_
         cases b1 with
         |true=>simp only[↓zP,zJ,seval,ZI,pW];exact⟨trivial,rfl⟩
         |false=>
          cases A with
          |true=>
           cases B with
           |true=>simp only[↓zP,zJ,seval,ZI,x9,x5,x6,b,aI,dR,R,a6,a7,wj,nz,tm,t,hA,r,pW];exact⟨trivial,rfl⟩
           |false=>
            cases C with
            |true=>simp only[↓zP,zJ,seval,ZI,x9,x5,x6,b,aI,dR,R,a6,a7,wj,nz,tm,t,hA,r,u,hD];exact⟨trivial,rfl⟩
            |false=>simp only[↓zP,zJ,seval,ZI,x9,x5,x6,b,aI,dR,R,a6,a7,wj,nz,tm,t,hA,r,u];exact⟨trivial,rfl⟩
          |false=>
           cases C with
           |true=>simp only[↓zP,zJ,seval,ZI,x9,x5,x6,b,aI,dR,R,a6,a7,wj,nz,tm,t,hA,u,hD];exact⟨trivial,by simp⟩
           |false=>simp only[↓zP,zJ,seval,ZI,x9,x5,x6,b,aI,dR,R,a6,hA,u];exact⟨trivial,rfl⟩
       rintro f4 H4 d ⟨rfl,ZI⟩;refine Tx ?_;exact⟨trivial,ZI⟩
     rintro f3 W n ⟨rfl,Xi⟩;rw[Ap] at Xi;simp only[zM] at Xi;have hP:(S.any fun q=>IF (L q) (L q).length i j)=Wh S L i j:=rfl;rw[hP] at Xi;have m:f3 5=.int .i64 i:=Zbf;have w6:f3 6=.int .i64 j:=(by rw[n 6 rfl];simp only[zB,seval];exact o);have w3:f3 3=v2:=(by rw[n 3 rfl];simp only[zB,seval];exact rT);refine Tx ?_;apply hK;clear hK K;rw[bCs A0,<-Di];generalize Rf S L l.length i++JH S L i j=X at *
     cases hu:Wh S L i j with
     |false=>rw[hu] at Xi;simp only[↓zP,zJ,seval,Xi];exact⟨U,ad,v2,by rw[w3],a,I⟩
     |true=>
      rw[hu] at Xi;obtain⟨H5,z1,z2,z3,z4,z5⟩:=Has.push (.inr a) (ys:=[pC ((i:Int),(j:Int))]) (bytes:=16) rfl (by rw[Ah,As,Bo];omega);have af:[AV.int .i64 (i:Int),.int .i64 (j:Int)]=pC ((i:Int),(j:Int)):=rfl;have := @Qq;refine Wz ?_;rw[eL];simp only[z1,bV,seval];refine⟨(z4 0 A0 (by rw[U];simp)).trans U,by omega,_,rfl,?_,fun h=>?_⟩
      . rw[Cg];exact .inr ⟨W.next,rfl,by omega,z3⟩
      simp at h
   rintro P H2 N ⟨U,ad,v2,rT,a,I⟩;simp only[zM] at rT;refine Tx ?_;rw[bMx];exact⟨U,ad,v2,by rw[rT],a,I⟩
 rintro f H1 E ⟨g0,gn,v,J,ho,hn⟩;simp only[zM] at J;simp only[↓zP,seval,J];refine Rx ?_;refine⟨v,0,rfl,?_⟩
 rcases ho with ⟨rfl,Z⟩|⟨k,rfl,_,_⟩
 . rw[Z];exact fun _=>rfl
 have s:¬(Rf S L l.length l.length).map pC=[]:=fun h=>by cases hn (by simpa using h)
 have uD:fK ((Rf S L l.length l.length).map pC)=true:=dQ Vc _;intro nw;rw[show lT 2 ((Rf S L l.length l.length).map pC)=.bK 0 2 ((Rf S L l.length l.length).map pC) from if_neg s];simp[iH,kK,uD,EK]
end Go.Proofs.YtogfcjbgeebfkaaGreatDoor
