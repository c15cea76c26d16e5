/-
  Part of the proof of statement 10
-/
import Derived.Test.YtndkpgceodimiaaGreatDoorA23
import Derived.Test.YtndkpgceodimiaaGreatDoorA18
import Derived.Test.YtndkpgceodimiaaGreatDoorA24
import Derived.Test.YtndkpgceodimiaaGreatDoorA17
import Derived.Test.YtndkpgceodimiaaGreatDoorA16
import Derived.Test.YtndkpgceodimiaaGreatDoorA06
import Derived.Test.YtndkpgceodimiaaGreatDoorA05
import Derived.Test.YtndkpgceodimiaaGreatDoorA07
import Derived.Test.YtndkpgceodimiaaGreatDoorA21
import Derived.Test.YtndkpgceodimiaaGreatDoorA22
import Derived.Test.YtndkpgceodimiaaGreatDoorA15
import Derived.Test.YtndkpgceodimiaaGreatDoorA19
set_option linter.unusedVariables false
set_option maxRecDepth 100000
set_option maxHeartbeats 16000000
namespace Go.Proofs.YtndkpgceodimiaaGreatDoor
open Go Go.Av Go.aI
attribute [local congr] aV aO aP aL aX aR aQ aH aY
attribute [local irreducible] FC bY eX
theorem Xg (x m:Int) (hm:m.natAbs<2^62) (H:aA):Sg 51 [.int .i64 x,.int .i64 m] H (.ret (.bool (decide (x>m)||decide (x< -m)))) H:=by
 refine So bFq (by simp only[sf]) ?_ H;unfold W51;dsimp only;have wn:IntKind.i64.wrap (0 -m)= -m:=(wrap_i64 (by omega) (by omega)).trans (by omega);refine bQ ?_;simp only[↓zP,zG,seval];refine bR ?_;by_cases h:x>m
 · have hb:=Af h;simp only[↓zP,zJ,seval,hb];refine Rx ?_;rfl
 have hb:=Ae h;simp only[↓zP,zJ,seval,hb,wn];refine Rx ?_;rfl
theorem rz {t1 t2:Nat} (h1:Nat.blt t1 2=true) (h2:Nat.blt t2 2=true) {a b:List aI.V} (ha:a.length<2^30) (hb:b.length<2^30) (H:aA):
 Sg 82 [.aU t1 3 (bS a),.aU t2 3 (bS b)] H (.ret (.bool (decide (a=b)))) H:=by
 refine So bGl (by simp only[sf,cV h1,cV h2]) ?_ H;unfold W82;dsimp only;refine bQ ?_;simp only[↓zP,zG,seval];refine bR ?_;refine aG fun K hK=>?_;by_cases hl:a.length=b.length
 · have hn:((a.length:Int) != (b.length:Int))=false:=by simp[hl]
   simp only[↓zP,zJ,seval,aN,hn];apply hK;clear hK K;refine aG fun K hK=>?_;refine bQ ?_;simp only[↓zP,zJ,seval];refine bR ?_;refine bO [] (fun i vs H=>a.take i=b.take i) a.length (by omega) (by decide) ?_ ?_ ?_ ?_ ?_
   · simp only[zB,seval]
   · simp only[zB,seval,aN]
   · rfl
   · rintro i f H1 hi hk e1 CQ;have hib:i<b.length:=(by omega);have ga:=cF hi;have gb:=cF hib;refine aF ?_;refine bQ ?_;simp only[↓zP,zG,seval,e1];refine fM ?_;refine Dz ?_;simp only[↓zP,zJ,seval,zD,hk 0 rfl,hk 1 rfl,aB,aN,hi,hib,ga,gb,oL (aM a[i]),oL (aM b[i]),nF];refine bR ?_;by_cases he:a[i]=b[i]
     · have fH:(!decide (a[i]=b[i]))=false:=(by simp[he]);simp only[↓zP,zG,seval,fH];rw[Al,Al,CQ,Ab hi,Ab hib,he]
     have fH:(!decide (a[i]=b[i]))=true:=(by simp[he]);simp only[↓zP,zG,seval,fH];refine Rx ?_;rw[Ae]
     · rfl
     rintro rfl;exact he rfl
   rintro f H1 hk CQ;rw[Ao,hl,Ao] at CQ;simp only[↓zP,seval];apply hK;simp only[↓zP,zG,seval];refine Rx ?_;rw[Af CQ];rfl
 have hn:((a.length:Int) != (b.length:Int))=true:=by simp;omega
 simp only[↓zP,zJ,seval,aN,hn];refine Rx ?_;rw[Ae]
 · rfl
 rintro rfl;exact hl rfl
theorem Ov (H:aA):Sg 111 [.aS] H (.ret .aS) H:=by
 refine dL fit eU aJd (Aj rfl) (by simp only[sf]) ?_ H;unfold aCq;dsimp only;refine bQ ?_;simp only[↓zP,zG,seval];refine fM ?_;simp only[↓zP,zJ,seval];refine bR ?_;refine aG fun K hK=>?_;refine bQ ?_;simp only[↓zP,zJ,seval];refine bR ?_;refine bO [] (fun i _ H=>H.get 0=some (.map [])/\1<=H.next) 0 (by decide) (by decide) ?_ ?_ ?_ ?_ ?_
 · simp only[zB,seval]
 · simp only[zB,seval]
 · exact⟨rfl,Ak _⟩
 · rintro i f H hi;exact absurd hi (As _)
 rintro f H hk ⟨hmp,AM⟩;simp only[↓zP,seval];apply hK;clear hK K;refine bQ ?_;simp only[↓zP,zG,seval];refine bR ?_;refine aG fun K hK=>?_;refine bQ ?_;simp only[↓zP,zG,seval,hk 3 rfl];refine LU (by decide) (by simp only[↓zP,seval]) hmp fun bs c mb VE hbn=>?_;simp only[↓zP,seval];refine bR ?_;obtain rfl:bs=[]:=Cw VE;generalize Ny:H.next=it at *;refine aF ?_;refine iG [10] (fun m vs H'=>vs=[.aS]/\H'.get it=some (.iter 0 mb c [])/\H'.get 0=some (.sT [] [] c mb)) 0 (by rfl) ?_ ?_
 · refine⟨by simp only[sm,zB,seval],by simp only[seval,zI,Ny],?_⟩;simp only[seval,zI,Ny];rw[if_neg (by omega)]
 rintro m f2 H2 dP ⟨hv,gi,g0⟩;simp only[zM] at hv;refine bQ ?_;simp only[↓zP,seval];refine NF (by decide) (by simp only[↓zP,seval,dP 73 rfl]) gi g0 (fun bM=>?_) fun j hj hnj=>absurd hj (As _);simp only[↓zP,zG,seval];refine bR ?_;simp only[↓zP,zG,seval];apply hK;clear hK K;simp only[↓zP,zG,seval,hv];refine bW (lP Tryz.aBr rfl TR 167 _) ?_;simp only[↓zP,zG,seval,hv];refine Rx ?_;exact⟨_,0,rfl,fun nw=>rfl⟩
theorem vw (b:Bool) (A B:Prop):jK aD b A B=B:=eB id id
theorem UY (x:Int):uO x 0=vC x:=by unfold uO vC;split<;>(try split)<;>omega
theorem Mw (x:Int):(vC x).natAbs<=1:=by unfold vC;split<;>(try split)<;>decide
theorem ee (n c:aI.V) {i:Nat} (hi:i<3) (h0:∀k,k<i->n.at k=0) (h:n.at i≠0):aI.sD n c=vC (c.at i)*vC (n.at i):=by
 unfold aI.sD
 match i,hi with
 |0,_=>rw[if_pos (show n.x≠0 from h)];rfl
 |1,_=>rw[if_neg (show ¬n.x≠0 from fun e=>e (h0 0 (by decide))),if_pos (show n.y≠0 from h)];rfl
 |2,_=>rw[if_neg (show ¬n.x≠0 from fun e=>e (h0 0 (by decide))),if_neg (show ¬n.y≠0 from fun e=>e (h0 1 (by decide))),if_pos (show n.z≠0 from h)];rfl
theorem SB (n c:aI.V) (h0:∀k,k<3->n.at k=0):aI.sD n c=0:=by unfold aI.sD;rw[if_neg (show ¬n.x≠0 from fun e=>e (h0 0 (by decide))),if_neg (show ¬n.y≠0 from fun e=>e (h0 1 (by decide))),if_neg (show ¬n.z≠0 from fun e=>e (h0 2 (by decide)))]
theorem aHs {a b:aI.V} {A B:Nat} (n:aI.V) (ha:bT A a) (hb:bT B b) (hs:A*B<2^61) (H:aA):
 Sg 171 [.agg (cG n),.agg (cG a),.agg (cG b)] H (.ret (.int .i64 (aI.sD n (aI.aT a b)))) H:=by
 refine So aWu (by simp only[sf,cE]) ?_ H;unfold aMf;dsimp only;refine aG fun K hK=>?_;simp only[↓zP,zG,seval,zI];apply hK;clear hK K;refine aG fun K hK=>?_;simp only[↓zP,zG,seval,zI,oL (aM a),oL (aM b)];refine bW (RK ha hb hs _) ?_;generalize hc:aI.aT a b=c;simp only[↓zP,zG,seval,zI,oL (aM c)];apply hK;clear hK K;refine aG fun K hK=>?_;refine aG fun K2 bK=>?_;simp only[↓zP,zG,seval,zI,oL (aM n)];apply bK;clear bK K2;refine fJ [] (fun i _ H=>(∀k,k<i->n.at k=0)/\H.get 3=some (.cells (cG c) false)) 3 (by decide) rfl (by decide) ?_ ?_ ?_ ?_
 · simp only[zB,seval]
 · refine⟨fun k hk=>absurd hk (As _),?_⟩;simp only[zI,seval]
 · rintro i f H hi hk e1 ⟨h0,g3⟩;refine aF ?_;have Pc:i<=2:=by omega
   have Nx:i+1<=3:=hi;by_cases hz:n.at i=0
   · have hb:(n.at i != 0)=false:=(by simp[hz]);simp only[↓zP,zG,seval,zI,e1,hk 13 rfl,aB,jP n hi,aM,g3,hi,Nx,hb];refine⟨fun k hk=>?_,trivial⟩;by_cases Xt:k=i
     · subst Xt;exact hz
     exact h0 k (by omega)
   have hb:(n.at i != 0)=true:=(by simp[hz]);simp only[↓zP,zG,seval,zI,e1,hk 13 rfl,hk 7 rfl,aB,jP n hi,aM,g3,hi,Nx,jP c hi,hb];refine bW (jF (c.at i) 0 _) ?_;simp only[↓zP,zG,seval];refine bW (jF (n.at i) 0 _) ?_;rw[UY,UY]
   have w:IntKind.i64.wrap (vC (c.at i)*vC (n.at i))=vC (c.at i)*vC (n.at i):=fW (B:=1*1) (by rw[Ga];exact Bq (Mw _) (Mw _)) (by decide)
   simp only[↓zP,zG,seval,w];refine Rx ?_;rw[hc,ee n c hi h0 hz];rfl
 rintro f H hk ⟨h0,g3⟩;simp only[↓zP,seval];apply hK;simp only[↓zP,zG,seval];refine Rx ?_;rw[hc,SB n c h0];rfl
def yE (on:List Nat):List (List AV):=on.map fun(k:Nat)=>[AV.int .i64 (k:Int)]
theorem dO (on:List Nat):(yE on).length=on.length:=by simp[yE]
theorem uA {on:List Nat} {i:Nat} (h:i<on.length):(yE on).getD i []=[AV.int .i64 (on[i]:Int)]:=eR h
def bI:Option Nat->Int
 |none=> -1
 |some k=>k
structure aCn (H H':aA):Prop where
 free:cW H'
 le:H.next<=H'.next
 same:∀j,j<H.next->H'.get j=H.get j
theorem RD {n:aI.V} {p:Nat->aI.V} {a:Nat} {on:List Nat}:∀(l:List Nat) (xO:Option Nat) {b:Nat},l.foldl (gQ n p a) xO=some b->(∀k∈l,k∈on)->(∀c,xO=some c->c∈on)->b∈on
 |[],xO,b,h,_,hb=>hb b h
 |k::l,xO,b,h,hl,hb=>by
  refine RD l _ h (fun x hx=>hl x (Ay _ hx)) fun c hc=>?_;have hk:=hl k Ax;unfold gQ at hc;split at hc
  · exact hb c hc
  split at hc
  · cases hc;exact hk
  split at hc
  · cases hc;exact hk
  cases hc;exact hb _ rfl
theorem zl {n:aI.V} {p:Nat->aI.V} {a:Nat} {on l:List Nat} {b:Nat} (h:l.foldl (gQ n p a) none=some b) (hl:∀k∈l,k∈on):b∈on:=
 RD l none h hl fun c hc=>by cases hc
theorem cc {tag t1:Nat} {o1 o2 o3:Bool} {l:List aI.V} {M:Nat} (hl:∀v∈l,bT M v) (hM:M<=2^18) (hlen:l.length<=64) {on:List Nat} (Wj:∀k∈on,k<l.length) (hol:on.length<=64) {a:Nat} (ha:a<l.length) (q:aI.V×Int)
 {H:aA} (hf:cW H) {i1 i2 i3:Nat} (b1:i1<H.next) (b2:i2<H.next) (b3:i3<H.next) (g1:H.get i1=some (.cells [.aU t1 1 (yE on)] o1)) (g2:H.get i2=some (.cells [.aU tag 3 (bS l)] o2)) (g3:H.get i3=some (.cells (lF q) o3)):
 ∃H',aCn H H'/\Sg 169 [.int .i64 a,.ref i1 0,.ref i2 0,.ref i3 0] H (.ret (.int .i64 (bI (Ls q.1 (fun i=>l.getD i V0) on a)))) H':=by
 suffices h:∃out H',(out=.ret (.int .i64 (bI (Ls q.1 (fun i=>l.getD i V0) on a)))/\aCn H H')/\Sg 169 [.int .i64 a,.ref i1 0,.ref i2 0,.ref i3 0] H out H' by obtain⟨_,H',⟨rfl,hm⟩,hS⟩:=h;exact⟨H',hm,hS⟩
 refine eD fit aWs (Aj rfl) ?_;unfold aMd;dsimp only;have cT:∀k (h:k<l.length),l.getD k V0=l[k]:=fun k h=>by simp[List.getD,h]
 refine aG fun K hK=>?_;simp only[↓zP,zG,seval];apply hK;clear hK K;refine aG fun K hK=>?_;simp only[↓zP,zG,seval];apply hK;clear hK K;refine aG fun K hK=>?_;refine aG fun K2 bK=>?_;simp only[↓zP,zG,seval,zI,g1];apply bK;clear bK K2;refine bO [6] (fun i vs H'=>vs=[.int .i64 (bI ((on.take i).foldl (gQ q.1 (fun i=>l.getD i V0) a) none))]/\aCn H H') on.length (by omega) (by decide) ?_ ?_ ?_ ?_ ?_
 · simp only[zB,seval]
 · simp only[zB,seval,dO]
 · exact⟨by simp only[sm,zB,seval];rfl,hf,Ak _,fun j hj=>rfl⟩
 · rintro i f H1 hi hk e1 ⟨hv,hm⟩;simp only[zM] at hv
   have fL:(on.take (i+1)).foldl (gQ q.1 (fun i=>l.getD i V0) a) none=gQ q.1 (fun i=>l.getD i V0) a ((on.take i).foldl (gQ q.1 (fun i=>l.getD i V0) a) none) on[i]:=by rw[Al,Gz];simp[hi]
   have aTu:∀b,(on.take i).foldl (gQ q.1 (fun i=>l.getD i V0) a) none=some b->b<l.length:=fun b hb=>Wj b (zl hb (fun k hk=>By hk));have hg:=uA hi;have xW:=Wj _ (Ac hi);generalize on[i]=k at *;generalize (on.take i).foldl (gQ q.1 (fun i=>l.getD i V0) a) none=xO at *;refine aF ?_;refine aG fun K2 bK=>?_;simp only[↓zP,zG,seval,zI,e1,hk 12 rfl,aB,dO,hi,hg];apply bK;clear bK K2;refine aG fun K2 bK=>?_;simp only[↓zP,zG,seval,zI,hk 0 rfl];rw[fL];by_cases Lo:k=a
   · have hb:((k:Int)==(a:Int))=true:=(by simp[Lo]);have hn:gQ q.1 (fun i=>l.getD i V0) a xO k=xO:=if_pos Lo;simp only[zG,seval,hb,hn,hv];exact⟨trivial,hm⟩
   have hb:((k:Int)==(a:Int))=false:=(by simp;omega);simp only[zG,seval,hb];apply bK;clear bK K2;refine aG fun K2 bK=>?_
   cases xO with
   |none=>have hn:gQ q.1 (fun i=>l.getD i V0) a none k=some k:=if_neg Lo;have hd:decide (bI none<0)=true:=rfl;simp only[↓zP,zG,seval,hv,hd];rw[fL,hn];exact⟨by simp only[sm,zB,seval];rfl,hm⟩
   |some b=>
    have hn:gQ q.1 (fun i=>l.getD i V0) a (some b) k=if better q.1 (fun i=>l.getD i V0) a b k then some k else some b:=if_neg Lo
    have hd:decide (bI (some b)<0)=false:=Ae (show ¬((b:Int)<0) by omega);have VE:=aTu b rfl;have hbv:bI (some b)=(b:Int):=rfl;simp only[↓zP,zG,seval,hv,hd];apply bK;clear bK K2;have gk:=cF xW;have gb:=cF VE;have ga:=cF ha;refine aG fun K2 bK=>?_;refine lN 2 (by decide) hm.free.at2 fun H2 n2 e2=>?_;have h2:=(e2 i2).trans ((hm.same _ b2).trans g2);have h3:=(e2 i3).trans ((hm.same _ b3).trans g3);simp only[↓zP,zG,seval,zD,zI,hk 2 rfl,hk 0 rfl,hbv,h2,aB,aN,xW,ha,gk,ga,oL (aM l[k]),oL (aM l[a])];have nk:=hl _ (Ac xW);have nb:=hl _ (Ac VE);have na:=hl _ (Ac ha);have vk:aI.sub l[k] l[a]=vec (fun i=>l.getD i V0) a k:=(by simp only[vec,cT k xW,cT a ha]);have vb:aI.sub l[b] l[a]=vec (fun i=>l.getD i V0) a b:=(by simp only[vec,cT b VE,cT a ha]);have nvk:=fV nk na;have nvb:=fV nb na;rw[vk] at nvk;rw[vb] at nvb;refine eE (JV nk na (by omega) _) ?_;rw[vk];simp only[↓zP,zG,seval,zD,zI,hk 2 rfl,hk 0 rfl,hv,hbv,h2,aB,aN,ha,VE,gb,ga,oL (aM l[a]),oL (aM l[b])];refine eE (JV nb na (by omega) _) ?_;rw[vb];have qd:better q.1 (fun i=>l.getD i V0) a b k=(decide (aI.sD q.1 (aI.aT (vec (fun i=>l.getD i V0) a b) (vec (fun i=>l.getD i V0) a k))<0)||(decide (aI.sD q.1 (aI.aT (vec (fun i=>l.getD i V0) a b) (vec (fun i=>l.getD i V0) a k))=0)&&decide (aI.dot (vec (fun i=>l.getD i V0) a k) (vec (fun i=>l.getD i V0) a k)>aI.dot (vec (fun i=>l.getD i V0) a b) (vec (fun i=>l.getD i V0) a b)))):=rfl;generalize vec (fun i=>l.getD i V0) a k=to at *;generalize vec (fun i=>l.getD i V0) a b=wy at *;have hx1:¬(H1.next=H1.next+1):=(by omega);have hx2:¬(H1.next+1=H1.next):=(by omega);simp only[↓zP,zG,seval,zD,zI,oL (aM to),oL (aM wy),hx1,hx2,n2];apply bK;clear bK K2;generalize hX:(((H2.set H1.next _).set (H1.next+1) _).set H1.next _).set (H1.next+1) _=H3;have u1:H3.get H1.next=some (.cells (cG to) false):=(by subst hX;simp only[zI,seval,hx1]);have u2:H3.get (H1.next+1)=some (.cells (cG wy) false):=by subst hX;simp only[zI,seval]
    have hm3:aCn H H3:=by
     have AM:H3.next=H1.next+2:=(by subst hX;simp only[aA.aW,n2]);refine⟨fun j hj=>?_,by have :=hm.le;omega,fun j hj=>?_⟩
     · have :=hm.free j (by omega);subst hX;rw[aA.aC,if_neg (by omega),aA.aC,if_neg (by omega),aA.aC,if_neg (by omega),aA.aC,if_neg (by omega),e2];exact this
     have hle:=hm.le;have :=hm.same j hj;subst hX;rw[aA.aC,if_neg (by omega),aA.aC,if_neg (by omega),aA.aC,if_neg (by omega),aA.aC,if_neg (by omega),e2];exact this
    have u3:=(hm3.same _ b3).trans g3;generalize H1.next=r at *;clear hX h2 h3 e2 n2;have pl3:(lF q).take 3=cG q.1:=rfl;have pl4:(lF q).length=4:=rfl;have hB:(M+M)*(M+M)<=2^19*2^19:=Bq (by omega) (by omega);refine aG fun K2 bK=>?_;simp only[↓zP,zG,seval,zI,hk 3 rfl,u1,u2,u3,pl3,pl4,oL (aM to),oL (aM wy)];refine bW (aHs q.1 nvb nvk (by omega) _) ?_;generalize aI.sD q.1 (aI.aT wy to)=tn at *;simp only[↓zP,zG,seval];apply bK;clear bK K2;refine aG fun K2 bK=>?_;refine Dz ?_;by_cases c1:tn<0
    · have d1:=Af c1;simp only[↓zP,zG,seval,zD,zI,d1,vw];apply bK;clear bK K2;simp only[↓zP,zG,seval,zI];rw[fL,hn,if_pos (by rw[qd,d1];rfl)];exact⟨rfl,hm3⟩
    have d1:=Ae c1;by_cases c2:tn=0
    · have d2:(tn==0)=true:=Da.2 c2;simp only[↓zP,zG,seval,zD,zI,d1,d2,u1,oL (aM to)];refine eE (IB nvk nvk (by omega) _) ?_;simp only[↓zP,zG,seval,zD,zI,u2,oL (aM wy)];refine eE (IB nvb nvb (by omega) _) ?_;simp only[↓zP,zG,seval,zD,zI];apply bK;clear bK K2;have d3:decide (tn=0)=true:=Af c2;by_cases c3:aI.dot wy wy<aI.dot to to
      · have d4:decide (aI.dot to to>aI.dot wy wy)=true:=Af c3;simp only[↓zP,zG,seval,zI,d4];rw[fL,hn,if_pos (by rw[qd,d1,d3,d4];rfl)];exact⟨rfl,hm3⟩
      have d4:decide (aI.dot to to>aI.dot wy wy)=false:=Ae c3;simp only[↓zP,zG,seval,zI,d4,hv];rw[fL,hn,if_neg (by rw[qd,d1,d3,d4];decide)];exact⟨rfl,hm3⟩
    have d2:(tn==0)=false:=Ce.2 c2;have d3:decide (tn=0)=false:=Ae c2;simp only[↓zP,zG,seval,zD,zI,d1,d2];apply bK;clear bK K2;simp only[↓zP,zG,seval,zI,hv];rw[fL,hn,if_neg (by rw[qd,d1,d3];simp)];exact⟨rfl,hm3⟩
 rintro f H1 hk ⟨hv,hm⟩;simp only[zM] at hv;rw[Ao] at hv;simp only[↓zP,seval];apply hK;simp only[↓zP,zG,seval,hv];refine Rx ?_;exact⟨rfl,hm⟩
theorem SF {n:aI.V} {p:Nat->aI.V} {on:List Nat} {s m:Nat} (h:aI.Way n p on s m (uR n p on)) (i:Nat):Ls n p on (iter (uR n p on) i s)=some (iter (uR n p on) (i+1) s):=by obtain⟨ho,hS⟩:=h.side i;obtain⟨b,hb,_⟩:=Vh h.H ho (hS.crn h.H ho) ⟨_,hS.1,hS.2.1⟩;show _=some ((aI.Ls n p on _).getD 0);rw[hb];rfl
theorem aHz {n:aI.V} {p:Nat->aI.V} {on:List Nat} {s m:Nat} (h:aI.Way n p on s m (uR n p on)):2<=m:=by
 rcases Gd 1 m with h1|h1
 · exact h1
 have hm:m=1:=by have :=h.pos;omega
 have hb:=h.back;rw[hm] at hb;exact absurd hb (h.side 0).2.2.1
theorem JG {H H':aA} {sz:Nat} {v:AV} {els:List (List AV)} (h:Own H sz v els) (hn:H.next<=H'.next) (hk:∀k,k<H.next->H.get k=some .tok->H'.get k=some .tok):Own H' sz v els:=by
 rcases h with ⟨rfl,rfl⟩|⟨k,rfl,h1,h2⟩
 · exact .inl ⟨rfl,rfl⟩
 exact .inr ⟨k,rfl,by omega,hk k h1 h2⟩
theorem Of (a b:List Nat):yE (a++b)=yE a++yE b:=by simp[yE]
theorem EU (a:List Nat):dM (yE a)=true:=dW (fun _=>by simp only[sf]) a
theorem Ow {tag:Nat} (ht:Nat.blt tag 2=true) {l:List aI.V} {M:Nat} (hl:∀v∈l,bT M v) (hM:M<=2^18) (hlen:l.length<=64) {q:aI.V×Int} {B:Nat} (hq:bT B q.1) (hB:3*(B*M)<2^62)
 {L:List Nat} (hP:Poly (fun i=>l.getD i V0) l.length q.1 q.2 L) (H:aA):
 Sg 112 [.aU tag 3 (bS l),.agg (lF q)] H (.ret (.aU 0 1 (yE L))) H:=by
 refine dL fit eU aVc (Aj rfl) (by simp only[sf,cV ht,BD]) ?_ H;obtain⟨s0,r,m,Wj,W,rfl⟩:=hP.ex;unfold aKr;dsimp only;have cT:∀k (h:k<l.length),l.getD k V0=l[k]:=fun k h=>by simp[List.getD,h]
 have p4:(lF q).length=4:=rfl;have p3:(lF q).take 3=cG q.1:=rfl;have p1:(lF q).getD 3 aD=.int .i64 q.2:=rfl;refine bQ ?_;simp only[↓zP,zJ,seval];refine fM ?_;simp only[↓zP,zJ,seval];refine bR ?_;refine aG fun K hK=>?_;refine bQ ?_;simp only[↓zP,zJ,seval];refine bR ?_;generalize VK:kA (fun i=>l.getD i V0) l.length q.1 q.2=on at *;have h0:cW (((aA.mk 0 .nil |>.alloc (.cells [.aU tag 3 (bS l)] false)).alloc (.cells (lF q) false)).alloc (.cells [.aS] false)):=(((cW.nil 0).alloc _).alloc _).alloc _;refine bO [] (fun i vs H'=>∃v,H'.get 2=some (.cells [v] false)/\Own H' 1 v (yE ((List.range i).filter fun k=>decide (aI.dot q.1 (l.getD k V0)=q.2)))/\H'.get 0=some (.cells [.aU tag 3 (bS l)] false)/\H'.get 1=some (.cells (lF q) false)/\3<=H'.next/\cW H') l.length (by omega) (by decide) ?_ ?_ ?_ ?_ ?_
 · simp only[zB,seval]
 · simp only[zB,seval,aN]
 · exact⟨.aS,by simp only[zI,seval],.nil _ _,by simp only[zI,seval],by simp only[zI,seval],by simp only[zI,seval],h0⟩
 · rintro i f H1 hi hk e1 ⟨v,g2,ho,g0,g1,hn,hf⟩;have hg:=cF hi;have MM:=cT i hi;have hx:=hl _ (Ac hi)
   have xf:(List.range (i+1)).filter (fun k=>decide (aI.dot q.1 (l.getD k V0)=q.2))=(List.range i).filter (fun k=>decide (aI.dot q.1 (l.getD k V0)=q.2))++(if aI.dot q.1 l[i]=q.2 then [i] else []):=by rw[Ew,Je];congr 1;simp only[Jk,Ju,MM,Bg]
   have vN:((List.range i).filter fun k=>decide (aI.dot q.1 (l.getD k V0)=q.2)).length<=64:=by have :=De (fun k=>decide (aI.dot q.1 (l.getD k V0)=q.2)) (List.range i);rw[Bp] at this;omega
   rw[xf];generalize (List.range i).filter (fun k=>decide (aI.dot q.1 (l.getD k V0)=q.2))=on0 at *;generalize l[i]=x at *;have nx1:¬(1=H1.next):=(by omega);have qy:¬(2=H1.next):=(by omega);have Wr:¬(0=H1.next):=(by omega);refine aF ?_;refine bQ ?_;simp only[↓zP,zJ,seval,e1,hk 11 rfl,aB,aN,hi,hg,oL (aM x)];refine fM ?_;refine Dz ?_;simp only[↓zP,zJ,seval,zD,hk 3 rfl,nx1,g1,p4,p3,oL (aM x)];refine eE (IB hq hx hB _) ?_;simp only[↓zP,zJ,seval,zD,hk 3 rfl,nx1,g1,p4,p1];refine bR ?_;generalize hX:(H1.alloc _).set H1.next _=H4;have y0:H4.get 0=some (.cells [.aU tag 3 (bS l)] false):=(by subst hX;rw[aA.aC,if_neg Wr,aA.aJ,if_neg Wr];exact g0);have y1:H4.get 1=some (.cells (lF q) false):=(by subst hX;rw[aA.aC,if_neg nx1,aA.aJ,if_neg nx1];exact g1);have y2:H4.get 2=some (.cells [v] false):=(by subst hX;rw[aA.aC,if_neg qy,aA.aJ,if_neg qy];exact g2);have yn:3<=H4.next:=(by subst hX;simp only[aA.aW,aA.aZ];omega);have yf:cW H4:=by subst hX;exact(hf.alloc _).set (by simp) _
   have yo:Own H4 1 v (yE on0):=by refine JG ho (by subst hX;simp only[aA.aW,aA.aZ];omega) fun k h1 h2=>?_;subst hX;rw[aA.aC,if_neg (by omega),aA.aJ,if_neg (by omega)];exact h2
   by_cases hc:aI.dot q.1 x=q.2
   · have hb:(aI.dot q.1 x==q.2)=true:=Da.2 hc;obtain⟨H5,z1,z2,z3,z4,z5⟩:=Has.push (.inr yo) (ys:=[[AV.int .i64 (i:Int)]]) (bytes:=8) rfl (by simp only[dO,Aq,Bj];omega);simp only[↓zP,zJ,seval,hb,hk 5 rfl,y2];rw[show cQ H4 1 (.aU 1 1 [[.int .i64 (i:Int)]])=some [[.int .i64 (i:Int)]] from rfl];have w2:=(z4 2 (by omega) (by rw[y2];simp)).trans y2;simp only[z1,bZ,zJ,seval,w2];rw[if_pos hc,Of];exact⟨_,rfl,.inr ⟨H4.next,rfl,by simp only[aA.aW];omega,by rw[aA.aC,if_neg (by omega)];exact z3⟩,(z4 0 (by omega) (by rw[y0];simp)).trans y0,(z4 1 (by omega) (by rw[y1];simp)).trans y1,by omega,(z5 yf).set (by omega) _⟩
   have hb:(aI.dot q.1 x==q.2)=false:=Ce.2 hc;simp only[↓zP,zG,seval,hb];rw[if_neg hc,Cd];exact⟨v,y2,yo,y0,y1,yn,yf⟩
 rintro f H1 hk ⟨v,g2,ho,g0,g1,hn,hf⟩;have e0:(List.range l.length).filter (fun k=>decide (aI.dot q.1 (l.getD k V0)=q.2))=on:=VK;rw[e0] at ho;simp only[↓zP,seval];apply hK;clear hK K;have cK:yE on≠[]:=by rw[Wj];simp[yE]
 rcases ho with ⟨_,h⟩|⟨tk,rfl,ht1,ht2⟩
 · exact absurd h cK
 have aIw:on.length<=64:=by have :=De (fun k=>decide (aI.dot q.1 (l.getD k V0)=q.2)) (List.range l.length);rw[e0,Bp] at this;omega
 have eZ:∀k∈on,k<l.length:=fun k hk=>by rw[<-VK] at hk;exact(dK.1 hk).1
 have xi:(yE on).getD 0 []=[AV.int .i64 (s0:Int)]:=by rw[Wj];rfl
 have a0:asNat (.int .i64 0)=some 0:=rfl;have MO:0<(yE on).length:=by rw[Wj];simp[yE]
 have nx:∀j,j<3->¬(j=H1.next):=fun j hj=>by omega
 have hs0:=eZ _ W.hs;refine bQ ?_;simp only[↓zP,zJ,seval,hk 5 rfl,hk 2 rfl,hk 3 rfl];refine fM ?_;simp only[↓zP,zJ,seval,hk 5 rfl,g2,MO,xi,a0];refine bR ?_;obtain⟨H2,hm,hS⟩:=cc (tag:=tag) hl hM hlen eZ aIw hs0 q hf (i1:=2) (i2:=0) (i3:=1) (by omega) (by omega) (by omega) g2 g0 g1;have e0':=SF W 0;change aI.Ls _ _ _ s0=_ at e0';rw[e0'] at hS;refine aG fun K hK=>?_;refine bQ ?_;simp only[↓zP,zJ,seval,hk 5 rfl,g2,MO,xi,a0];refine EB (fs:=[]) (cs:=[.ref 2 0,.ref 0 0,.ref 1 0]) (by decide) (by simp only[↓zP,zG,seval]) (by simp only[sm,zB,seval];rfl) hS ?_;simp only[↓zP,zG,seval];refine bR ?_;refine aF ?_
 refine iG [9,10] (fun M' vs H'=>∃i,i<m/\M'=m -i/\∃v,vs=[v,.int .i64 (iter (uR q.1 (fun i=>l.getD i V0) on) (i+1) s0:Nat)]/\Has H' 1 v (yE ((List.range (i+1)).map fun i=>iter (uR q.1 (fun i=>l.getD i V0) on) i s0))/\(0<i->v≠ .aU 1 1 (yE ((List.range (i+1)).map fun i=>iter (uR q.1 (fun i=>l.getD i V0) on) i s0)))/\
  H'.get 2=some (.cells [.aU (tk+2) 1 (yE on)] false)/\H'.get 0=some (.cells [.aU tag 3 (bS l)] false)/\H'.get 1=some (.cells (lF q) false)/\3<=H'.next/\cW H') m (by rfl) ?_ ?_
 · refine⟨0,W.pos,rfl,_,by simp only[sm,zB,seval];rfl,.inl rfl,fun h=>absurd h (Ff 0),(hm.same 2 (by omega)).trans g2,(hm.same 0 (by omega)).trans g0,(hm.same 1 (by omega)).trans g1,by have :=hm.le;omega,hm.free⟩
 clear hS hm H2 g2 g0 g1 hf hn ht1 ht2;rintro M' f2 H2 dP ⟨i,hi,rfl,v,hv,ho,xq,g2,g0,g1,hn,hf⟩;simp only[zM] at hv;obtain⟨v9,v10⟩:=hv;refine aG fun K2 bK=>?_;refine bQ ?_;simp only[↓zP,zJ,seval,dP 5 rfl,hk 5 rfl,g2,MO,xi,a0,v10];refine bR ?_;by_cases zA:i+1=m
 · have hb:((iter (uR q.1 (fun i=>l.getD i V0) on) (i+1) s0:Int) != (s0:Int))=false:=by rw[zA,W.back];simp
   have h2:=aHz W;simp only[↓zP,zG,seval,hb];apply hK;clear hK K bK K2;simp only[↓zP,zG,seval,v9];refine Rx ?_;rw[<-zA];exact⟨v,0,rfl,fun nw=>ho.shut (by simp[yE]) (xq (by omega)) (EU _) nw⟩
 have hb:((iter (uR q.1 (fun i=>l.getD i V0) on) (i+1) s0:Int) != (s0:Int))=true:=by have :=W.first (i+1) (by omega) (by omega);simp only[Dc,ne_eq];omega
 simp only[↓zP,zG,seval,hb];apply bK;clear bK K2;obtain⟨ho1,hS1⟩:=W.side (i+1);have MN:=eZ _ ho1;have hnp:=SF W (i+1);have bId:=W.le;have aUh:((List.range (i+1)).map fun i=>iter (uR q.1 (fun i=>l.getD i V0) on) i s0).length=i+1:=by simp
 have hrs:(List.range (i+1+1)).map (fun i=>iter (uR q.1 (fun i=>l.getD i V0) on) i s0)=(List.range (i+1)).map (fun i=>iter (uR q.1 (fun i=>l.getD i V0) on) i s0)++[iter (uR q.1 (fun i=>l.getD i V0) on) (i+1) s0]:=by rw[Ew (n:=i+1),Cf];rfl
 obtain⟨H5,z1,z2,z3,z4,z5⟩:=ho.push (ys:=[[AV.int .i64 (iter (uR q.1 (fun i=>l.getD i V0) on) (i+1) s0:Nat)]]) (bytes:=8) rfl (by rw[dO,aUh,Aq,Bj];omega);have w2:=(z4 2 (by omega) (by rw[g2];simp)).trans g2;have w0:=(z4 0 (by omega) (by rw[g0];simp)).trans g0;have w1:=(z4 1 (by omega) (by rw[g1];simp)).trans g1;obtain⟨H6,hm,hS⟩:=cc (tag:=tag) hl hM hlen eZ aIw MN q (z5 hf) (i1:=2) (i2:=0) (i3:=1) (by omega) (by omega) (by omega) w2 w0 w1;rw[hnp] at hS;refine bQ ?_;refine aF ?_;simp only[↓zP,zJ,seval,v9,v10];rw[show ∀x:AV,cQ H2 1 (.aU 1 1 [[x]])=some [[x]] from fun _=>rfl];simp only[z1,bZ,seval];refine bR ?_;simp only[↓zP,zJ,seval,dP 8 rfl,v10];refine EB (fs:=[]) (cs:=[.ref 2 0,.ref 0 0,.ref 1 0]) (by decide) (by rfl) (by rfl) hS ?_;simp only[↓zP,zG,seval];refine⟨m -(i+1),by omega,i+1,by omega,rfl,.aU (H2.next+2) 1 _,rfl,?_,fun _ h=>by injection h with h;omega,(hm.same 2 (by omega)).trans w2,(hm.same 0 (by omega)).trans w0,(hm.same 1 (by omega)).trans w1,by have :=hm.le;omega,hm.free⟩;rw[hrs,Of];exact .inr (.inr ⟨H2.next,rfl,by have :=hm.le;omega,(hm.same _ (by omega)).trans z3⟩)
def cU (L:aI.V×Int->List Nat) (q:aI.V×Int):List AV:=[.int .i64 q.1.x,.int .i64 q.1.y,.int .i64 q.1.z,.int .i64 q.2,.aU 0 1 (yE (L q))]
theorem qE (L:aI.V×Int->List Nat) (q:aI.V×Int):bL (cU L q)=true:=by simp only[cU,bL,AV.free,EU,Cr];rfl
structure wD (l:List aI.V) (S:List (aI.V×Int)) (L:aI.V×Int->List Nat):Prop where
 fl:oV (fun i=>l.getD i V0) l.length S
 po:∀q∈S,Poly (fun i=>l.getD i V0) l.length q.1 q.2 (L q)
theorem qF {l:List aI.V} {M:Nat} (hl:∀v∈l,bT M v) {q:aI.V×Int} (h:pP (fun i=>l.getD i V0) l.length q.1 q.2):bT (2*((M+M)*(M+M))) q.1:=by
 obtain⟨i,j,k,h1,h2,h3,hc⟩:=gC h
 have hn:∀k,k<l.length->bT M (l.getD k V0):=fun k hk=>by
  have :l.getD k V0=l[k]:=by simp[List.getD,hk]
  rw[this];exact hl _ (Ac hk)
 have key:bT (2*((M+M)*(M+M))) (fB (fun i=>l.getD i V0) i j k).1:=
  tG (kK (fV (hn j (by omega)) (hn i (by omega))) (fV (hn k (by omega)) (hn i (by omega))))
 unfold iS at hc;split at hc
 · cases hc
 simp only[Ap,Br,Dq] at hc
 rcases hc with e|e
 · have e1:q.1=(fB (fun i=>l.getD i V0) i j k).1:=Bc Prod.fst e;rw[e1];exact key
 have e1:q.1=aI.neg (fB (fun i=>l.getD i V0) i j k).1:=Bc Prod.fst e;rw[e1];exact JB key
theorem UN {p:Nat->aI.V} {N:Nat} {S:List (aI.V×Int)} (h:oV p N S):S.Nodup:=Ha (fun {a b} (h:iI a.1 b.1) (e:a=b)=>iI.km b.1 (by rw[e] at h;exact h)) h.Rw
theorem KF {tag:Nat} (ht:Nat.blt tag 2=true) {l:List aI.V} {M:Nat} (hl:∀v∈l,bT M v) (hM:M<=2^18) (hlen:l.length<=64) {S:List (aI.V×Int)} {L:aI.V×Int->List Nat} (hS:wD l S L) (cK:S≠[]) (H:aA):
 Sg 114 [.agg [.aU tag 3 (bS l)]] H (.ret (.aU (H.next+2) 5 (S.map (cU L)))) (H.alloc .tok):=by
 refine mI eU (by simp only[sf,cV ht]) (by simpa using cK) (dW (qE L) S) ?_ H;refine eD fit aVe (Aj rfl) ?_;unfold aKt;dsimp only;refine bQ ?_;simp only[↓zP,zJ,seval];refine fM ?_;simp only[↓zP,zG,seval];refine bR ?_
 have Zq:S.length<=2^20:=by have h1:=BW (N:=l.length) (p:=fun i=>l.getD i V0) (UN hS.fl) (fun q hq=>(hS.fl.mem q).1 hq);have h2:l.length*(l.length*(l.length*2))<=64*(64*(64*2)):=Bq hlen (Bq hlen (Bq hlen (Ak _)));omega
 have tV:kC 4 (S.map lF)=.aU 0 4 (S.map lF):=if_neg (by simpa using cK);have qQ:=Ri ht hl hM hlen hS.fl;rw[tV] at qQ;refine aG fun K hK=>?_;refine bQ ?_;simp only[↓zP,zJ,seval];refine bW (qQ _) ?_;simp only[↓zP,zG,seval];refine bR ?_;refine bO [3] (fun i vs H'=>∃v,vs=[v]/\Own H' 5 v ((S.take i).map (cU L))/\H'.get 0=some (.cells [.aU tag 3 (bS l)] false)/\1<=H'.next) S.length (by omega) (by decide) ?_ ?_ ?_ ?_ ?_
 · simp only[zB,seval]
 · simp only[zB,seval,Ai]
 · exact⟨.aS,by simp only[sm,zB,seval],.nil _ _,by simp only[zI,seval],by simp only[zI,seval]⟩
 · rintro i f H1 hi hk e1 ⟨v,hv,ho,g0,hn⟩;simp only[zM] at hv;have hg:(S.map lF).getD i []=lF S[i]:=eR hi;have hqS:=Ac hi;have hq:=qF hl ((hS.fl.mem _).1 hqS);have ki:=hS.po _ hqS
   have nM:(S.take (i+1)).map (cU L)=(S.take i).map (cU L)++[cU L S[i]]:=by rw[Al,Cf];simp[hi]
   rw[nM];have MR:((S.take i).map (cU L)).length=i:=(by simp;omega);generalize S[i]=q at *;have hMM:(M+M)*(M+M)<=2^19*2^19:=Bq (by omega) (by omega);have aTs:2*((M+M)*(M+M))*M<=2^39*2^18:=Bq (by omega) (by omega);have p4:(lF q).length=4:=rfl;have p3:(lF q).take 3=cG q.1:=rfl;have p1:(lF q).getD 3 aD=.int .i64 q.2:=rfl;have Wr:¬(0=H1.next):=(by omega);have hpg:=Ow ht hl hM hlen hq (by omega) ki;have ho':=ho;refine aF ?_;refine bQ ?_;simp only[↓zP,zJ,seval,e1,hk 8 rfl,aB,Ai,hi,hg,oL p4];refine bR ?_;generalize hX:(H1.alloc _).set H1.next _=H4;have u0:H4.get 0=some (.cells [.aU tag 3 (bS l)] false):=(by subst hX;rw[aA.aC,if_neg Wr,aA.aJ,if_neg Wr];exact g0);have u1:H4.get H1.next=some (.cells (lF q) false):=(by subst hX;rw[aA.aC,if_pos rfl]);have un:H4.next=H1.next+1:=by subst hX;simp only[aA.aW,aA.aZ]
   have uo:Own H4 5 v ((S.take i).map (cU L)):=by refine JG ho (by omega) fun k h1 h2=>?_;subst hX;rw[aA.aC,if_neg (by omega),aA.aJ,if_neg (by omega)];exact h2
   clear hX;obtain⟨H5,z1,z2,z3,z4,z5⟩:=Has.push (.inr uo) (ys:=[cU L q]) (bytes:=56) rfl (by rw[MR,Aq,Bj];omega);generalize H1.next=r1 at *;refine Dz ?_;simp only[↓zP,zJ,seval,zD,hk 1 rfl,hv,u0,u1,p4,p3,p1,oL p4];refine eE (hpg _) ?_;have bDa:[AV.int .i64 q.1.x,.int .i64 q.1.y,.int .i64 q.1.z,.int .i64 q.2,.aU 0 1 (yE (L q))]=cU L q:=rfl;have vN:(cU L q).length=5:=rfl;simp only[↓zP,zJ,seval,zD,u0,u1,cG,bDa,vN];rw[show ∀x:List AV,cQ H4 5 (.aU 1 5 [x])=some [x] from fun _=>rfl];simp only[z1,bZ,seval];exact⟨by omega,_,rfl,.inr ⟨H4.next,rfl,by omega,z3⟩,(z4 0 (by omega) (by rw[u0];simp)).trans u0,by omega⟩
 rintro f H1 hk ⟨v,hv,ho,g0,hn⟩;simp only[zM] at hv;rw[Ao] at ho;simp only[↓zP,seval];apply hK;simp only[↓zP,zG,seval,hv];refine Rx ?_;exact⟨v,rfl,ho⟩
def aw (v:aI.V):Bool:=(List.range 3).all fun i=>decide (¬(v.at i>262144)/\¬(v.at i< -262144))
theorem OG {v:aI.V}:aw v=true↔bT (2^18) v:=by
 unfold aw bT;simp only[Aw,Ba,Bg];constructor
 · intro h;have h0:=h 0 (by decide);have h1:=h 1 (by decide);have h2:=h 2 (by decide);simp only[V.at] at h0 h1 h2;omega
 intro h i hi
 match i,hi with
 |0,_=>simp only[V.at];omega
 |1,_=>simp only[V.at];omega
 |2,_=>simp only[V.at];omega
def mk (n:Nat) (P:Nat->Bool):List AV:=(List.range n).map fun k=>AV.bool (P k)
theorem Oa (n:Nat) (P:Nat->Bool):(mk n P).length=n:=by simp[mk]
theorem aSb {n:Nat} (P:Nat->Bool) {k:Nat} (h:k<n):(mk n P).getD k aD=.bool (P k):=by simp[mk,List.getD,h]
theorem aSc {n:Nat} (P:Nat->Bool) {p:Nat} (h:p<n):(mk n P).take p++[AV.bool true]++(mk n P).drop (p+1)=mk n (fun k=>P k||k==p):=by
 refine Gj (by simp[mk];omega) fun k h1 h2=>?_;rw[Oa] at h2;simp only[Di,List.getElem_append,Cq,Oa,Aq,Bj];by_cases hk:k<p
 · rw[dif_pos (by omega)];simp[mk];omega
 rw[dif_neg (by omega)];by_cases dP:k=p
 · subst dP;rw[dif_pos (by omega)];simp[mk]
 rw[dif_neg (by omega)];simp only[mk,List.getElem_drop,Ch,Ht];have :p+1+(k -min p n -(0+1))=k:=by omega
 rw[this];simp[dP]
def gL (S:List (aI.V×Int)) (L:aI.V×Int->List Nat) (k:Nat):Bool:=S.any fun q=>(L q).contains k
def gY (C:List aI.V) (S:List (aI.V×Int)) (L:aI.V×Int->List Nat):List aI.V:=((List.range C.length).filter (gL S L)).map fun k=>C.getD k V0
def iT (l C:List aI.V) (S:List (aI.V×Int)) (L:aI.V×Int->List Nat):AV×Int:=
 if 64<l.length then(.aS,2) else if l.all aw=false then(.aS,1) else if S.length<4 then(.aS,120) else if 64<S.length then(.aS,2) else(kC 3 (bS (gY C S L)),0)
theorem aCm {tag:Nat} (ht:Nat.blt tag 2=true) {l C:List aI.V} (hlen:l.length<2^30) (hC:Ord l C) {S:List (aI.V×Int)} {L:aI.V×Int->List Nat} (hS:wD C S L) (H:aA):
 Sg 81 [.aU tag 3 (bS l)] H (.ret (.jR [.agg [(iT l C S L).1],.int .i64 (iT l C S L).2])) H:=by
 refine dL fit eU bAx (Aj rfl) (by simp only[sf,cV ht]) ?_ H;unfold W81;dsimp only;refine bQ ?_;simp only[↓zP,zG,seval];refine bR ?_;refine aG fun K hK=>?_;simp only[↓zP,zJ,seval,aN];refine⟨fun h=>?_,fun hle=>?_⟩
 · have Nr:64<l.length:=by omega
   refine Rx ?_;rw[show iT l C S L=(.aS,2) from if_pos Nr];exact⟨_,2,rfl,fun nw=>rfl⟩
 have Nr:¬(64<l.length):=by omega
 apply hK;clear hK K;refine aG fun K hK=>?_;refine bQ ?_;simp only[↓zP,zJ,seval];refine bR ?_;refine bO [] (fun i _ H=>(∀v∈l.take i,aw v=true)/\H.get 0=some (.cells [.aS] false)/\1<=H.next) l.length (by omega) (by decide) ?_ ?_ ?_ ?_ ?_
 · simp only[zB,seval]
 · simp only[zB,seval,aN]
 · exact⟨fun v hv=>by simp at hv,by simp only[zI,seval],by simp only[zI,seval]⟩
 · rintro i f H1 hi hk e1 ⟨gG,g0,hn⟩;have hg:=cF hi;have vO:=Ac hi
   have hx:∀v,v∈l.take (i+1)->v∈l.take i\/v=l[i]:=fun v hv=>by
    rw[Al,An] at hv
    rcases hv with h|h
    · exact .inl h
    simp[hi] at h;exact .inr h
   generalize l[i]=x at *;have nx:¬(0=H1.next):=(by omega);refine aF ?_;refine bQ ?_;simp only[↓zP,zJ,seval,e1,hk 22 rfl,aB,aN,hi,hg,oL (aM x)];refine fM ?_;simp only[↓zP,zJ,seval,oL (aM x)];refine bR ?_;refine fJ [] (fun j _ H=>(∀c,c<j->¬(x.at c>262144)/\¬(x.at c< -262144))/\H.get 0=some (.cells [.aS] false)/\1<=H.next) 3 (by decide) rfl (by decide) ?_ ?_ ?_ ?_
   · simp only[zB,seval]
   · refine⟨fun c hc=>absurd hc (As _),?_,?_⟩
     · rw[aA.aC,if_neg nx,aA.aJ,if_neg nx];exact g0
     simp only[aA.aW,aA.aZ];omega
   · rintro j f2 H2 hj dP e2 ⟨hc,EV,JZ⟩;have Mj:j<=2:=by omega
     have EX:(x.at j>262144\/x.at j< -262144)->l.all aw=false:=fun h=>by rw[<-Fe,Aw];intro ha;have :=ha x vO;simp only[aw,Aw,Ba,Bg] at this;have :=this j hj;omega
     refine aF ?_;by_cases c1:x.at j>262144
     · have d1:=Af c1;simp only[↓zP,zJ,seval,e2,dP 28 rfl,aB,jP x hj,aM,hj,Mj,d1,dP 2 rfl,hk 2 rfl,EV];refine⟨rfl,_,by simp only[↓zP,zR,seval,dP 2 rfl,hk 2 rfl];rfl,?_⟩;rw[show iT l C S L=(.aS,1) from (if_neg Nr).trans (if_pos (EX (by omega)))];exact⟨_,2,rfl,fun nw=>rfl⟩
     have d1:=Ae c1;by_cases c2:x.at j< -262144
     · have d2:=Af c2;simp only[↓zP,zJ,seval,e2,dP 28 rfl,aB,jP x hj,aM,hj,Mj,d1,d2,dP 2 rfl,hk 2 rfl,EV];refine⟨rfl,_,by simp only[↓zP,zR,seval,dP 2 rfl,hk 2 rfl];rfl,?_⟩;rw[show iT l C S L=(.aS,1) from (if_neg Nr).trans (if_pos (EX (by omega)))];exact⟨_,2,rfl,fun nw=>rfl⟩
     have d2:=Ae c2;simp only[↓zP,zJ,seval,e2,dP 28 rfl,aB,jP x hj,aM,hj,Mj,d1,d2];refine⟨fun c h=>?_,EV,JZ⟩;by_cases hcj:c=j
     · subst hcj;exact⟨c1,c2⟩
     exact hc c (by omega)
   rintro f2 H2 dP ⟨hc,EV,JZ⟩;simp only[↓zP,seval];refine⟨fun v hv=>?_,EV,JZ⟩
   rcases hx v hv with h|rfl
   · exact gG v h
   simp only[aw,Aw,Ba,Bg];exact fun c h=>hc c h
 rintro f H1 hk ⟨gG,g0,hn⟩;rw[Ao] at gG;have bM:l.all aw=true:=Aw.2 gG;simp only[↓zP,seval];apply hK;clear hK K;have hNr:∀v∈C,bT (2^18) v:=fun v hv=>OG.1 (gG v ((hC.mem v).1 hv))
 have hCl:C.length<=64:=by have :=tY C l (Ha (fun {a b} (h:iI a b) (e:a=b)=>iI.km b (by rw[e] at h;exact h)) hC.Rw) fun v hv=>(hC.mem v).1 hv;omega
 have qQ:∀H,Sg 111 [kC 3 (bS C)] H (.ret (kC 4 (S.map lF))) H:=fun H=>by
  by_cases hc:C=[]
  · subst hc
    have wg:S=[]:=Fb.2 fun q hq=>by obtain⟨i,j,k,_,_,h,_⟩:=gC ((hS.fl.mem q).1 hq);exact absurd h (As _)
    subst wg;exact Ov H
  rw[show kC 3 (bS C)=.aU 0 3 (bS C) from if_neg (by simpa [bS] using hc)];exact Ri (by decide) hNr (Ak _) hCl hS.fl H
 have RO:∀H,Sg 110 [.aU tag 3 (bS l)] H (.ret (kC 3 (bS C))) H:=ot ht (by omega) hC;refine bQ ?_;simp only[↓zP,zJ,seval,hk 0 rfl];refine bW (RO _) ?_;simp only[↓zP,zG,seval];refine fM ?_;simp only[↓zP,zG,seval];refine bW (qQ _) ?_;simp only[↓zP,zG,seval];refine bR ?_;by_cases hS4:S.length<4
 · have hO:iT l C S L=(.aS,120):=(if_neg Nr).trans ((if_neg (by rw[bM];decide)).trans (if_pos hS4));by_cases qc:S=[]
   · subst qc;rw[show kC 4 (List.map lF [])=.aS from rfl];refine aG fun K hK=>?_;simp only[↓zP,zJ,seval,hk 2 rfl,g0];refine⟨fun _=>?_,fun h=>absurd (show((0:Int)<4) by decide) (by simp at h)⟩;refine⟨rfl,_,by simp only[↓zP,zR,seval,hk 2 rfl];rfl,?_⟩;rw[hO];exact⟨_,2,rfl,fun nw=>rfl⟩
   rw[show kC 4 (S.map lF)=.aU 0 4 (S.map lF) from if_neg (by simpa using qc)];refine aG fun K hK=>?_;simp only[↓zP,zJ,seval,hk 2 rfl,g0,Ai];refine⟨fun _=>?_,fun h=>absurd hS4 (by omega)⟩;refine⟨rfl,_,by simp only[↓zP,zR,seval,hk 2 rfl];rfl,?_⟩;rw[hO];exact⟨_,2,rfl,fun nw=>rfl⟩
 have qc:S≠[]:=fun h=>hS4 (by rw[h];decide);rw[show kC 4 (S.map lF)=.aU 0 4 (S.map lF) from if_neg (by simpa using qc)]
 have hCe:bS C≠[]:=fun h=>qc (Fb.2 fun q hq=>by
  obtain⟨i,j,k,_,_,h',_⟩:=gC ((hS.fl.mem q).1 hq);have :C.length=0:=by rw[<-aN,h];rfl
  omega)
 rw[show kC 3 (bS C)=.aU 0 3 (bS C) from if_neg hCe];refine bQ ?_;simp only[↓zP,zJ,seval,Ai];refine⟨fun h=>absurd h (by omega),fun _=>?_⟩;refine bR ?_;by_cases HW:64<S.length
 · have hO:iT l C S L=(.aS,2):=(if_neg Nr).trans ((if_neg (by rw[bM];decide)).trans ((if_neg hS4).trans (if_pos HW)));refine aG fun K hK=>?_;simp only[↓zP,zJ,seval,hk 2 rfl,g0,Ai];refine⟨fun _=>?_,fun h=>absurd HW (by omega)⟩;refine⟨rfl,_,by simp only[↓zP,zR,seval,hk 2 rfl];rfl,?_⟩;rw[hO];exact⟨_,2,rfl,fun nw=>rfl⟩
 refine bQ ?_;simp only[↓zP,zJ,seval,Ai];refine⟨fun h=>absurd h (by omega),fun _=>?_⟩;refine bR ?_;have hO:iT l C S L=(kC 3 (bS (gY C S L)),0):=(if_neg Nr).trans ((if_neg (by rw[bM];decide)).trans ((if_neg hS4).trans (if_neg HW)));rw[hO]
 have bEg:(List.replicate C.length [AV.bool false]).flatten=mk C.length (fun _=>false):=by
  have :∀n:Nat,(List.replicate n [AV.bool false]).flatten=List.replicate n (AV.bool false):=fun n=>by
   induction n with
   |zero=>rfl
   |succ n ih=>rw[Dy,Bx,ih];rfl
  rw[this];exact Gj (by simp[mk]) fun k h1 h2=>by simp[mk]
 have h40:C.length<=2^40:=by omega
 refine bQ ?_;simp only[↓zP,zJ,seval,aN,aB,h40,bEg];refine bR ?_;have Wr:¬(0=H1.next):=by omega
 refine aG fun K hK=>?_;refine bQ ?_;simp only[↓zP,zG,seval,Ai];refine bR ?_;generalize aRi:H1.next=sid at *;refine bO [] (fun i _ H'=>H'.get 0=some (.cells [.aS] false)/\H'.get sid=some (.cells (mk C.length (fun k=>(S.take i).any fun q=>(L q).contains k)) false)/\sid<H'.next) S.length (by omega) (by decide) ?_ ?_ ?_ ?_ ?_
 · simp only[zB,seval]
 · simp only[zB,seval]
 · refine⟨by rw[aA.aJ,aRi,if_neg Wr];exact g0,by rw[aA.aJ,aRi,if_pos rfl];rfl,by rw[aA.aZ,aRi];omega⟩
 · rintro i f2 H2 hi dP e2 ⟨m0,ms,KA⟩;have hg:(S.map lF).getD i []=lF S[i]:=eR hi;have hqS:=Ac hi;have hq:=qF hNr ((hS.fl.mem _).1 hqS);have ki:=hS.po _ hqS
   have nM:∀k,((S.take (i+1)).any fun q=>(L q).contains k)=(((S.take i).any fun q=>(L q).contains k)||(L S[i]).contains k):=fun k=>by rw[Al,Ix];simp[hi]
   simp only[nM];generalize S[i]=q at *;have p4:(lF q).length=4:=rfl;have hpg:=Ow (tag:=0) (by decide) hNr (Ak _) hCl hq (by decide) ki;have hLl:∀k∈L q,k<C.length:=fun k hk=>(dK.1 (ki.aSa hk)).1
   have bHr:(L q).length<2^30:=by obtain⟨s,r,m,e,W,h⟩:=ki.ex;rw[h,Ai,Bp];have h1:=W.le;have h2:=De (fun k=>decide (aI.dot q.1 (C.getD k V0)=q.2)) (List.range C.length);rw[Bp] at h2;have h3:(kA (fun i=>C.getD i V0) C.length q.1 q.2).length<=C.length:=h2;omega
   refine aF ?_;refine bQ ?_;simp only[↓zP,zJ,seval,e2,dP 56 rfl,aB,Ai,hi,hg,oL p4];refine fM ?_;simp only[↓zP,zJ,seval,dP 8 rfl,oL p4];refine bW (hpg _) ?_;simp only[↓zP,zG,seval,dO];refine bR ?_;have qy:¬(0=H2.next):=(by omega);have nxs:¬(sid=H2.next):=(by omega);refine bO [] (fun j _ H'=>H'.get 0=some (.cells [.aS] false)/\H'.get sid=some (.cells (mk C.length (fun k=>((S.take i).any fun q=>(L q).contains k)||((L q).take j).contains k)) false)/\sid<H'.next) (L q).length (by omega) (by decide) ?_ ?_ ?_ ?_ ?_
   · simp only[zB,seval]
   · simp only[zB,seval]
   · refine⟨by rw[aA.aC,if_neg qy,aA.aJ,if_neg qy];exact m0,?_,by simp only[aA.aW,aA.aZ];omega⟩;rw[aA.aC,if_neg nxs,aA.aJ,if_neg nxs,ms];simp
   · rintro j f3 H3 hj mB e3 ⟨m0',ms',ai⟩;have hgp:=uA hj;have qQ:=hLl _ (Ac hj)
     have htj:∀k,((L q).take (j+1)).contains k=(((L q).take j).contains k||k==(L q)[j]):=fun k=>by rw[Cg];simp only[Dp,List.contains_iff_mem,Da,Al,Ab hj,Fv,An,Bn]
     simp only[htj];generalize (L q)[j]=p at *;have bEc:p+1<=C.length:=qQ;have MP:=aSc (fun k=>((S.take i).any fun q=>(L q).contains k)||((L q).take j).contains k) qQ;refine aF ?_;simp only[↓zP,zJ,seval,e3,mB 64 rfl,mB 10 rfl,dP 10 rfl,aB,dO,hj,hgp,qQ,bEc,ms',Oa];refine⟨(if_neg (by omega)).trans m0',?_,ai⟩;rw[MP];simp only[Bool.or_assoc]
   rintro f3 H3 mB ⟨m0',ms',ai⟩;rw[Ao] at ms';simp only[↓zP,seval];exact⟨m0',ms',ai⟩
 rintro f2 H2 dP ⟨m0,ms,KA⟩;rw[Ao] at ms;simp only[↓zP,seval];apply hK;clear hK K;have hP:∀k,(S.any fun q=>(L q).contains k)=gL S L k:=fun k=>rfl;simp only[hP] at ms;refine bQ ?_;simp only[↓zP,zG,seval];refine bR ?_;refine aG fun K hK=>?_;refine bQ ?_;simp only[↓zP,zG,seval,dP 8 rfl,aN];refine bR ?_;have z0:¬(0=H2.next):=by omega
 have zs:¬(sid=H2.next):=by omega
 generalize ho:H2.next=ob at *;refine bO [] (fun i _ H'=>H'.get 0=some (.cells [.aS] false)/\H'.get sid=some (.cells (mk C.length (gL S L)) false)/\ob<H'.next/\∃v,H'.get ob=some (.cells [v] false)/\Own H' 3 v (bS (((List.range i).filter (gL S L)).map fun k=>C.getD k V0))/\(((List.range i).filter (gL S L)).map (fun k=>C.getD k V0)=[]->v=.aS)) C.length (by omega) (by decide) ?_ ?_ ?_ ?_ ?_
 · simp only[zB,seval]
 · simp only[zB,seval]
 · refine⟨by rw[aA.aJ,ho,if_neg z0];exact m0,by rw[aA.aJ,ho,if_neg zs];exact ms,by rw[aA.aZ,ho];omega,.aS,by rw[aA.aJ,ho,if_pos rfl],.nil _ _,fun _=>rfl⟩
 · rintro i f3 H3 hi mB e3 ⟨q0,qs,qn,v,qv,qo,qe⟩;have hg:=cF hi;have MM:C.getD i V0=C[i]:=by simp[List.getD,hi]
   have xf:((List.range (i+1)).filter (gL S L)).map (fun k=>C.getD k V0)=((List.range i).filter (gL S L)).map (fun k=>C.getD k V0)++(if gL S L i then [C[i]] else []):=by
    rw[Ew,Je,Cf];congr 1;simp only[Jk,Ju];split
    · rw[Bv,MM];rfl
    rfl
   have vN:(((List.range i).filter (gL S L)).map fun k=>C.getD k V0).length<=64:=by rw[Ai];have :=De (gL S L) (List.range i);rw[Bp] at this;omega
   rw[xf];generalize ((List.range i).filter (gL S L)).map (fun k=>C.getD k V0)=els at *;generalize C[i]=x at *;have n0:¬(0=H3.next):=(by omega);have ns:¬(sid=H3.next):=(by omega);have nb:¬(ob=H3.next):=(by omega);have zA:i+1<=C.length:=hi;have hmg:=aSb (gL S L) hi;refine aF ?_;refine bQ ?_;simp only[↓zP,zJ,seval,e3,mB 75 rfl,aB,aN,hi,hg,oL (aM x)];refine bR ?_;generalize hX:(H3.alloc _).set H3.next _=H4;have y0:H4.get 0=some (.cells [.aS] false):=(by subst hX;rw[aA.aC,if_neg n0,aA.aJ,if_neg n0];exact q0);have ys:H4.get sid=some (.cells (mk C.length (gL S L)) false):=(by subst hX;rw[aA.aC,if_neg ns,aA.aJ,if_neg ns];exact qs);have yv:H4.get ob=some (.cells [v] false):=(by subst hX;rw[aA.aC,if_neg nb,aA.aJ,if_neg nb];exact qv);have yx:H4.get H3.next=some (.cells (cG x) false):=(by subst hX;rw[aA.aC,if_pos rfl]);have yn:H4.next=H3.next+1:=by subst hX;simp only[aA.aW,aA.aZ]
   have yo:Own H4 3 v (bS els):=by refine JG qo (by omega) fun k h1 h2=>?_;subst hX;rw[aA.aC,if_neg (by omega),aA.aJ,if_neg (by omega)];exact h2
   clear hX;generalize H3.next=r3 at *
   cases hu:gL S L i with
   |false=>rw[hu] at hmg;simp only[↓zP,zJ,seval,mB 10 rfl,dP 10 rfl,aB,hi,zA,ys,Oa,hmg];exact⟨y0,trivial,by omega,v,yv,yo,qe⟩
   |true=>
    rw[hu] at hmg;simp only[↓zP,zJ,seval,mB 10 rfl,dP 10 rfl,aB,hi,zA,ys,Oa,hmg,mB 15 rfl,yv,yx,oL (aM x)];obtain⟨H5,z1,z2,z3,z4,z5⟩:=Has.push (.inr yo) (ys:=[cG x]) (bytes:=24) rfl (by rw[aN,Aq,Bj];omega);rw[eL];have w2:=(z4 ob (by omega) (by rw[yv];simp)).trans yv;simp only[z1,bZ,zJ,seval,w2];refine⟨(if_neg (by omega)).trans ((z4 0 (by omega) (by rw[y0];simp)).trans y0),(if_neg (by omega)).trans ((z4 sid (by omega) (by rw[ys];simp)).trans ys),by omega,_,rfl,?_,fun h=>?_⟩
    · rw[show bS (els++[x])=bS els++[cG x] from by simp[bS]];exact .inr ⟨H4.next,rfl,by simp only[aA.aW];omega,by rw[aA.aC,if_neg (by omega)];exact z3⟩
    simp at h
 rintro f3 H3 mB ⟨q0,qs,qn,v,qv,qo,qe⟩;simp only[↓zP,seval];apply hK;clear hK K;have hL:((List.range C.length).filter (gL S L)).map (fun k=>C.getD k V0)=gY C S L:=rfl;rw[hL] at qo qe;simp only[↓zP,zJ,seval,mB 15 rfl,mB 2 rfl,dP 2 rfl,hk 2 rfl,qv,q0];refine⟨rfl,_,by simp only[↓zP,zR,seval,mB 2 rfl,dP 2 rfl,hk 2 rfl];rfl,?_⟩;refine⟨_,2,rfl,fun nw=>?_⟩
 rcases qo with ⟨rfl,h⟩|⟨k,rfl,h1,h2⟩
 · rw[h];rfl
 have cK:¬bS (gY C S L)=[]:=fun h=>by have :=qe (by simpa [bS] using h);cases this
 rw[show kC 3 (bS (gY C S L))=.aU 0 3 (bS (gY C S L)) from if_neg cK];have JX:dM (bS (gY C S L))=true:=dW cE _;simp[gK,MV,fU,JX,FW,mY,AV.free]
theorem OE {C:List aI.V} {S:List (aI.V×Int)} {L:aI.V×Int->List Nat} (hS:wD C S L) (cK:S≠[]):gY C S L≠[]:=by
 obtain⟨q,r,rfl⟩:=Ee cK;obtain⟨s,r',m,e,W,h⟩:=(hS.po q Ax).ex;have hm:s∈L q:=by rw[h];exact Bf.2 ⟨0,Ba.2 W.pos,rfl⟩
 have hs:s<C.length:=(dK.1 W.hs).1;intro hh;have :C.getD s V0∈gY C (q::r) L:=Bf.2 ⟨s,Fk.2 ⟨Ba.2 hs,by simp[gL,hm]⟩,rfl⟩;rw[hh] at this;cases this
def NS (l C:List aI.V) (S:List (aI.V×Int)) (L:aI.V×Int->List Nat):Int:=
 if(iT l C S L).2=0/\gY C S L≠l then 3 else(iT l C S L).2
theorem TE {l C:List aI.V} {S:List (aI.V×Int)} {L:aI.V×Int->List Nat} (h:(iT l C S L).2=0):S≠[]/\(iT l C S L).1=kC 3 (bS (gY C S L))/\l.length<=64:=by
 unfold iT at h ⊢;split at h
 · cases h
 split at h
 · cases h
 split at h
 · cases h
 split at h
 · cases h
 rename_i h1 h2 h3 h4;rw[if_neg h1,if_neg h2,if_neg h3,if_neg h4];exact⟨fun e=>h3 (by rw[e];decide),rfl,by omega⟩
theorem TD {tag:Nat} (ht:Nat.blt tag 2=true) {l C:List aI.V} (hlen:l.length<2^30) (hC:Ord l C) {S:List (aI.V×Int)} {L:aI.V×Int->List Nat} (hS:wD C S L) (H:aA):
 Sg 50 [.agg [.aU tag 3 (bS l)]] H (.ret (.int .i64 (NS l C S L))) H:=by
 refine So bAr (by simp only[sf,cV ht]) ?_ H;unfold W50;dsimp only;have hH:=fun H=>aCm ht hlen hC hS H;unfold NS;have h0:=TE (l:=l) (C:=C) (S:=S) (L:=L);generalize iT l C S L=o at *;obtain⟨ov,oc⟩:=o;dsimp only at hH h0 ⊢;refine bQ ?_;simp only[↓zP,zJ,seval];refine fM ?_;simp only[↓zP,zJ,seval];refine bW (hH _) ?_;simp only[↓zP,zJ,seval];refine bR ?_;by_cases hc:oc=0
 · subst hc;obtain⟨wg,rfl,aUg⟩:=h0 rfl;have cK:=OE hS wg;have tV:kC 3 (bS (gY C S L))=.aU 0 3 (bS (gY C S L)):=if_neg (by simpa [bS] using cK);rw[tV]
   have xL:(gY C S L).length<2^30:=by have hCl:C.length<=l.length:=tY C l (Ha (fun {a b} (h:iI a b) (e:a=b)=>iI.km b (by rw[e] at h;exact h)) hC.Rw) fun v hv=>(hC.mem v).1 hv;have :=De (gL S L) (List.range C.length);rw[Bp] at this;simp only[gY,Ai];omega
   have hb:((0:Int)==0)=true:=rfl;have hE:=fun H=>rz (t1:=0) (t2:=tag) rfl ht xL hlen H;refine aG fun K hK=>?_;simp only[↓zP,zJ,seval,hb];refine bW (hE _) ?_;by_cases he:gY C S L=l
   · have hd:=Af he;simp only[↓zP,zJ,seval,hd];apply hK;clear hK K;simp only[↓zP,zG,seval];refine Rx ?_;rw[if_neg (fun h=>h.2 he)];rfl
   have hd:=Ae he;simp only[↓zP,zJ,seval,hd];refine Rx ?_;rw[if_pos ⟨trivial,he⟩];rfl
 have hb:(oc==0)=false:=Ce.2 hc;refine bQ ?_;simp only[↓zP,zG,seval,hb];refine bR ?_;simp only[↓zP,zG,seval];refine Rx ?_;rw[if_neg (fun h=>hc h.1)];rfl
theorem Mc {id r:Nat} {o:Bool} {H:aA} (hr:H.get r=some (.cells [.aS] o)):Sg 226 [.yield id,.ref r 0] H (.ret (.jR [])) H:=by
 refine kQ aJx (Aj rfl) ?_;unfold aDk;dsimp only;refine bQ ?_;simp only[↓zP,zJ,Nat.reduceLT,hr];refine bR ?_;refine bO [] (fun i vs H'=>H'=H) 0 (by decide) (by decide) ?_ ?_ ?_ ?_ ?_
 · simp only[zB]
 · simp only[zB,Nat.reduceEqDiff];rfl
 · rfl
 · rintro i f H1 hi;exact absurd hi (As _)
 rintro f H1 hk rfl;refine⟨rfl,_,by simp only[zR];rfl,?_⟩;exact⟨rfl,rfl⟩
theorem XE (H:aA):Sg 159 [.aS] H (.ret (.func (.func 226) [] [.ref H.next 0])) (H.alloc (.cells [.aS] false)):=by refine kQ aJn (Aj rfl) ?_;unfold aDa;dsimp only;simp only[↓zP,zJ,Nat.reduceLT,Nat.reduceEqDiff];refine⟨rfl,_,by simp only[↓zP,zR];rfl,?_⟩;exact⟨rfl,rfl⟩
theorem Pk {r:Nat} {o:Bool} {H:aA} (qt:r<H.next) (hr:H.get r=some (.cells [.aS] o)):
 ∃H',Sg 269 [.aS,.func (.func 226) [] [.ref r 0]] H (.ret .aS) H':=by
 suffices h:∃out H',out=.ret .aS/\Sg 269 [.aS,.func (.func 226) [] [.ref r 0]] H out H' by obtain⟨_,H',rfl,hS⟩:=h;exact⟨H',hS⟩
 refine xN fit aJy (Aj rfl) ?_;unfold aDl;dsimp only;refine bQ ?_;simp only[↓zP,zJ,Nat.reduceLT];refine bR ?_;refine aG fun K hK=>?_;refine bQ ?_;simp only[↓zP,zJ,Nat.reduceLT,Nat.reduceEqDiff];refine bR ?_;have hf2:(jM (jM (jM (fG [.aS,.func (.func 226) [] [.ref r 0]]) 2 (.ref H.next 0)) 4 .aS) 6 (.func (.func 226) [] [.ref r 0])) 2=.ref H.next 0:=rfl;have hf6:(jM (jM (jM (fG [.aS,.func (.func 226) [] [.ref r 0]]) 2 (.ref H.next 0)) 4 .aS) 6 (.func (.func 226) [] [.ref r 0])) 6=.func (.func 226) [] [.ref r 0]:=rfl;generalize jM (jM (jM (fG [.aS,.func (.func 226) [] [.ref r 0]]) 2 (.ref H.next 0)) 4 .aS) 6 (.func (.func 226) [] [.ref r 0])=f at *;refine aF ?_;refine EA (by rw[dV];exact hf6) ?_;simp only[aA.aZ];generalize Nz:KI.mk [7] _ _=key
 refine⟨_,_,_,_,_,Mc (o:=o) (by rw[aA.aJ,if_neg (by simp;omega),aA.aJ,if_neg (by simp;omega),aA.aJ,if_neg (by omega)];exact hr),by rw[aA.aJ];simp;exact⟨rfl,rfl,rfl⟩,fun Hf hf=>?_⟩
 obtain⟨f1,f2⟩:=hf;show K f [.mark (H.next+1)] Hf;apply hK;clear hK K;have b0:Hf.get H.next=some (.cells [.aS] false):=by rw[f2,if_neg (by omega)];simp[aA.aJ];omega
 have b1:Hf.get (H.next+1)=some .LZ:=by rw[f2,if_neg (by omega)];simp[aA.aJ]
 simp only[↓zP,zJ,Nat.reduceLT,hf2,b0];exact⟨b1,[.aS],rfl,rfl⟩
theorem UH {r:Nat} {o:Bool} {H:aA} (qt:r<H.next) (hr:H.get r=some (.cells [.aS] o)):
 ∃H',Sg 224 [.func (.func 226) [] [.ref r 0]] H (.ret .aS) H':=by
 obtain⟨H',hS⟩:=Pk qt hr;refine⟨H',?_⟩;refine kQ aJw (Aj rfl) ?_;unfold aDj;dsimp only;simp only[↓zP,zJ,Nat.reduceLT,Nat.reduceEqDiff];refine bW (hS) ?_;simp only[↓zP,zG,Nat.reduceLT];refine⟨rfl,_,by simp only[↓zP,zR];rfl,?_⟩;exact⟨rfl,rfl⟩
theorem NG {r:Nat} {o:Bool} {H:aA} (qt:r<H.next) (hr:H.get r=some (.cells [.aS] o)):
 ∃H',Sg 158 [.func (.func 226) [] [.ref r 0],.func (.func 160) [] []] H (.ret .aS) H':=by
 obtain⟨H1,hS⟩:=UH qt hr;refine⟨H1,?_⟩;refine kQ yl (Aj rfl) ?_;unfold te;dsimp only;simp only[↓zP,zJ,Nat.reduceLT,Nat.reduceEqDiff];refine bW (hS) ?_;simp only[↓zP,zJ,Nat.reduceLT,Nat.reduceEqDiff];refine bW (lP Tryz.aBt rfl TS 160 _) ?_;simp only[↓zP,zG,Nat.reduceEqDiff];refine⟨rfl,_,by simp only[↓zP,zR];rfl,?_⟩;exact⟨rfl,rfl⟩
theorem Yz (H:aA):Sg 110 [.aS] H (.ret .aS) H:=by refine dL fit eU aJc (Aj rfl) (by simp only[sf]) ?_ H;unfold aCp;dsimp only;obtain⟨H1,hS⟩:=NG (r:=0) (o:=false) (H:=(aA.mk 0 .nil).alloc (.cells [.aS] false)) (by simp) rfl;simp only[↓zP,zJ,Nat.reduceLT,Nat.reduceEqDiff];refine bW (XE _) ?_;simp only[];refine bW (hS) ?_;simp only[↓zP,zG,Nat.reduceLT];refine bW (LS _) ?_;simp only[↓zP,zG,Nat.reduceLT];refine⟨rfl,_,by simp only[↓zP,zR];rfl,?_⟩;exact⟨_,0,rfl,fun nw=>rfl⟩
theorem sr (H:aA):Sg 81 [.aS] H (.ret (.jR [.agg [.aS],.int .i64 120])) H:=by
 refine dL fit eU bAx (Aj rfl) (by simp only[sf]) ?_ H;unfold W81;dsimp only;refine bQ ?_;simp only[↓zP,zG,Nat.reduceLT];refine fM ?_;simp only[↓zP,zJ,Nat.reduceLT,Nat.reduceEqDiff];refine⟨fun h=>absurd h (by decide),fun _=>?_⟩;refine bR ?_;refine aG fun K hK=>?_;refine bQ ?_;simp only[↓zP,zJ,Nat.reduceLT,Nat.reduceEqDiff];refine bR ?_;refine bO [] (fun i _ H=>H.get 0=some (.cells [.aS] false)) 0 (by decide) (by decide) ?_ ?_ ?_ ?_ ?_
 · simp only[zB]
 · simp only[zB,Nat.reduceEqDiff];rfl
 · simp only[zI]
 · rintro i f H1 hi;exact absurd hi (As _)
 rintro f H1 hk g0;simp only[↓zP];apply hK;clear hK K;refine bQ ?_;simp only[↓zP,zJ,Nat.reduceLT,Nat.reduceEqDiff,hk 0 rfl];refine bW (Yz _) ?_;simp only[↓zP,zG,Nat.reduceLT];refine fM ?_;simp only[↓zP,zG,Nat.reduceLT];refine bW (Ov _) ?_;simp only[↓zP,zG,Nat.reduceLT];refine bR ?_;refine aG fun K hK=>?_;simp only[↓zP,zJ,Nat.reduceLT,Nat.reduceEqDiff,Int.reduceLT,hk 2 rfl,g0];refine⟨fun _=>?_,fun h=>absurd (show((0:Int)<4) by decide) (by simp at h)⟩;refine⟨rfl,_,by simp only[↓zP,zR,Nat.reduceEqDiff,hk 2 rfl,g0];rfl,?_⟩;exact⟨_,2,rfl,fun nw=>rfl⟩
theorem QI (H:aA):Sg 50 [.agg [.aS]] H (.ret (.int .i64 120)) H:=by
 refine So bAr (by simp only[sf]) ?_ H;unfold W50;dsimp only;refine bQ ?_;simp only[↓zP,zJ,Nat.reduceLT];refine fM ?_;simp only[↓zP,zJ,Nat.reduceLT,Nat.reduceEqDiff];refine bW (sr _) ?_;simp only[↓zP,zJ,Nat.reduceLT,Nat.reduceEqDiff,Nat.reduceAdd];refine bR ?_;have hb:((120:Int)==0)=false:=by decide
 refine bQ ?_;simp only[↓zP,zJ,Nat.reduceLT,Nat.reduceEqDiff,hb];refine bR ?_;simp only[↓zP,zG,Nat.reduceLT,Nat.reduceEqDiff];refine⟨rfl,_,by simp only[↓zP,zR];rfl,?_⟩;rfl
def pC (p:Int×Int):List AV:=[.int .i64 p.1,.int .i64 p.2]
theorem Oo (p:Int×Int):(pC p).length=2:=rfl
theorem TU (p:Int×Int):bL (pC p)=true:=by simp only[pC,sf]
def l5 (p q:Int×Int):Int:=orZ [uO p.1 q.1,uO p.2 q.2]
theorem TV (p q:Int×Int):l5 p q<0↔p.1<q.1\/(p.1=q.1/\p.2<q.2):=by
 unfold l5 orZ uO
 rcases Eu p.1 q.1 with h|h|h
 · simp[h]
 · rcases Eu p.2 q.2 with h2|h2|h2
   · simp[h,h2]
   · simp[h,h2]
   simp[h,h2,Jp h2]
 simp[h,Jp h,Jb h]
theorem cy (p q:Int×Int) (H:aA):Sg 234 [.agg (pC p),.agg (pC q)] H (.ret (.int .i64 (l5 p q))) H:=by
 refine So aYj (by simp only[sf,TU]) ?_ H;unfold aNt;dsimp only;refine aG fun K hK=>?_;simp only[↓zP,zG,seval,zI];apply hK;clear hK K;refine aG fun K hK=>?_;refine Dz ?_;simp only[↓zP,zG,seval,zD,zI,pC,nC];refine eE (jF p.1 q.1 _) ?_;simp only[↓zP,zG,seval,zD,zI,nC];refine eE (jF p.2 q.2 _) ?_;simp only[↓zP,zG,seval,zD,zI];have Ty:=sx [uO p.1 q.1,uO p.2 q.2] (by simp);simp only[eY,sm] at Ty;refine eE (Ty _) ?_;simp only[↓zP,zG,seval,zD,zI];apply hK;clear hK K;simp only[↓zP,seval]
 (refine Rx ?_;rfl)
def pV (q:Int×Int):BU 2:=⟨[q.1,q.2],rfl⟩
def JT (x:BU 2):Int×Int:=(x.1.getD 0 0,x.1.getD 1 0)
theorem TW (x:BU 2):pV (JT x)=x:=by
 obtain⟨l,hl⟩:=x
 match l,hl with
 |[a,b],_=>rfl
theorem Ze (q:Int×Int):Uj (pV q)=pC q:=rfl
theorem Td:∀S:List (Int×Int),(mD (S.map pV)).map (AV.int .i64)=(S.map pC).flatten
 |[]=>rfl
 |q::S=>by have :=Td S;simp only[mD,Bv,Dr,Cf,Bx] at this ⊢;rw[this];rfl
theorem bHf:Go.Sort.SWO (Go.Proofs.ltOf fun x y:BU 2=>l5 (JT x) (JT y)) where
 irrefl x:=by simp only[Go.Proofs.ltOf,TV,Bk];omega
 trans x y z h1 h2:=by simp only[Go.Proofs.ltOf,TV,Bg] at *;omega
 ntrans x y z h1 h2:=by simp only[Go.Proofs.ltOf,TV,Bk] at *;omega
theorem ct:MG Tryz.prog 233:=⟨_,Tryz.func233,by kernel_rfl,by kernel_rfl⟩
theorem aBq (d:List (BU 2)) (hd:d.length<4611686018427387904):
 ∃d':List (BU 2),d'.Perm d/\(d'.Pairwise fun a b=>¬l5 (JT b) (JT a)<0)/\∀(H:aA) (id:Nat) (eI:Bool),H.get id=some (.cells ((mD d).map (AV.int .i64)) eI)->
  Sg 233 [.sl id 2 0 d.length d.length,.func (.func 234) [] []] H (.ret (.jR [])) (H.set id (.cells ((mD d').map (AV.int .i64)) eI)):=
 EG (fun _=>rfl) Tryz.aKe (by decide) Tryz.isAgg22 Tryz.sizeOf22 rfl ct (cy (0,0) (0,0) ⟨0,.nil⟩).1 bHf (fun x y=>by
  have :=cy (JT x) (JT y) ⟨0,.nil⟩
  rwa [<-Ze,<-Ze,TW,TW] at this) d hd
def SV (H:aA) (x:Nat) (v:AV) (l:List (Int×Int)):Prop:=
 (l=[]/\v=.aS)\/∃uS,l≠[]/\v=.sl uS 2 0 l.length l.length/\H.get uS=some (.cells (l.map pC).flatten true)/\¬(x=uS)/\uS<H.next
theorem SV.push {H:aA} {x:Nat} {v:AV} {l:List (Int×Int)} (h:SV H x v l) (RM:x<H.next) (hlen:l.length<2^30) (p:Int×Int):
 ∃v' H',eF H 2 16 true v [pC p]=some (v',H')/\SV H' x v' (l++[p])/\H'.next=H.next+1/\H'.get x=H.get x:=by
 rcases h with ⟨rfl,rfl⟩|⟨uS,cK,rfl,hg,h1,h2⟩
 · exact⟨_,_,zS rfl (by simp),.inr ⟨H.next,by simp,rfl,by rw[aA.aJ,if_pos rfl];rfl,by omega,by simp⟩,by simp,by rw[aA.aJ,if_neg (by omega)]⟩
 have aa:(l.map pC).flatten.length=l.length*2:=by rw[oN (sz:=2) (fun e he=>?_),Ai];obtain⟨x,_,rfl⟩:=Bf.1 he;rfl
 refine⟨_,_,zT hg aa rfl (by simp only[Aq,Bj];omega) (by decide),.inr ⟨H.next,by simp,by simp,?_,by omega,by simp⟩,by simp,by rw[aA.aJ,aA.aW,if_neg (by omega),aA.aC,if_neg (by omega)]⟩;rw[aA.aJ,aA.aW,if_pos rfl];simp
theorem SV.behind {H H':aA} {x:Nat} {v:AV} {l:List (Int×Int)} (h:SV H x v l) (hn:H'.next=H.next+1) (hs:∀j,j<H.next->H'.get j=H.get j):SV H' H.next v l:=by
 rcases h with h|⟨uS,h0,h1,h2,h3,h4⟩
 · exact .inl h
 exact .inr ⟨uS,h0,h1,(hs _ h4).trans h2,by omega,by omega⟩
def Wf (l:List Nat) (j:Nat):List (Int×Int):=(List.range j).flatMap fun i=>if l.getD i 0<l.getD ((i+1)%l.length) 0 then [((l.getD i 0:Int),(l.getD ((i+1)%l.length) 0:Int))] else []
def Mh (S:List (aI.V×Int)) (L:aI.V×Int->List Nat):List (Int×Int):=S.flatMap fun q=>Wf (L q) (L q).length
theorem ry {tag:Nat} (ht:Nat.blt tag 2=true) {l:List aI.V} {M:Nat} (hl:∀v∈l,bT M v) (hM:M<=2^18) (hlen:l.length<=64) {S:List (aI.V×Int)} {L:aI.V×Int->List Nat} (hS:wD l S L) (cK:S≠[]) (HW:S.length<=64):
 ∃E:List (Int×Int),E.Perm (Mh S L)/\(E.Pairwise fun a b=>¬l5 b a<0)/\∀H,Sg 172 [.agg [.aU tag 3 (bS l)]] H (.ret (kC 2 (E.map pC))) H:=by
 have aQk:∀q∈S,(L q).length<=64:=fun q hq=>by obtain⟨s,r,m,e,W,h⟩:=(hS.po q hq).ex;rw[h,Ai,Bp];have h1:=W.le;have h2:=De (fun k=>decide (aI.dot q.1 (l.getD k V0)=q.2)) (List.range l.length);rw[Bp] at h2;have h3:(kA (fun i=>l.getD i V0) l.length q.1 q.2).length<=l.length:=h2;omega
 have aIp:∀T:List (aI.V×Int),(∀q∈T,(L q).length<=64)->(Mh T L).length<=T.length*64:=fun T=>by
  induction T with
  |nil=>intro _;simp[Mh]
  |cons q T ih=>intro h;have h1:=ih fun x hx=>h x (Ay _ hx);have h2:=h q Ax;have h3:=lZ (fun i=>if(L q).getD i 0<(L q).getD ((i+1)%(L q).length) 0 then [((((L q).getD i 0:Nat):Int),(((L q).getD ((i+1)%(L q).length) 0:Nat):Int))] else []) 1 (fun i=>by split<;>simp) (List.range (L q).length);rw[Bp,Dt] at h3;have h4:(Wf (L q) (L q).length).length<=(L q).length:=h3;simp only[Mh,Dr,Au,Aq,Cn,Gp] at h1 ⊢;omega
 have uw:∀i,(Mh (S.take i) L).length<2^29:=fun i=>by
  have h1:=aIp (S.take i) fun q hq=>aQk q (By hq);have h2:(S.take i).length<=S.length:=by rw[Cq];omega
  omega
 obtain⟨d',q1,q2,q3⟩:=aBq ((Mh S L).map pV) (by
  have h1:=aIp S aQk;rw[Ai]
  omega)
 refine⟨d'.map JT,?_,?_,fun H=>?_⟩
 · have h1:=q1.map JT
   rwa [En,show(JT∘pV)=id from rfl,Hx] at h1
 · rw[Ih];exact q2
 refine dL fit eU aWv (Aj rfl) (by simp only[sf,cV ht]) ?_ H;unfold aMg;dsimp only;refine aG fun K hK=>?_;simp only[↓zP,zG,seval,zI];apply hK;clear hK K;refine aG fun K hK=>?_;simp only[↓zP,zG,seval];apply hK;clear hK K;have hF:=fun H=>KF ht hl hM hlen hS cK H;refine aG fun K hK=>?_;refine aG fun K2 bK=>?_;simp only[↓zP,zG,seval,zI];refine bW (hF _) ?_;simp only[↓zP,zG,seval,zI,Ai];apply bK;clear bK K2;refine bO [3] (fun i vs H'=>∃v x,vs=[v]/\SV H' x v (Mh (S.take i) L)/\1<=H'.next) S.length (by omega) (by decide) ?_ ?_ ?_ ?_ ?_
 · simp only[zB,seval]
 · simp only[zB,seval]
 · exact⟨.aS,0,by simp only[sm,zB,seval],.inl ⟨rfl,rfl⟩,by simp only[zI,seval]⟩
 · rintro i f H1 hi hk e1 ⟨v,x,hv,hr,hn⟩;simp only[zM] at hv;have hg:(S.map (cU L)).getD i []=cU L S[i]:=eR hi
   have nM:Mh (S.take (i+1)) L=Mh (S.take i) L++Wf (L S[i]) (L S[i]).length:=by simp only[Mh];rw[Al,Fp];simp[hi]
   have Sw:=uw i;have hLl:=aQk _ (Ac hi);rw[nM];generalize Mh (S.take i) L=E0 at *;generalize S[i]=q at *;have p5:(cU L q).length=5:=rfl;have pa:(cU L q).getD 4 aD=.aU 0 1 (yE (L q)):=rfl;refine aF ?_;refine aG fun K2 bK=>?_;simp only[↓zP,zG,seval,zI,e1,hk 10 rfl,aB,Ai,hi,hg,oL p5];apply bK;clear bK K2;generalize hX:(H1.alloc _).set H1.next _=H4;have yn:H4.next=H1.next+1:=(by subst hX;simp only[aA.aW,aA.aZ]);have y5:H4.get H1.next=some (.cells (cU L q) false):=(by subst hX;rw[aA.aC,if_pos rfl]);have yr:SV H4 H1.next v E0:=hr.behind yn fun j hj=>by subst hX;rw[aA.aC,if_neg (by omega),aA.aJ,if_neg (by omega)]
   clear hX;generalize H1.next=r5 at *;refine aG fun K2 bK=>?_;simp only[↓zP,zG,seval,zI,y5,p5,pa,dO];apply bK;clear bK K2;refine bO [3] (fun j vs H'=>∃v,vs=[v]/\SV H' r5 v (E0++Wf (L q) j)/\r5<H'.next/\H'.get r5=some (.cells (cU L q) false)) (L q).length (by omega) (by decide) ?_ ?_ ?_ ?_ ?_
   · simp only[zB,seval]
   · simp only[zB,seval]
   · exact⟨v,by simp only[sm,zB,seval];rw[hv],by simpa [Wf] using yr,by omega,y5⟩
   · rintro j f2 H2 hj dP e2 ⟨v2,pU,hr2,KA,g5⟩;simp only[zM] at pU;refine aF ?_;refine aG fun K2 bK=>?_;have xj:=uA hj;simp only[↓zP,zG,seval,zI,e2,dP 17 rfl,aB,dO,hj,xj];apply bK;clear bK K2;refine aG fun K2 bK=>?_;refine Dz ?_;have wj:IntKind.i64.wrap ((j:Int)+1)=((j+1:Nat):Int):=(wrap_i64 (by omega) (by omega)).trans (by omega);have nz:¬(((L q).length:Int)=0):=(by omega);have hm:(j+1)%(L q).length<(L q).length:=Dg _ (by omega);have tm:((j+1:Nat):Int).tmod ((L q).length:Int)=(((j+1)%(L q).length:Nat):Int):=rfl;have hgb:=uA hm
     have hed:Wf (L q) (j+1)=Wf (L q) j++(if(L q)[j]<(L q)[(j+1)%(L q).length] then [((((L q)[j]:Nat):Int),(((L q)[(j+1)%(L q).length]:Nat):Int))] else []):=by simp only[Wf];rw[Ew,Fp];simp[List.getD,hj,hm]
     have bHx:(Wf (L q) j).length<=j:=by have :=lZ (fun i=>if(L q).getD i 0<(L q).getD ((i+1)%(L q).length) 0 then [((((L q).getD i 0:Nat):Int),(((L q).getD ((i+1)%(L q).length) 0:Nat):Int))] else []) 1 (fun i=>by split<;>simp) (List.range j);rw[Bp,Dt] at this;exact this
     have aQp:E0++Wf (L q) (j+1)=(E0++Wf (L q) j)++(if(L q)[j]<(L q)[(j+1)%(L q).length] then [((((L q)[j]:Nat):Int),(((L q)[(j+1)%(L q).length]:Nat):Int))] else []):=(by rw[hed,Di]);have hEl:(E0++Wf (L q) j).length<2^30:=(by rw[Au];omega);generalize hE1:E0++Wf (L q) j=E1 at hr2 aQp hEl;clear hed;simp only[↓zP,zG,seval,zD,zI,dP 5 rfl,g5,p5,pa,aB,dO,wj,nz,tm,hm,hgb];apply bK;clear bK K2;generalize (L q)[(j+1)%(L q).length]=b at *;generalize (L q)[j]=a at *;by_cases CQ:a<b
     · have hd:decide ((a:Int)<(b:Int))=true:=Af (by omega);obtain⟨v',H5,z1,z2,z3,z4⟩:=hr2.push KA hEl ((a:Int),(b:Int));have hpc:[AV.int .i64 (a:Int),.int .i64 (b:Int)]=pC ((a:Int),(b:Int)):=rfl;simp only[↓zP,zG,seval,zI,hd,pU,hpc,Oo];rw[eL];simp only[z1,bZ,seval];rw[aQp,if_pos CQ];exact⟨v',rfl,z2,by omega,z4.trans g5⟩
     have hd:decide ((a:Int)<(b:Int))=false:=Ae (by omega);simp only[↓zP,zG,seval,zI,hd,pU];rw[aQp,if_neg CQ,Cd];exact⟨v2,rfl,hr2,KA,g5⟩
   rintro f2 H2 dP ⟨v2,pU,hr2,KA,g5⟩;simp only[zM] at pU;simp only[↓zP,seval];exact⟨v2,r5,by simp only[sm,seval];rw[pU],hr2,by omega⟩
 rintro f H1 hk ⟨v,x,hv,hr,hn⟩;simp only[zM] at hv;rw[Ao] at hr;simp only[↓zP,seval];apply hK;clear hK K;have Zq:Mh S L≠[]->(Mh S L).map pV≠[]:=fun h e=>h (by simpa using e)
 rcases hr with ⟨hE,rfl⟩|⟨uS,hEn,rfl,hg,hx,qt⟩
 · refine aG fun K hK=>?_;simp only[↓zP,zG,seval,hv];refine bW (lP Tryz.aKe rfl ct 234 _) ?_;simp only[↓zP,seval];apply hK;clear hK K;simp only[↓zP,zG,seval,hv];refine Rx ?_
   have Xp:d'=[]:=by rw[hE] at q1;exact List.Perm.eq_nil q1
   rw[Xp];exact⟨_,0,rfl,fun nw=>rfl⟩
 have VI:H1.get uS=some (.cells ((mD ((Mh S L).map pV)).map (AV.int .i64)) true):=by rw[hg,Td]
 have hc:=q3 H1 uS true VI;rw[Ai] at hc;refine aG fun K hK=>?_;simp only[↓zP,zG,seval,hv];refine bW (hc) ?_;simp only[↓zP,seval];apply hK;clear hK K;simp only[↓zP,zG,seval,hv];have rV:d'=(d'.map JT).map pV:=by rw[En];exact(Ej (g:=id) (fun x _=>TW x)).trans (Hx d') |>.symm
 have Wh:((d'.map JT).map pC).length=(Mh S L).length:=by rw[Ai,Ai,q1.length_eq,Ai]
 rw[show(mD d').map (AV.int .i64)=((d'.map JT).map pC).flatten from by rw[<-Td,<-rV]];refine Rx ?_;have wg:¬((d'.map JT).map pC=[]):=fun h=>hEn (Cw (by rw[<-Wh,h];rfl));refine⟨_,0,rfl,fun nw=>?_⟩;rw[<-Wh,kC,if_neg wg];refine WQ (by rw[aA.aC,if_pos rfl]) (fun e he=>?_) (dW TU _) nw;obtain⟨q,_,rfl⟩:=Bf.1 he;rfl
def DE (l:List aI.V) (p:Nat×Nat):aI.V:=aI.sub (l.getD p.2 V0) (l.getD p.1 V0)
def pN (p:Nat×Nat):Int×Int:=(p.1,p.2)
theorem h9 {tag:Nat} (ht:Nat.blt tag 2=true) {l:List aI.V} {M:Nat} (hl:∀v∈l,bT M v) (hM:M<=2^18) {E:List (Nat×Nat)} (hEl:E.length<=2^20) (hE0:E≠[]) (hE:∀p∈E,p.1<l.length/\p.2<l.length)
 (hS:∀H,Sg 172 [.agg [.aU tag 3 (bS l)]] H (.ret (kC 2 ((E.map pN).map pC))) H) (H:aA):
 Sg 115 [.agg [.aU tag 3 (bS l)]] H (.ret (.aU 0 3 (bS (E.map (DE l))))) H:=by
 refine dL fit eU aVf (Aj rfl) (by simp only[sf,cV ht]) ?_ H;unfold aKu;dsimp only;have cT:∀k (h:k<l.length),l.getD k V0=l[k]:=fun k h=>by simp[List.getD,h]
 rw[show kC 2 ((E.map pN).map pC)=.aU 0 2 ((E.map pN).map pC) from if_neg (by simpa using hE0)] at hS;refine bQ ?_;simp only[↓zP,zJ,seval];refine fM ?_;simp only[↓zP,zG,seval];refine bR ?_;refine aG fun K hK=>?_;refine bQ ?_;simp only[↓zP,zJ,seval];refine bW (hS _) ?_;simp only[↓zP,zG,seval,Ai];refine bR ?_;refine bO [3] (fun i vs H'=>∃v,vs=[v]/\Own H' 3 v (bS ((E.take i).map (DE l)))/\1<=H'.next/\H'.get 0=some (.cells [.aU tag 3 (bS l)] false)) E.length (by omega) (by decide) ?_ ?_ ?_ ?_ ?_
 · simp only[zB,seval]
 · simp only[zB,seval]
 · exact⟨.aS,by simp only[sm,zB,seval],.nil _ _,by simp only[zI,seval],by simp only[zI,seval]⟩
 · rintro i f H1 hi hk e1 ⟨v,hv,ho,hn,g0⟩;simp only[zM] at hv;have hg:((E.map pN).map pC).getD i []=pC (pN E[i]):=by rw[En];exact eR hi
   obtain⟨ha,hb⟩:=hE _ (Ac hi)
   have nM:(E.take (i+1)).map (DE l)=(E.take i).map (DE l)++[DE l E[i]]:=by rw[Al,Cf];simp[hi]
   have MR:((E.take i).map (DE l)).length<=2^20:=(by simp;omega);rw[nM];generalize (E.take i).map (DE l)=els at *;generalize E[i]=p at *;have Wr:¬(0=H1.next):=(by omega);have ga:=cF ha;have gb:=cF hb;have na:=hl _ (Ac ha);have nb:=hl _ (Ac hb);have AN:aI.sub l[p.2] l[p.1]=DE l p:=(by simp only[DE,cT p.2 hb,cT p.1 ha]);have q0:(pC (pN p)).getD 0 aD=.int .i64 (p.1:Int):=rfl;have q1:(pC (pN p)).getD 1 aD=.int .i64 (p.2:Int):=rfl;refine aF ?_;refine bQ ?_;simp only[↓zP,zJ,seval,e1,hk 7 rfl,aB,Ai,hi,hg,oL (Oo (pN p))];refine bR ?_;generalize hX:(H1.alloc _).set H1.next _=H4;have u0:H4.get 0=some (.cells [.aU tag 3 (bS l)] false):=(by subst hX;rw[aA.aC,if_neg Wr,aA.aJ,if_neg Wr];exact g0);have u1:H4.get H1.next=some (.cells (pC (pN p)) false):=(by subst hX;rw[aA.aC,if_pos rfl]);have un:H4.next=H1.next+1:=by subst hX;simp only[aA.aW,aA.aZ]
   have uo:Own H4 3 v (bS els):=by refine JG ho (by omega) fun k h1 h2=>?_;subst hX;rw[aA.aC,if_neg (by omega),aA.aJ,if_neg (by omega)];exact h2
   clear hX;obtain⟨H5,z1,z2,z3,z4,z5⟩:=Has.push (.inr uo) (ys:=[cG (DE l p)]) (bytes:=24) rfl (by rw[aN,Aq,Bj];omega);generalize H1.next=r1 at *;refine Dz ?_;simp only[↓zP,zJ,seval,zD,hk 1 rfl,hv,u0,u1,Oo,q0,q1,nC,aB,aN,ha,hb,ga,gb,oL (aM l[p.1]),oL (aM l[p.2])];refine eE (JV nb na (by omega) _) ?_;rw[AN];simp only[↓zP,zJ,seval,zD,oL (aM (DE l p))];rw[eL];simp only[z1,bZ,seval];rw[show bS (els++[DE l p])=bS els++[cG (DE l p)] from by simp[bS]];exact⟨by omega,_,rfl,.inr ⟨H4.next,rfl,by omega,z3⟩,by omega,(z4 0 (by omega) (by rw[u0];simp)).trans u0⟩
 rintro f H1 hk ⟨v,hv,ho,hn,g0⟩;simp only[zM] at hv;rw[Ao] at ho;simp only[↓zP,seval];apply hK;simp only[↓zP,zG,seval,hv];refine Rx ?_;refine⟨v,0,rfl,fun nw=>?_⟩;have cK:bS (E.map (DE l))≠[]:=by simpa [bS] using hE0
 rcases ho with ⟨_,h⟩|⟨k,rfl,h1,h2⟩
 · exact absurd h cK
 have JX:dM (bS (E.map (DE l)))=true:=dW cE _;simp[gK,fU,JX,FW]
end Go.Proofs.YtndkpgceodimiaaGreatDoor
namespace Go.Proofs.YtndkpgceodimiaaGreatDoor
open Go Go.Av Go.aI Go.sK
theorem tZ {z:Int} (h:z.natAbs<2^250):norm z=some z:=by
 have :(2:Nat)^250<W^16:=by decide
 unfold norm;rw[if_pos (by omega)]
theorem tX {x y:Int} {A B:Nat} (hx:x.natAbs<=A) (hy:y.natAbs<=B) (h:A*B<2^250):MW (some x) (some y)=some (x*y):=tZ (by
 have :=bV hx hy
 omega)
theorem uq {v w:aI.V} {A B:Nat} (hv:bT A v) (hw:bT B w) (h:3*(A*B)<2^240):smO (fun i=>some (v.at i)) (fun i=>some (w.at i)) 3=some (aI.dot v w):=by
 have h5:(2:Nat)^240<2^250:=by decide
 have hAB:A*B<2^250:=by omega
 have m0:=bV hv.1 hw.1;have m1:=bV hv.2.1 hw.2.1;have m2:=bV hv.2.2 hw.2.2;simp only[smO,V.at];rw[tX hv.1 hw.1 hAB,tX hv.2.1 hw.2.1 hAB,tX hv.2.2 hw.2.2 hAB];simp only[NI];rw[tZ (show(0+v.x*w.x).natAbs<2^250 by omega)];simp only;rw[tZ (show(0+v.x*w.x+v.y*w.y).natAbs<2^250 by omega)];simp only;rw[tZ (show(0+v.x*w.x+v.y*w.y+v.z*w.z).natAbs<2^250 by omega)];simp only[aI.dot,Int.zero_add]
theorem XV {v w:aI.V} {A B:Nat} (hv:bT A v) (hw:bT B w) (h:3*(A*B)<2^240) {i:Nat} (hi:i<3):XT (fun i=>some (v.at i)) (fun i=>some (w.at i)) i=some ((aI.aT v w).at i):=by
 have h5:(2:Nat)^240<2^250:=by decide
 have hAB:A*B<2^250:=by omega
 have key:∀a b c d:Int,a.natAbs<=A->b.natAbs<=B->c.natAbs<=A->d.natAbs<=B->NI (MW (some a) (some b)) (QM (MW (some c) (some d)))=some (a*b -c*d):=fun a b c d h1 h2 h3 h4=>by rw[tX h1 h2 hAB,tX h3 h4 hAB];have m0:=bV h1 h2;have m1:=bV h3 h4;simp only[QM,NI];rw[tZ (by omega),Int.sub_eq_add_neg]
 match i,hi with
 |0,_=>exact key v.y w.z v.z w.y hv.2.1 hw.2.2 hv.2.2 hw.2.1
 |1,_=>exact key v.z w.x v.x w.z hv.2.2 hw.1 hv.1 hw.2.2
 |2,_=>exact key v.x w.y v.y w.x hv.1 hw.2.1 hv.2.1 hw.1
attribute [local congr] aV aO aP aL aX aR aQ aH aY
attribute [local irreducible] FC bY eX
def wW (n:aI.V) (m:Int) (l:List aI.V):Int:=l.foldl (fun m v=>if aI.dot n v<m then aI.dot n v else m) m
def wN (n:aI.V) (m:Int) (l:List aI.V):Int:=l.foldl (fun m v=>if aI.dot n v>m then aI.dot n v else m) m
theorem ZT (z:Int):bL (cI z)=true:=dC z
theorem dt {tag:Nat} (ht:Nat.blt tag 2=true) {l:List aI.V} {M B:Nat} (hl:∀v∈l,bT M v) (hlen:l.length<2^30) (hM:M<=2^18) {n:aI.V} (hn:bT B n) (hB:B<=2^62) {x0:aI.V} {r:List aI.V} (hx:l=x0::r) (H:aA):
 Sg 84 [.agg [.aU tag 3 (bS l)],.agg (cG n)] H (.ret (.jR [.agg (cI (wW n (aI.dot n x0) l)),.agg (cI (wN n (aI.dot n x0) l))])) H:=by
 have hI:∀{A:Nat} {v:aI.V},bT A v->A<=2^62->∀i,wE (v.at i):=fun {A v} h hA i=>by have :=bT.c h i;unfold wE;omega
 have hBM:B*M<=2^62*2^18:=Bq hB hM
 have xe:∀v∈l,∀H,Sg 118 [.agg (cG n),.agg (cG v)] H (.ret (.agg (cI (aI.dot n v)))) H:=fun v hv H=>by
  have :=aKh (hI hn hB) (hI (hl v hv) (by omega)) H
  rwa [uq hn (hl v hv) (by
   have :(2:Nat)^62*2^18*3<2^240:=by decide
   omega)] at this
 refine Sp bGn (by simp only[sf,cV ht,cE]) (by simp only[AV.free,bL,ZT];rfl) ?_ H;unfold W84;dsimp only;have Wp:0<l.length:=by rw[hx];simp
 have aRm:l[0]=x0:=by subst hx;rfl
 have g0:=cF Wp;have Xp:=xe _ (Ac Wp);have a0:asNat (.int .i64 0)=some 0:=rfl;have gM:∀z,(cI z).length=18:=fun z=>by simp[cI,dA,cM]
 refine bQ ?_;simp only[↓zP,zJ,seval];refine fM ?_;refine Dz ?_;simp only[↓zP,zJ,seval,zD,a0,aN,Wp,g0,oL (aM l[0]),oL (aM n)];have xI:(AV.bool false::AV.bool false::wC zs).length=18:=by simp[dA];rfl
 refine eE (Xp _) ?_;simp only[↓zP,zJ,seval,zD,a0,aN,Wp,g0,oL (aM l[0]),oL (aM n)];refine eE (Xp _) ?_;rw[aRm];generalize hd:aI.dot n x0=d0 at *;simp only[↓zP,zJ,seval,zD,gM,xI,oL xI];refine bR ?_;refine aG fun K hK=>?_;refine bQ ?_;simp only[↓zP,zJ,seval];refine bR ?_;refine bO [] (fun i _ H'=>H'.get 1=some (.cells (cG n) false)/\H'.get 2=some (.cells (cI (wW n d0 (l.take i))) false)/\H'.get 3=some (.cells (cI (wN n d0 (l.take i))) false)/\4<=H'.next/\(wW n d0 (l.take i)).natAbs<=3*(B*M)/\(wN n d0 (l.take i)).natAbs<=3*(B*M)) l.length (by omega) (by decide) ?_ ?_ ?_ ?_ ?_
 · simp only[zB,seval]
 · simp only[zB,seval,aN]
 · have j8:=oY hn (hl x0 (by rw[hx];simp));rw[hd] at j8;exact⟨by simp only[zI,seval],by simp only[zI,seval];rfl,by simp only[zI,seval];rfl,by simp only[zI,seval],j8,j8⟩
 · rintro i f H1 hi hk e1 ⟨m1,m2,m3,hn4,b1,b2⟩;have hg:=cF hi;have vO:=Ac hi;have hdi:=xe _ vO;have j8:=oY hn (hl _ vO)
   have RM:wW n d0 (l.take (i+1))=if aI.dot n l[i]<wW n d0 (l.take i) then aI.dot n l[i] else wW n d0 (l.take i):=by unfold wW;rw[Al,Gz];simp[hi]
   have kb:wN n d0 (l.take (i+1))=if aI.dot n l[i]>wN n d0 (l.take i) then aI.dot n l[i] else wN n d0 (l.take i):=by unfold wN;rw[Al,Gz];simp[hi]
   rw[RM,kb];generalize wW n d0 (l.take i)=lo at *;generalize wN n d0 (l.take i)=gR at *;generalize l[i]=x at *;generalize aI.dot n x=d at *;have n1:¬(1=H1.next):=(by omega);have n2:¬(2=H1.next):=(by omega);have n3:¬(3=H1.next):=(by omega);refine aF ?_;refine bQ ?_;simp only[↓zP,zJ,seval,e1,hk 22 rfl,aB,aN,hi,hg,oL (aM x)];refine fM ?_;simp only[↓zP,zJ,seval,hk 3 rfl,n1,m1,oL (aM x),oL (aM n)];refine bW (hdi _) ?_;simp only[↓zP,zJ,seval,gM,xI,oL xI];refine bR ?_;generalize hX:(((H1.alloc _).set H1.next _).alloc _).set (H1.next+1) _=H4;have y1:H4.get 1=some (.cells (cG n) false):=(by subst hX;rw[aA.aC,if_neg (by omega),aA.aJ,if_neg (by simp;omega),aA.aC,if_neg (by omega),aA.aJ,if_neg (by omega)];exact m1);have y2:H4.get 2=some (.cells (cI lo) false):=(by subst hX;rw[aA.aC,if_neg (by omega),aA.aJ,if_neg (by simp;omega),aA.aC,if_neg (by omega),aA.aJ,if_neg (by omega)];exact m2);have y3:H4.get 3=some (.cells (cI gR) false):=(by subst hX;rw[aA.aC,if_neg (by omega),aA.aJ,if_neg (by simp;omega),aA.aC,if_neg (by omega),aA.aJ,if_neg (by omega)];exact m3);have y8:H4.get (H1.next+1)=some (.cells (cI d) false):=(by subst hX;rw[aA.aC,if_pos rfl]);have yn:4<=H4.next:=(by subst hX;simp only[aA.aW,aA.aZ];omega);clear hX;generalize hr8:H1.next+1=r8 at *
   have w16:3*(B*M)<W^16:=by have :3*(2^62*2^18)<W^16:=(by decide);omega
   have kG:iU (cI d) (some d):=.enc (by omega);have ilo:iU (cI lo) (some lo):=.enc (by omega);have ihi:iU (cI gR) (some gR):=.enc (by omega);have q2:¬(2=r8):=(by omega);have q3:¬(3=r8):=(by omega);refine aG fun K2 bK=>?_
   have uP:∀y:Int,(decide (kS (some d) (some y)<0)=decide (d<y))/\(decide (kS (some d) (some y)>0)=decide (d>y)):=fun y=>by constructor<;>(rw[Bb];simp only[kS];split<;>(try split)<;>omega)
   have key:∀(f':dD) (H':aA) (lo2:Int),f' 8=.ref r8 0->f' 5=.ref 3 0->H'.get r8=some (.cells (cI d) false)->H'.get 1=some (.cells (cG n) false)->H'.get 2=some (.cells (cI lo2) false)->H'.get 3=some (.cells (cI gR) false)->4<=H'.next->lo2=(if d<lo then d else lo)->K2 f' [] H':=by
    intro f' H' lo2 v8 v5 p8 p1 p2 p3 pn plo;apply bK;clear bK K2;simp only[↓zP,zJ,seval,v8,v5,p8,p3,gM,oL (gM d),oL (gM gR)];refine bW (KD kG ihi _) ?_;have fH:(if d<lo then d else lo).natAbs<=3*(B*M):=(by split<;>omega);by_cases c2:d>gR
    · have d2:decide (kS (some d) (some gR)>0)=true:=(by rw[(uP gR).2];exact Af c2);simp only[↓zP,zJ,seval,d2,v8,v5,p8,p3,gM,oL (gM d),oL (gM gR)];rw[if_pos c2,<-plo];exact⟨p1,p2,rfl,pn,by rw[plo];exact fH,j8⟩
    have d2:decide (kS (some d) (some gR)>0)=false:=(by rw[(uP gR).2];exact Ae c2);simp only[↓zP,zG,seval,d2];rw[if_neg c2,<-plo];exact⟨p1,p2,p3,pn,by rw[plo];exact fH,b2⟩
   simp only[↓zP,zJ,seval,hk 4 rfl,y8,y2,gM,oL (gM d),oL (gM lo)];refine bW (KD kG ilo _) ?_;by_cases c1:d<lo
   · have d1:decide (kS (some d) (some lo)<0)=true:=(by rw[(uP lo).1];exact Af c1);simp only[↓zP,zJ,seval,d1,hk 4 rfl,y8,y2,gM,oL (gM d),oL (gM lo)];refine key _ _ d (by simp only[zB,seval]) (by simp only[zB,seval];exact hk 5 rfl) ?_ ?_ ?_ ?_ ?_ (if_pos c1).symm
     · rw[aA.aC,if_neg (by omega)];exact y8
     · rw[aA.aC,if_neg (by omega)];exact y1
     · rw[aA.aC,if_pos rfl]
     · rw[aA.aC,if_neg (by omega)];exact y3
     rw[aA.aW];exact yn
   have d1:decide (kS (some d) (some lo)<0)=false:=(by rw[(uP lo).1];exact Ae c1);simp only[↓zP,zG,seval,d1];exact key _ _ lo (by simp only[zB,seval]) (by simp only[zB,seval];exact hk 5 rfl) y8 y1 y2 y3 yn (if_neg c1).symm
 rintro f H1 hk ⟨m1,m2,m3,hn4,b1,b2⟩;rw[Ao] at m2 m3;simp only[↓zP,seval];apply hK;clear hK K;refine bQ ?_;refine Dz ?_;simp only[↓zP,zJ,seval,zD,hk 4 rfl,hk 5 rfl,m2,m3,gM,oL (gM (wW n d0 l)),oL (gM (wN n d0 l))];refine bR ?_;simp only[↓zP,seval];refine⟨rfl,_,by simp only[↓zP,zR,seval,hk 4 rfl,hk 5 rfl,gM,oL (gM (wW n d0 l)),oL (gM (wN n d0 l))];rfl,?_⟩;rfl
theorem Pt {ta tb:Nat} (a b:List aI.V) (H:aA):Sg 83 [.agg [.aU ta 3 (bS a)],.agg [.aU tb 3 (bS b)]] H (.ret (.func (.func 113) [] [.ref H.next 0,.ref (H.next+1) 0])) ((H.alloc (.cells [.aU ta 3 (bS a)] false)).alloc (.cells [.aU tb 3 (bS b)] false)):=by refine kQ bGm (Aj rfl) ?_;unfold W83;dsimp only;refine bQ ?_;simp only[↓zP,zJ,seval];refine bR ?_;simp only[↓zP,zJ,seval];refine Rx ?_;exact⟨rfl,rfl⟩
def MI (U W:List aI.V):List aI.V:=U.flatMap fun u=>W.filterMap fun w=>if aI.aT u w=V0 then none else some (aI.aT u w)
def lD (Sa Sb:List (aI.V×Int)) (U W:List aI.V):List aI.V:=(Sa++Sb).map (·.1)++MI U W
def pre (D:List aI.V) (U W:List aI.V) (i j:Nat):List aI.V:=D++MI (U.take i) W++MI ((U.drop i).take 1) (W.take j)
theorem Sh (A B W:List aI.V):MI (A++B) W=MI A W++MI B W:=by simp only[MI,Fp]
theorem ZW (u:aI.V) (A B:List aI.V):MI [u] (A++B)=MI [u] A++MI [u] B:=by simp only[MI,Dr,List.flatMap_nil,Cd,List.filterMap_append]
theorem aTj (A:List aI.V):MI A []=[]:=by simp[MI]
theorem ui (u w:aI.V):MI [u] [w]=if aI.aT u w=V0 then [] else [aI.aT u w]:=by by_cases h:aI.aT u w=V0<;>simp[MI,h]
theorem vW {U:List aI.V} {i:Nat} (h:i<U.length):(U.drop i).take 1=[U[i]]:=by rw[Ct h];rfl
theorem DV {U:List aI.V} {i:Nat} (h:i<U.length):U.take (i+1)=U.take i++[U[i]]:=by rw[Al];simp[h]
theorem TZ (D U W:List aI.V) (i:Nat):pre D U W i 0=D++MI (U.take i) W:=by simp[pre,aTj]
theorem aGw {D U W:List aI.V} {i:Nat} (h:i<U.length):pre D U W i W.length=pre D U W (i+1) 0:=by rw[TZ,DV h,Sh];simp only[pre,vW h,Ao,Di]
theorem aAh {D U W:List aI.V} {i j:Nat} (h:i<U.length) (hj:j<W.length):pre D U W i (j+1)=pre D U W i j++MI [U[i]] [W[j]]:=by simp only[pre,vW h,DV hj,ZW,Di]
theorem aGv (Sa Sb:List (aI.V×Int)) (U W:List aI.V):lD Sa Sb U W=pre ((Sa++Sb).map (·.1)) U W U.length 0:=by rw[TZ,Ao];rfl
theorem aGx {D U W:List aI.V} {i j:Nat} (h:i<U.length) (hj:j<=W.length):∃R,pre D U W U.length 0=pre D U W i j++R:=by
 refine⟨MI [U[i]] (W.drop j)++MI (U.drop (i+1)) W,?_⟩;rw[TZ,Ao]
 have e:U=U.take i++([U[i]]++U.drop (i+1)):=by rw[List.singleton_append,<-Ct h,Gb]
 have e2:MI [U[i]] W=MI [U[i]] (W.take j)++MI [U[i]] (W.drop j):=by rw[<-ZW,Gb]
 conv=>lhs;rw[e]
 rw[Sh,Sh,e2];simp only[pre,vW h,Di]
theorem MK {ta tb:Nat} {a b:List aI.V} {Sa Sb:List (aI.V×Int)} {La Lb:aI.V×Int->List Nat} {U W:List aI.V} {MU:Nat} (hMU:MU<=2^20)
 (fa:∀H,Sg 114 [.agg [.aU ta 3 (bS a)]] H (.ret (.aU (H.next+2) 5 (Sa.map (cU La)))) (H.alloc .tok))
 (fb:∀H,Sg 114 [.agg [.aU tb 3 (bS b)]] H (.ret (.aU (H.next+2) 5 (Sb.map (cU Lb)))) (H.alloc .tok))
 (ea:∀H,Sg 115 [.agg [.aU ta 3 (bS a)]] H (.ret (.aU 0 3 (bS U))) H)
 (eb:∀H,Sg 115 [.agg [.aU tb 3 (bS b)]] H (.ret (.aU 0 3 (bS W))) H)
 (nU:∀v∈U,bT MU v) (nW:∀v∈W,bT MU v) (lSa:Sa.length<=64) (lSb:Sb.length<=64) (hSb:Sb≠[]) (lU:U.length<=2^20) (lW:W.length<=2^20)
 {id r1 r2:Nat} {o1 o2:Bool} {H:aA} (I:Nat->aA->Prop) (Stop:aA->Prop) (sep:aI.V->Bool) (iE:∀k H H',Over H H'->I k H->I k H') (QG:∀H H',Over H H'->Stop H->Stop H')
 (fL:∀k (hk:k<(lD Sa Sb U W).length) H1,I k H1->∃H',rR Tryz.prog gv id [.agg (cG (lD Sa Sb U W)[k])] H1 (.ret (.bool (!sep (lD Sa Sb U W)[k]))) H'/\(if sep (lD Sa Sb U W)[k] then Stop H' else I (k+1) H')/\H1.next<=H'.next/\∀j,H.next<=j->j<H1.next->H'.get j=H1.get j)
 (hI0:∀k H1,I k H1->H.next<=H1.next) (b1:r1<H.next) (b2:r2<H.next) (g1:H.get r1=some (.cells [.aU ta 3 (bS a)] o1)) (g2:H.get r2=some (.cells [.aU tb 3 (bS b)] o2))
 (yq:∀k H',I k H'->H'.get r1=some (.cells [.aU ta 3 (bS a)] o1)/\H'.get r2=some (.cells [.aU tb 3 (bS b)] o2)) (h0:I 0 H):
 ∃H',(if(lD Sa Sb U W).any sep then Stop H' else I (lD Sa Sb U W).length H')/\Sg 113 [.yield id,.ref r1 0,.ref r2 0] H (.ret (.jR [])) H':=by
 suffices h:∃out H',(out=.ret (.jR [])/\if(lD Sa Sb U W).any sep then Stop H' else I (lD Sa Sb U W).length H')/\Sg 113 [.yield id,.ref r1 0,.ref r2 0] H out H' by obtain⟨_,H',⟨rfl,hm⟩,hS⟩:=h;exact⟨H',hm,hS⟩
 refine eD fit aVd (Aj rfl) ?_;unfold aKs;dsimp only;refine aG fun K hK=>?_;refine bQ ?_;refine Dz ?_;have k2:(H.alloc .tok).get r2=H.get r2:=by rw[aA.aJ,if_neg (by omega)]
 simp only[↓zP,zJ,seval,zD,g1];refine nA (by decide) (by simp only[sm,zB,seval]) (fa _) (by simp) (fun x hx hp=>by simp only[Bn] at hx;subst hx;simp at hp) ?_;simp only[↓zP,zJ,seval,zD,g2,k2];refine⟨by rw[if_neg (by omega)],?_⟩;refine nA (by decide) (by simp only[sm,zB,seval]) (fb _) (by simp) (fun x hx hp=>by simp at hp) ?_;have bCm:Own ((H.alloc .tok).alloc .tok) 5 (.aU (H.next+2) 5 (Sa.map (cU La))) (Sa.map (cU La)):=.inr ⟨H.next,rfl,by simp;omega,by rw[aA.aJ,if_neg (by simp),aA.aJ,if_pos rfl]⟩;obtain⟨v',H5,z1,z2,z3⟩:=bCm.append (ys:=Sb.map (cU Lb)) (bytes:=56) (by simp only[Ai];omega)
 have hov:Over H H5:=⟨by have :=z3.next;simp at this;omega,fun j hj=>by rw[z3.get j (by simp[rN];omega) (by simp;omega),aA.aJ,if_neg (by simp;omega),aA.aJ,if_neg (by omega)]⟩
 rcases z2 with ⟨_,h⟩|⟨tk,rfl,_,_⟩
 · simp at h;exact absurd h.2 hSb
 simp only[↓zP,zJ,seval,zD];rw[show ∀(h:aA) (n:Nat) (y:List (List AV)),cQ h 5 (.aU n 5 y)=some y from fun _ _ _=>rfl];simp only[z1,bZ,↓zP,seval,zD,Au,Ai];refine⟨by have :=z3.next;simpa using this,?_⟩;refine bR ?_;have Wh:(Sa++Sb).length<=(lD Sa Sb U W).length:=by simp only[lD,Au,Ai];omega
 have hdg:∀i (h:i<(Sa++Sb).length),(lD Sa Sb U W)[i]'(Ca h Wh)=((Sa++Sb)[i]).1:=fun i h=>by simp only[lD];rw[List.getElem_append_left (by simpa using h),Ch]
 have Sw:∀i (h:i<(Sa++Sb).length),((Sa.map (cU La)++Sb.map (cU Lb)).getD i []).length=5/\((Sa.map (cU La)++Sb.map (cU Lb)).getD i []).take 3=cG ((Sa++Sb)[i]).1:=fun i h=>by
  by_cases h1:i<Sa.length
  · have :(Sa.map (cU La)++Sb.map (cU Lb)).getD i []=cU La Sa[i]:=by simp[List.getD,Dh,h1]
    rw[this,List.getElem_append_left h1];exact⟨rfl,rfl⟩
  have h2:i -Sa.length<Sb.length:=by rw[Au] at h;omega
  have :(Sa.map (cU La)++Sb.map (cU Lb)).getD i []=cU Lb Sb[i -Sa.length]:=by simp[List.getD,Dh,h1,h2]
  rw[this,List.getElem_append_right (by omega)];exact⟨rfl,rfl⟩
 refine bO [] (fun i vs H'=>I i H'/\∀k,k<i->∀h:k<(lD Sa Sb U W).length,sep (lD Sa Sb U W)[k]=false) (Sa.length+Sb.length) (by omega) (by decide) ?_ ?_ ?_ ?_ ?_
 · simp only[zB,seval]
 · simp only[zB,seval]
 · exact⟨iE 0 _ _ hov h0,fun k hk=>absurd hk (As _)⟩
 · rintro i f H1 hi hk e1 ⟨hI,hns⟩;have gR:i<(Sa++Sb).length:=by rw[Au];exact hi
   obtain⟨p5,p3⟩:=Sw i gR;have hs:=fL i (Ca gR Wh)
   have aUm:∀k,k<i+1->sep ((lD Sa Sb U W)[i]'(Ca gR Wh))=false->∀h:k<(lD Sa Sb U W).length,sep (lD Sa Sb U W)[k]=false:=fun k hk h1 h=>by
    by_cases e:k=i
    · subst e;exact h1
    exact hns k (by omega) h
   have ML:sep ((lD Sa Sb U W)[i]'(Ca gR Wh))=true->(lD Sa Sb U W).any sep=true:=fun h=>Bu.2 ⟨_,Ac _,h⟩;rw[hdg i gR] at hs aUm ML;have MN:i<(Sa.map (cU La)++Sb.map (cU Lb)).length:=(by simp only[Au,Ai];exact hi);generalize CR:(Sa.map (cU La)++Sb.map (cU Lb)).getD i []=cs at *;generalize ((Sa++Sb)[i]).1=d at *;refine aF ?_;refine bQ ?_;have bDf:i<Sa.length+Sb.length:=hi;simp only[↓zP,zJ,seval,e1,hk 17 rfl,aB,Au,Ai,bDf,CR,oL p5];refine bR ?_;have bDz:Over H1 ((H1.alloc (.cells [.int .i64 0,.int .i64 0,.int .i64 0,.int .i64 0,.aS] false)).set H1.next (.cells cs false)):=((Over.refl H1).alloc _).set (Ak _) _;have hgc:((H1.alloc (.cells [.int .i64 0,.int .i64 0,.int .i64 0,.int .i64 0,.aS] false)).set H1.next (.cells cs false)).get H1.next=some (.cells cs false):=(by rw[aA.aC,if_pos rfl]);obtain⟨H2,hy,hI2,_,_⟩:=hs _ (iE i _ _ bDz hI);generalize (H1.alloc (.cells [.int .i64 0,.int .i64 0,.int .i64 0,.int .i64 0,.aS] false)).set H1.next (.cells cs false)=HA at *;simp only[↓zP,zJ,seval,hgc,p5,p3,hk 0 rfl];refine EC (by decide) (by rfl) (by rfl) hy ?_
   cases RO:sep d with
   |true=>rw[RO] at hI2;simp only[↓zP,zJ,seval];refine⟨rfl,_,by simp only[zR,seval];rfl,?_⟩;exact⟨rfl,by rw[if_pos (ML RO)];simpa using hI2⟩
   |false=>rw[RO] at hI2;simp only[↓zP,zJ,seval];exact⟨by simpa using hI2,fun k hk h=>aUm k hk RO h⟩
 rintro f H1 hk ⟨hI,hns⟩;simp only[↓zP,seval];apply hK;clear hK K;obtain⟨w1,w2⟩:=yq _ _ hI;refine bQ ?_;refine Dz ?_;simp only[↓zP,zJ,seval,zD,hk 1 rfl,w1];refine eE (ea _) ?_;simp only[↓zP,zJ,seval,zD,hk 2 rfl,w2];refine eE (eb _) ?_;simp only[↓zP,zJ,seval,zD];refine fM ?_;simp only[↓zP,zG,seval,aN];refine bR ?_;have Zq:(Sa++Sb).length=Sa.length+Sb.length:=Au;have hD0:((Sa++Sb).map (·.1)).length=Sa.length+Sb.length:=by rw[Ai,Zq]
 have aUa:lD Sa Sb U W=pre ((Sa++Sb).map (·.1)) U W U.length 0:=aGv ..
 have bDw:∀x∈(Sa++Sb).map (·.1),sep x=false:=fun x hx=>by
  obtain⟨k,rF,rfl⟩:=Dm hx;have hk1:k<Sa.length+Sb.length:=by rw[<-hD0];exact rF
  have :=hns k hk1 (by omega);rw[hdg k (by rw[Zq];exact hk1)] at this;rw[Ch];exact this
 generalize hDg:(Sa++Sb).map (·.1)=D at *;refine bO [] (fun i vs H'=>I (pre D U W i 0).length H'/\∀x∈pre D U W i 0,sep x=false) U.length (by omega) (by decide) ?_ ?_ ?_ ?_ ?_
 · simp only[zB,seval]
 · simp only[zB,seval]
 · have e:pre D U W 0 0=D:=by simp[TZ,MI]
   rw[e,hD0];exact⟨hI,bDw⟩
 · rintro i f2 H2 hi dP e2 ⟨hI2,aEx⟩;have hgu:=cF hi;have hnu:=nU _ (Ac hi);refine aF ?_;simp only[↓zP,zJ,seval,e2,dP 33 rfl,dP 7 rfl,aB,aN,hi,hgu,oL (aM U[i])];refine bO [] (fun j vs H'=>I (pre D U W i j).length H'/\(∀x∈pre D U W i j,sep x=false)/\H2.next<H'.next/\H'.get H2.next=some (.cells (cG U[i]) false)) W.length (by omega) (by decide) ?_ ?_ ?_ ?_ ?_
   · simp only[zB,seval]
   · simp only[zB,seval]
   · exact⟨iE _ _ _ (((Over.refl H2).alloc _).set (Ak _) _) hI2,aEx,by simp,by rw[aA.aC,if_pos rfl]⟩
   · rintro j f3 H3 hj mB e3 ⟨hI3,xx,ai,g9⟩;have hgw:=cF hj;have hnw:=nW _ (Ac hj);have GC:=aAh (D:=D) hi hj;obtain⟨R,hR⟩:=aGx (D:=D) (W:=W) hi (show j+1<=W.length from hj);rw[<-aUa,GC,ui] at hR;rw[ui] at GC;have hH2:=hI0 _ _ hI2;generalize pre D U W i (j+1)=Pn at *;generalize pre D U W i j=Pj at *;generalize U[i]=u at *;generalize W[j]=w at *;have hcn:bT (2*(MU*MU)) (aI.aT u w):=kK hnu hnw;have hMM:MU*MU<=2^20*2^20:=Bq hMU hMU;have hIu:∀i,wE (u.at i):=fun i=>by have :=bT.c hnu i;unfold wE;omega
     have hIw:∀i,wE (w.at i):=fun i=>by have :=bT.c hnw i;unfold wE;omega
     have hcr:∀i,i<3->XT (fun i=>some (u.at i)) (fun i=>some (w.at i)) i=some ((aI.aT u w).at i):=fun i hi=>XV hnu hnw (by
      have :(3*(2^20*2^20):Nat)<2^240:=by decide
      omega) hi
     have hcc:∀i,((aI.aT u w).at i).natAbs<=2*(MU*MU):=fun i=>bT.c hcn i;have w16:2*(2^20*2^20)<sK.W^16:=by decide
     have hcI:∀i,i<3->iU (cO (XT (fun i=>some (u.at i)) (fun i=>some (w.at i)) i)) (XT (fun i=>some (u.at i)) (fun i=>some (w.at i)) i):=fun i hi=>by rw[hcr i hi];exact .enc (by have :=hcc i;omega)
     have bDr:(⟨(iW (XT (fun i=>some (u.at i)) (fun i=>some (w.at i)) 0)).1,(iW (XT (fun i=>some (u.at i)) (fun i=>some (w.at i)) 1)).1,(iW (XT (fun i=>some (u.at i)) (fun i=>some (w.at i)) 2)).1⟩:aI.V)=aI.aT u w:=by
      have sm:∀z:Int,z.natAbs<=2*(MU*MU)->(iW (some z)).1=z:=fun z hz=>by simp only[iW];rw[if_pos (by omega)]
      rw[hcr 0 (by decide),hcr 1 (by decide),hcr 2 (by decide),sm _ (hcc 0),sm _ (hcc 1),sm _ (hcc 2)];rfl
     have n9:¬(H2.next=H3.next):=(by omega);refine aF ?_;simp only[↓zP,zJ,seval,e3,mB 39 rfl,mB 9 rfl,aB,aN,hj,hgw,oL (aM w),oL (aM u),g9,n9];refine bW (ru hIu hIw _) ?_;refine bW (ku hcI _) ?_;rw[bDr];generalize hc:aI.aT u w=c at *;by_cases jz:c=V0
     · rw[if_pos jz,Cd] at GC;have hd:decide (c=V0)=true:=Af jz;simp only[↓zP,zJ,seval,oL (aM c),HH,hd];rw[GC];refine⟨iE _ _ _ (((((Over.refl H3).alloc _).set (Ak _) _).alloc _).set (by simp) _) hI3,xx,by omega,?_⟩;rw[if_neg (by omega),if_neg (by omega),if_neg (by omega),if_neg (by omega)];exact g9
     have hd:decide (c=V0)=false:=Ae jz;simp only[↓zP,zJ,seval,oL (aM c),HH,hd];generalize hX:(((H3.alloc _).set _ _).alloc _).set _ _=HX;have aRa:Over H3 HX:=(by subst hX;exact((((Over.refl H3).alloc _).set (Ak _) _).alloc _).set (by omega) _);clear hX;have g9X:=(aRa.same H2.next ai).trans g9;have hIX:=iE _ _ _ aRa hI3;have hnX:=aRa.le;rw[if_neg jz] at GC hR;have eZ:Pj.length<(lD Sa Sb U W).length:=(by rw[hR];simp);have aIr:(lD Sa Sb U W)[Pj.length]'eZ=c:=(by simp[hR]);obtain⟨H6,hy,hI6,hn6,hs6⟩:=fL _ eZ HX hIX;rw[aIr] at hy hI6
     have jL:f3 0=.yield id:=by rw[mB 0 rfl];simp only[zB,seval];rw[dP 0 rfl];simp only[zB,seval];rw[hk 0 rfl];simp only[zB,seval,fG,Dn]
     refine EC (by decide) (by simp only[zB,seval];exact jL) (by simp only[sm,zB,seval]) hy ?_
     cases RO:sep c with
     |true=>rw[RO] at hI6;have ML:(lD Sa Sb U W).any sep=true:=Bu.2 ⟨c,by rw[<-aIr];exact Ac eZ,RO⟩;simp only[↓zP,zJ,seval];refine⟨rfl,_,by simp only[zR,seval];rfl,?_⟩;exact⟨rfl,by rw[if_pos ML];simpa using hI6⟩
     |false=>
      rw[RO] at hI6;simp only[↓zP,zJ,seval];rw[GC,Au];refine⟨by simpa using hI6,fun x hx=>?_,by omega,(hs6 _ (by omega) (by omega)).trans g9X⟩
      rcases An.1 hx with hx|hx
      · exact xx x hx
      rw[Bn] at hx;subst hx;exact RO
   rintro f3 H3 mB ⟨hI3,xx,ai,g9⟩;rw[aGw hi] at hI3 xx;exact⟨hI3,xx⟩
 rintro f2 H2 dP ⟨hI2,aEx⟩;rw[<-aUa] at hI2 aEx
 have ML:(lD Sa Sb U W).any sep=false:=by rw[Ek];intro x hx;simp[aEx x hx]
 refine⟨rfl,_,by simp only[zR,seval];rfl,?_⟩;exact⟨rfl,by rw[ML];exact hI2⟩
def oT (a b:List aI.V) (n:aI.V):Bool:=decide (wN n (aI.dot n (a.getD 0 V0)) a<=wW n (aI.dot n (b.getD 0 V0)) b)||decide (wN n (aI.dot n (b.getD 0 V0)) b<=wW n (aI.dot n (a.getD 0 V0)) a)
theorem IW {n:aI.V} {X:Nat}:∀{l:List aI.V} {m:Int},m.natAbs<=X->(∀v∈l,(aI.dot n v).natAbs<=X)->(wW n m l).natAbs<=X
 |[],_,h,_=>h
 |v::l,m,h,hl=>by have h1:=hl v Ax;have :=IW (n:=n) (l:=l) (m:=if aI.dot n v<m then aI.dot n v else m) (by split<;>omega) (fun w hw=>hl w (Ay _ hw));exact this
theorem ID {n:aI.V} {X:Nat}:∀{l:List aI.V} {m:Int},m.natAbs<=X->(∀v∈l,(aI.dot n v).natAbs<=X)->(wN n m l).natAbs<=X
 |[],_,h,_=>h
 |v::l,m,h,hl=>by have h1:=hl v Ax;have :=ID (n:=n) (l:=l) (m:=if aI.dot n v>m then aI.dot n v else m) (by split<;>omega) (fun w hw=>hl w (Ay _ hw));exact this
theorem UJ {ta tb:Nat} (qu:Nat.blt ta 2=true) (qw:Nat.blt tb 2=true) {a b:List aI.V} {M B:Nat} (ha:∀v∈a,bT M v) (hb:∀v∈b,bT M v) (hM:M<=2^18) (hla:a.length<2^30) (hlb:b.length<2^30) (ha0:a≠[]) (VD:b≠[])
 {Sa Sb:List (aI.V×Int)} {La Lb:aI.V×Int->List Nat} {U W:List aI.V} {MU:Nat} (hMU:MU<=2^20)
 (fa:∀H,Sg 114 [.agg [.aU ta 3 (bS a)]] H (.ret (.aU (H.next+2) 5 (Sa.map (cU La)))) (H.alloc .tok))
 (fb:∀H,Sg 114 [.agg [.aU tb 3 (bS b)]] H (.ret (.aU (H.next+2) 5 (Sb.map (cU Lb)))) (H.alloc .tok))
 (ea:∀H,Sg 115 [.agg [.aU ta 3 (bS a)]] H (.ret (.aU 0 3 (bS U))) H)
 (eb:∀H,Sg 115 [.agg [.aU tb 3 (bS b)]] H (.ret (.aU 0 3 (bS W))) H)
 (nU:∀v∈U,bT MU v) (nW:∀v∈W,bT MU v) (lSa:Sa.length<=64) (lSb:Sb.length<=64) (hSb:Sb≠[]) (lU:U.length<=2^20) (lW:W.length<=2^20)
 (j8:∀n∈lD Sa Sb U W,bT B n) (hB:B<=2^62) (H:aA):
 Sg 52 [.agg [.aU ta 3 (bS a)],.agg [.aU tb 3 (bS b)]] H (.ret (.bool ((lD Sa Sb U W).any (oT a b)))) H:=by
 suffices h:∃out H',out=.ret (.bool ((lD Sa Sb U W).any (oT a b)))/\Sg 52 [.agg [.aU ta 3 (bS a)],.agg [.aU tb 3 (bS b)]] ⟨0,.nil⟩ out H' by obtain⟨_,H',rfl,hS⟩:=h;exact Sound.frame eU (by simp only[sf,cV qu,cV qw]) hS (tk:=none) (fun k hk=>by cases hk) (n:=0) H (xG rfl)
 obtain⟨a0,ar,hae⟩:=Ee ha0;obtain⟨b0,br,Sr⟩:=Ee VD;refine xN fit bFr (Aj rfl) ?_;unfold W52;dsimp only;refine bQ ?_;simp only[↓zP,zJ,seval];refine bR ?_;refine aG fun K hK=>?_;refine bQ ?_;simp only[↓zP,zJ,seval];refine bW (Pt (ta:=ta) (tb:=tb) a b _) ?_;simp only[↓zP,seval,zI];refine bR ?_
 refine aKi (by
  repeat (first|exact(CL (Aj rfl)).1|refine nQ.jM ?_ (by decide) _)) (fun f HX hbd hf hHX=>?_)
 have f2:f 2=.ref 0 0:=by subst hf;simp only[zB,seval]
 have f3:f 3=.ref 1 0:=by subst hf;simp only[zB,seval]
 have f4:f 4=.ref 2 0:=by subst hf;simp only[zB,seval]
 have f12:f 12=.func (.func 113) [] [.ref 3 0,.ref 4 0]:=by subst hf;simp only[zB,seval]
 have xn:HX.next=5:=by subst hHX;simp only[zI,seval]
 have x0:HX.get 0=some (.cells [.aU ta 3 (bS a)] false):=by subst hHX;simp only[zI,seval]
 have x1:HX.get 1=some (.cells [.aU tb 3 (bS b)] false):=by subst hHX;simp only[zI,seval]
 have x2:HX.get 2=some (.cells [.bool false] false):=by subst hHX;simp only[zI,seval]
 have x3:HX.get 3=some (.cells [.aU ta 3 (bS a)] false):=by subst hHX;simp only[zI,seval]
 have x4:HX.get 4=some (.cells [.aU tb 3 (bS b)] false):=by subst hHX;simp only[zI,seval]
 clear hf hHX;refine aF ?_;refine EA (by rw[dV];exact f12) ?_;simp only[xn,seval];generalize Nz:KI.mk [13] _ _=key
 let I:Nat->aA->Prop:=fun _ H'=>7<=H'.next/\H'.get 0=some (.cells [.aU ta 3 (bS a)] false)/\H'.get 1=some (.cells [.aU tb 3 (bS b)] false)/\H'.get 2=some (.cells [.bool false] false)/\H'.get 3=some (.cells [.aU ta 3 (bS a)] false)/\H'.get 4=some (.cells [.aU tb 3 (bS b)] false)/\H'.get 5=some .LZ/\H'.get 6=some (.loop key (LF 36 f) .ready)
 let Stop:aA->Prop:=fun H'=>H'.get 2=some (.cells [.bool true] false)/\7<=H'.next/\H'.get 5=some .LZ/\∃k s,H'.get 6=some (.loop k s (.done .ret))
 have iE:∀i H1 H2,Over H1 H2->I i H1->I i H2:=fun i H1 H2 ho ⟨w1,w2,w3,w4,w5,w6,w7,w8⟩=>⟨Cb w1 ho.le,(ho.same _ (by omega)).trans w2,(ho.same _ (by omega)).trans w3,(ho.same _ (by omega)).trans w4,(ho.same _ (by omega)).trans w5,(ho.same _ (by omega)).trans w6,(ho.same _ (by omega)).trans w7,(ho.same _ (by omega)).trans w8⟩
 have QG:∀H1 H2,Over H1 H2->Stop H1->Stop H2:=fun H1 H2 ho ⟨w1,w2,w3,k,s,w4⟩=>⟨(ho.same _ (by omega)).trans w1,Cb w2 ho.le,(ho.same _ (by omega)).trans w3,k,s,(ho.same _ (by omega)).trans w4⟩
 have yn:((HX.alloc .LZ).alloc (.loop key (LF 36 f) .ready)).next=7:=by simp[xn]
 have h0:I 0 ((HX.alloc .LZ).alloc (.loop key (LF 36 f) .ready)):=by refine⟨by rw[yn];decide,?_,?_,?_,?_,?_,?_,?_⟩<;>simp[aA.aJ, *]
 have fL:∀k (hk:k<(lD Sa Sb U W).length) H1,I k H1->∃H',rR Tryz.prog gv 6 [.agg (cG (lD Sa Sb U W)[k])] H1 (.ret (.bool (!oT a b (lD Sa Sb U W)[k]))) H'/\(if oT a b (lD Sa Sb U W)[k] then Stop H' else I (k+1) H')/\H1.next<=H'.next/\∀j,((HX.alloc .LZ).alloc (.loop key (LF 36 f) .ready)).next<=j->j<H1.next->H'.get j=H1.get j:=by
  rintro k hk H1 ⟨w1,w2,w3,w4,w5,w6,w7,w8⟩;have hn:=j8 _ (Ac hk);rw[yn];generalize (lD Sa Sb U W)[k]=n at *
  suffices h:∃out H',(out=.ret (.bool (!oT a b n))/\(if oT a b n then Stop H' else I (k+1) H')/\H1.next<=H'.next/\∀j,7<=j->j<H1.next->H'.get j=H1.get j)/\rR Tryz.prog gv 6 [.agg (cG n)] H1 out H' by obtain⟨_,H',⟨rfl,h1,h2,h3⟩,hS⟩:=h;exact⟨H',hS,h1,h2,h3⟩
  refine XG fit hbd w8 (by rw[<-Nz];rfl) (by rw[<-Nz];rfl) (by rw[<-Nz];rfl) ?_
  have aEs:FC Tryz.prog gv 36 key.LX (sY 36 f (key.ps.zip [.agg (cG n)])) [] H1 (fun e f1 pA H1'=>e=.normal/\f1=jM (jM f 13 (.agg (cG n))) 5 (.ref H1.next 0)/\pA=[]/\H1'=(H1.alloc (.cells [.int .i64 0,.int .i64 0,.int .i64 0] false)).set H1.next (.cells (cG n) false)):=by subst Nz;dsimp only[List.zip,List.zipWith,sY,fN];simp only[↓zP,zJ,seval,oL (aM n)]
  refine iY (fun e f1 pA H1' h=>?_) aEs;obtain⟨rfl,rfl,rfl,rfl⟩:=h;have ho1:Over H1 ((H1.alloc (.cells [.int .i64 0,.int .i64 0,.int .i64 0] false)).set H1.next (.cells (cG n) false)):=((Over.refl H1).alloc _).set (Ak _) _;have ga:((H1.alloc (.cells [.int .i64 0,.int .i64 0,.int .i64 0] false)).set H1.next (.cells (cG n) false)).get H1.next=some (.cells (cG n) false):=by rw[aA.aC,if_pos rfl]
  have gan:((H1.alloc (.cells [.int .i64 0,.int .i64 0,.int .i64 0] false)).set H1.next (.cells (cG n) false)).next=H1.next+1:=by simp
  refine⟨rfl,key,LF 36 f,(ho1.same 6 (by omega)).trans w8,?_⟩;generalize hbz:aA.set _ 6 _=HB;have z0:HB.get 0=some (.cells [.aU ta 3 (bS a)] false):=by rw[<-hbz,aA.aC,if_neg (by decide)];exact(ho1.same 0 (by omega)).trans w2
  have z1:HB.get 1=some (.cells [.aU tb 3 (bS b)] false):=by rw[<-hbz,aA.aC,if_neg (by decide)];exact(ho1.same 1 (by omega)).trans w3
  have zr:HB.get H1.next=some (.cells (cG n) false):=by rw[<-hbz,aA.aC,if_neg (by omega)];exact ga
  have zn:HB.next=H1.next+1:=by rw[<-hbz,aA.aW];exact gan
  have z6:HB.get 6=some (.loop key (LF 36 f) .busy):=by rw[<-hbz,aA.aC,if_pos rfl]
  have zo:∀j,j≠6->j<H1.next->HB.get j=H1.get j:=fun j h1 h2=>by rw[<-hbz,aA.aC,if_neg h1];exact ho1.same j h2
  clear hbz aEs ho1 ga gan;subst Nz;dsimp only;refine aF ?_;simp only[↓zP,zJ,seval,f2,z0,zr,oL (aM n)];have sa:=fun H=>dt (tag:=ta) qu ha hla hM hn hB hae H;have sb:=fun H=>dt (tag:=tb) qw hb hlb hM hn hB Sr H;have gM:∀z,(cI z).length=18:=fun z=>by simp[cI,dA,cM]
  have xI:(AV.bool false::AV.bool false::wC zs).length=18:=by simp[dA];rfl
  have hBM:B*M<=2^62*2^18:=Bq hB hM
  have w16:3*(B*M)<sK.W^16:=by have :3*(2^62*2^18)<sK.W^16:=(by decide);omega
  have da:∀v∈a,(aI.dot n v).natAbs<=3*(B*M):=fun v hv=>oY hn (ha v hv);have db:∀v∈b,(aI.dot n v).natAbs<=3*(B*M):=fun v hv=>oY hn (hb v hv);have na0:=da a0 (by rw[hae];simp);have nb0:=db b0 (by rw[Sr];simp)
  have YB:oT a b n=(decide (wN n (aI.dot n a0) a<=wW n (aI.dot n b0) b)||decide (wN n (aI.dot n b0) b<=wW n (aI.dot n a0) a)):=by simp only[oT,hae,Sr,Dn]
  rw[YB];have ila:iU (cI (wW n (aI.dot n a0) a)) (some (wW n (aI.dot n a0) a)):=.enc (by have :=IW na0 da;omega);have qR:iU (cI (wN n (aI.dot n a0) a)) (some (wN n (aI.dot n a0) a)):=.enc (by have :=ID na0 da;omega);have ilb:iU (cI (wW n (aI.dot n b0) b)) (some (wW n (aI.dot n b0) b)):=.enc (by have :=IW nb0 db;omega);have uM:iU (cI (wN n (aI.dot n b0) b)) (some (wN n (aI.dot n b0) b)):=.enc (by have :=ID nb0 db;omega);clear YB iE QG h0;generalize wW n (aI.dot n a0) a=p1 at *;generalize wN n (aI.dot n a0) a=p2 at *;generalize wW n (aI.dot n b0) b=q1 at *;generalize wN n (aI.dot n b0) b=q2 at *;have n0:¬(H1.next=0):=by omega
  have n1:¬(H1.next=1):=by omega
  have n2:¬(2=H1.next):=by omega
  have z2:HB.get 2=some (.cells [.bool false] false):=(zo 2 (by decide) (by omega)).trans w4;refine bW (sa _) ?_;simp only[↓zP,zJ,seval,Bm,Nat.left_eq_add,Hw,gM,xI,oL xI,zn,z1,zr,f3,oL (aM n),n0];refine bW (sb _) ?_
  have uP:∀x y:Int,decide (kS (some x) (some y)<=0)=decide (x<=y):=fun x y=>by rw[Bb];simp only[kS];split<;>(try split)<;>omega
  by_cases c1:p2<=q1
  · have d1:decide (kS (some p2) (some q1)<=0)=true:=by rw[uP];exact Af c1
    simp only[↓zP,zJ,seval,Bm,Hw,gM,xI,oL (gM p2),oL (gM q1),oL xI,zn];refine bW (KD qR ilb _) ?_;simp only[↓zP,zJ,seval,Bm,d1,f4,n0,n1,zn,z2];have ttt:(decide (p2<=q1)||decide (q2<=p1))=true:=(by simp[c1]);generalize hZ:aA.set _ (H1.next+4) _=HZ;have hz:Over HB HZ:=(by subst hZ;exact(((((((((Over.refl HB).alloc _).alloc _).set (by omega) _).set (by omega) _).alloc _).alloc _).set (by omega) _).set (by omega) _));clear hZ;have hzn:=hz.le;refine⟨rfl,_,_,by rw[aA.aC,if_neg (by decide)];exact(hz.same 6 (by omega)).trans z6,by rw[ttt];rfl,?_,by simp only[aA.aW];omega,fun j h1 h2=>?_⟩
    · rw[ttt,if_pos rfl];exact⟨by rw[aA.aC,if_neg (by decide),aA.aC,if_pos rfl],by simp only[aA.aW];omega,by rw[aA.aC,if_neg (by decide),aA.aC,if_neg (by decide)];exact(hz.same 5 (by omega)).trans ((zo 5 (by decide) (by omega)).trans w7),_,_,by rw[aA.aC,if_pos rfl]⟩
    by_cases j6:j=6
    · omega
    rw[aA.aC,if_neg j6,aA.aC,if_neg (by omega)];exact(hz.same j (by omega)).trans (zo j j6 h2)
  have d1:decide (kS (some p2) (some q1)<=0)=false:=by rw[uP];exact Ae c1
  simp only[↓zP,zJ,seval,Bm,Hw,gM,xI,oL (gM p2),oL (gM q1),oL xI,zn];refine bW (KD qR ilb _) ?_;simp only[↓zP,zJ,seval,Bm,Hw,d1,gM,zn,oL (gM p1),oL (gM q2)];refine bW (KD uM ila _) ?_;by_cases c2:q2<=p1
  · have d2:decide (kS (some q2) (some p1)<=0)=true:=by rw[uP];exact Af c2
    simp only[↓zP,zJ,seval,Bm,d2,f4,n0,n1,zn,z2];have ttt:(decide (p2<=q1)||decide (q2<=p1))=true:=(by simp[c2]);generalize hZ:aA.set _ (H1.next+4) _=HZ;have hz:Over HB HZ:=(by subst hZ;exact(((((((((Over.refl HB).alloc _).alloc _).set (by omega) _).set (by omega) _).alloc _).alloc _).set (by omega) _).set (by omega) _));clear hZ;have hzn:=hz.le;refine⟨rfl,_,_,by rw[aA.aC,if_neg (by decide)];exact(hz.same 6 (by omega)).trans z6,by rw[ttt];rfl,?_,by simp only[aA.aW];omega,fun j h1 h2=>?_⟩
    · rw[ttt,if_pos rfl];exact⟨by rw[aA.aC,if_neg (by decide),aA.aC,if_pos rfl],by simp only[aA.aW];omega,by rw[aA.aC,if_neg (by decide),aA.aC,if_neg (by decide)];exact(hz.same 5 (by omega)).trans ((zo 5 (by decide) (by omega)).trans w7),_,_,by rw[aA.aC,if_pos rfl]⟩
    by_cases j6:j=6
    · omega
    rw[aA.aC,if_neg j6,aA.aC,if_neg (by omega)];exact(hz.same j (by omega)).trans (zo j j6 h2)
  have d2:decide (kS (some q2) (some p1)<=0)=false:=by rw[uP];exact Ae c2
  simp only[↓zP,zG,seval,d2];generalize hZ:aA.set _ (H1.next+4) _=HZ;have hz:Over HB HZ:=by subst hZ;exact(((((((((Over.refl HB).alloc _).alloc _).set (by omega) _).set (by omega) _).alloc _).alloc _).set (by omega) _).set (by omega) _)
  clear hZ;have hzn:=hz.le;have ttt:(decide (p2<=q1)||decide (q2<=p1))=false:=by simp[c1,c2]
  refine⟨rfl,_,_,(hz.same 6 (by omega)).trans z6,by rw[ttt];rfl,?_,by simp only[aA.aW];omega,fun j h1 h2=>?_⟩
  · rw[ttt,if_neg (by decide)]
    have hk:∀(ob:fE) (j:Nat),j<6->(HZ.set 6 ob).get j=H1.get j:=fun ob j hj=>by rw[aA.aC,if_neg (by omega)];exact(hz.same j (by omega)).trans (zo j (by omega) (by omega))
    exact⟨by simp only[aA.aW];omega,(hk _ 0 (by decide)).trans w2,(hk _ 1 (by decide)).trans w3,(hk _ 2 (by decide)).trans w4,(hk _ 3 (by decide)).trans w5,(hk _ 4 (by decide)).trans w6,(hk _ 5 (by decide)).trans w7,by rw[aA.aC,if_pos rfl]⟩
  by_cases j6:j=6
  · omega
  rw[aA.aC,if_neg j6];exact(hz.same j (by omega)).trans (zo j j6 h2)
 obtain⟨He,QD,hS⟩:=MK (ta:=ta) (tb:=tb) hMU fa fb ea eb nU nW lSa lSb hSb lU lW (id:=6) (r1:=3) (r2:=4) (o1:=false) (o2:=false) I Stop (oT a b) iE QG fL (fun k H1 h=>by rw[yn];exact h.1) (by rw[yn];decide) (by rw[yn];decide) h0.2.2.2.2.1 h0.2.2.2.2.2.1 (fun k H' h=>⟨h.2.2.2.2.1,h.2.2.2.2.2.1⟩) h0
 cases ML:(lD Sa Sb U W).any (oT a b) with
 |true=>
  rw[ML,if_pos rfl] at QD;obtain⟨w1,w2,w3,k,s,w4⟩:=QD;refine⟨_,He,_,_,_,hS,w4,fun Hf hf=>?_⟩;obtain⟨e1,e2⟩:=hf;have b2:Hf.get 2=some (.cells [.bool true] false):=by rw[e2,if_neg (by decide)];exact w1
  have b5:Hf.get 5=some .LZ:=by rw[e2,if_neg (by decide)];exact w3
  refine⟨b5,[.bool true],?_,rfl⟩;simp only[↓zP,zR,seval,f4,b2]
 |false=>
  rw[ML,if_neg (by decide)] at QD;obtain⟨w1,w2,w3,w4,w5,w6,w7,w8⟩:=QD;refine⟨_,He,_,_,_,hS,w8,fun Hf hf=>?_⟩;obtain⟨e1,e2⟩:=hf;have b2:Hf.get 2=some (.cells [.bool false] false):=by rw[e2,if_neg (by decide)];exact w4
  have b5:Hf.get 5=some .LZ:=by rw[e2,if_neg (by decide)];exact w7
  show K f [.mark 5] Hf;apply hK;simp only[↓zP,zJ,seval,f4,b2];refine⟨by rw[aA.aC,if_neg (by decide)];exact b5,[.bool false],?_,by rw[ML];rfl⟩;simp only[↓zP,zR,seval,f4]
end Go.Proofs.YtndkpgceodimiaaGreatDoor
namespace Go.Proofs.YtndkpgceodimiaaGreatDoor
open Go Go.Av Go.aI
theorem Oh (l:List aI.V):∃C,Ord l C:=by obtain⟨s,h1,h2⟩:=vK (fun a b:aI.V=>¬iI b a) (fun {a b c} h h'=>by unfold iI at *;omega) (fun a b=>by unfold iI;omega) l;exact⟨dd s s.length,XX h2 _ (Ak _),fun v=>by rw[Nb s v _ (Ak _),Ao];exact h1.mem_iff⟩
noncomputable def QT (l:List aI.V):List aI.V:=Classical.choose (Oh l)
theorem xH (l:List aI.V):Ord l (QT l):=Ik (Oh l)
noncomputable def jH (C:List aI.V):List (aI.V×Int):=Classical.choose (oV.exists (fun i=>C.getD i V0) C.length)
theorem tD (C:List aI.V):oV (fun i=>C.getD i V0) C.length (jH C):=Ik (oV.exists (fun i=>C.getD i V0) C.length)
open Classical in
noncomputable def nG (C:List aI.V) (q:aI.V×Int):List Nat:=if h:∃L,Poly (fun i=>C.getD i V0) C.length q.1 q.2 L then Classical.choose h else []
theorem NN {C:List aI.V} (h:C.Pairwise iI):rp (fun i=>C.getD i V0) C.length:=fun i j yS hj=>by
 have h1:C.getD i V0=C[i]:=by simp[List.getD,Ci yS hj]
 have h2:C.getD j V0=C[j]:=by simp[List.getD,hj]
 simp only[h1,h2];exact Gc.1 h i j (Ci yS hj) hj yS
theorem pB {C:List aI.V} (h:C.Pairwise iI):wD C (jH C) (nG C) where
 fl:=tD C
 po q hq:=by have hF:=((tD C).mem q).1 hq;have hx:=Poly.exists (NN h) hF.Zj;unfold nG;rw[dif_pos hx];exact Ik hx
noncomputable def pQ (l:List aI.V):Int:=NS l (QT l) (jH (QT l)) (nG (QT l))
theorem Oi {l:List aI.V} (h:l.Pairwise iI):QT l=l:=Ord.uniq (xH l) ⟨h,fun v=>Iff.rfl⟩
theorem xP {l:List aI.V} (h:pQ l=0):l.Pairwise iI/\QT l=l/\jH l≠[]/\(jH l).length<=64/\l.length<=64/\l≠[]/\∀v∈l,bT (2^18) v:=by
 unfold pQ NS at h;split at h
 · cases h
 rename_i h1;have h2:gY (QT l) (jH (QT l)) (nG (QT l))=l:=Cu fun hc=>h1 ⟨h,hc⟩;obtain⟨a1,a2,a3⟩:=TE h;have hs:=(xH l).Rw
 have AN:l.Pairwise iI:=by rw[<-h2];unfold gY;rw[Ih];refine Jj (R:=fun a b=>a<b) ?_ (List.Pairwise.filter _ Jn);intro a b ha hb CQ;exact NN hs a b CQ (by simpa using(Fk.1 hb).1)
 have he:=Oi AN;have cK:=OE (pB hs) a1;rw[h2] at cK;rw[he] at a1;refine⟨AN,he,a1,?_,a3,cK,?_⟩
 · unfold iT at h;rw[he] at h;split at h
   · cases h
   split at h
   · cases h
   split at h
   · cases h
   split at h
   · cases h
   omega
 unfold iT at h;split at h
 · cases h
 split at h
 · cases h
 rename_i hb;intro v hv;have IA:l.all aw=true:=by simpa using hb
 exact OG.1 (Aw.1 IA v hv)
theorem GZ:pQ []=120:=by
 have h:QT []=[]:=Oi .nil;unfold pQ NS;rw[h]
 have hS:jH []=[]:=by
  cases hf:jH [] with
  |nil=>rfl
  |cons q r=>have :=((tD []).mem q).1 (by rw[hf];simp);obtain⟨k,hk,_⟩:=this.lt;exact absurd hk (As _)
 rw[hS];rfl
def IsE (l:List aI.V) (v:aI.V):Prop:=∃q:aI.V×Int,pP (fun i=>l.getD i V0) l.length q.1 q.2/\∃a b,Sd q.1 (fun i=>l.getD i V0) (kA (fun i=>l.getD i V0) l.length q.1 q.2) a b/\a∈kA (fun i=>l.getD i V0) l.length q.1 q.2/\a<b/\v=aI.sub (l.getD b V0) (l.getD a V0)
def IsD (a b:List aI.V) (n:aI.V):Prop:=(∃d,pP (fun i=>a.getD i V0) a.length n d)\/(∃d,pP (fun i=>b.getD i V0) b.length n d)\/∃u w,IsE a u/\IsE b w/\n=aI.aT u w/\n≠V0
open Classical in
noncomputable def nX (a b:List aI.V):Bool:=decide (∃n,IsD a b n/\oT a b n=true)
theorem qZ {a b:List aI.V}:nX a b=true↔∃n,IsD a b n/\oT a b n=true:=by unfold nX;exact @decide_eq_true_iff _ (Classical.propDecidable _)
theorem ei {l:List aI.V} {S:List (aI.V×Int)} {L:aI.V×Int->List Nat} (hS:wD l S L) (hlen:l.length<=64):∀q∈S,(L q).length<=64:=fun q hq=>by obtain⟨s,r,m,e,W,h⟩:=(hS.po q hq).ex;rw[h,Ai,Bp];have h1:=W.le;have h2:=De (fun k=>decide (aI.dot q.1 (l.getD k V0)=q.2)) (List.range l.length);rw[Bp] at h2;have h3:(kA (fun i=>l.getD i V0) l.length q.1 q.2).length<=l.length:=h2;omega
theorem aEi {L:aI.V×Int->List Nat}:∀T:List (aI.V×Int),(∀q∈T,(L q).length<=64)->(Mh T L).length<=T.length*64:=fun T=>by
 induction T with
 |nil=>intro _;simp[Mh]
 |cons q T ih=>intro h;have h1:=ih fun x hx=>h x (Ay _ hx);have h2:=h q Ax;have h3:=lZ (fun i=>if(L q).getD i 0<(L q).getD ((i+1)%(L q).length) 0 then [((((L q).getD i 0:Nat):Int),(((L q).getD ((i+1)%(L q).length) 0:Nat):Int))] else []) 1 (fun i=>by split<;>simp) (List.range (L q).length);rw[Bp,Dt] at h3;have h4:(Wf (L q) (L q).length).length<=(L q).length:=h3;simp only[Mh,Dr,Au,Aq,Cn,Gp] at h1 ⊢;omega
theorem IZ {l:List aI.V} {S:List (aI.V×Int)} {L:aI.V×Int->List Nat} (hS:wD l S L) {x:Int×Int}:
 x∈Mh S L↔∃q∈S,∃a b:Nat,aI.Next (L q) a b/\a<b/\x=pN (a,b):=by
 simp only[Mh,Fa];constructor
 · rintro⟨q,hq,hx⟩;simp only[Wf,Fa,Ba] at hx;obtain⟨i,hi,hx⟩:=hx;split at hx
   · rename_i h;rw[Bn] at hx;have Pc:(i+1)%(L q).length<(L q).length:=Dg _ (by omega);refine⟨q,hq,(L q).getD i 0,(L q).getD ((i+1)%(L q).length) 0,⟨i,hi,?_,?_⟩,h,hx⟩
     · simp[List.getD,hi]
     simp[List.getD,Pc]
   cases hx
 rintro⟨q,hq,a,b,⟨i,hi,h1,h2⟩,CQ,rfl⟩;refine⟨q,hq,?_⟩;simp only[Wf,Fa,Ba];refine⟨i,hi,?_⟩;have e1:(L q).getD i 0=a:=by simp[List.getD,h1]
 have e2:(L q).getD ((i+1)%(L q).length) 0=b:=by simp[List.getD,h2]
 rw[e1,e2,if_pos CQ];simp[pN]
theorem Nf {l:List aI.V} (hl:l.Pairwise iI) {S:List (aI.V×Int)} {L:aI.V×Int->List Nat} (hS:wD l S L) (cK:S≠[]):Mh S L≠[]:=by
 obtain⟨q,r,rfl⟩:=Ee cK;have hq:=Ax (a:=q) (l:=r);have hF:=(hS.fl.mem q).1 hq;have hP:=hS.po q hq
 have hlen:0<(L q).length:=by obtain⟨s,r',m,e,W,h⟩:=hP.ex;rw[h];simpa using W.pos
 have Pc:(0+1)%(L q).length<(L q).length:=Dg _ hlen;have hN:aI.Next (L q) (L q)[0] (L q)[(0+1)%(L q).length]:=⟨0,hlen,Ab hlen,Ab Pc⟩;generalize (L q)[0]=a at *;generalize (L q)[(0+1)%(L q).length]=b at *;have RO:=hP.pJ.1 hN;have CQ:b≠a:=RO.2.2.1;intro he
 rcases Gd a b with h|h
 · have :pN (a,b)∈Mh (q::r) L:=(IZ hS).2 ⟨q,hq,a,b,hN,h,rfl⟩;rw[he] at this;cases this
 obtain⟨n',d',L',F',P',hN'⟩:=hP.back (NN hl) hF hN;have Wl:=(hS.fl.mem (n',d')).2 F';have hL':=P'.uniq (hS.po _ Wl);rw[hL'] at hN';have :pN (b,a)∈Mh (q::r) L:=(IZ hS).2 ⟨(n',d'),Wl,b,a,hN',by omega,rfl⟩;rw[he] at this;cases this
theorem RR {tag:Nat} (ht:Nat.blt tag 2=true) {l:List aI.V} (h0:pQ l=0):∃U:List aI.V,U.length<=2^20/\(∀v,v∈U↔IsE l v)/\(∀v∈U,bT (2^19) v)/\
 (∀H,Sg 114 [.agg [.aU tag 3 (bS l)]] H (.ret (.aU (H.next+2) 5 ((jH l).map (cU (nG l))))) (H.alloc .tok))/\
 ∀H,Sg 115 [.agg [.aU tag 3 (bS l)]] H (.ret (.aU 0 3 (bS U))) H:=by
 obtain⟨hs,_,cK,HW,hlen,OA,hn⟩:=xP h0;have hF:=pB hs;obtain⟨E,p1,p2,p3⟩:=ry ht hn (Ak _) hlen hF cK HW;have hE:∀x∈E,∃q∈jH l,∃a b:Nat,aI.Next (nG l q) a b/\a<b/\x=pN (a,b):=fun x hx=>(IZ hF).1 (p1.mem_iff.1 hx)
 have Sx:E=(E.map fun x=>(x.1.toNat,x.2.toNat)).map pN:=by rw[En];refine(Hx E).symm.trans (Ej fun x hx=>?_);obtain⟨q,hq,a,b,_,_,rfl⟩:=hE x hx;simp[pN]
 have Uz:E.length<=2^20:=by rw[p1.length_eq];have :=aEi (L:=nG l) (jH l) (ei hF hlen);have :(jH l).length*64<=64*64:=Bq HW (Ak _);omega
 have hE0:E≠[]:=fun h=>Nf hs hF cK (by rw[h] at p1;exact List.Perm.eq_nil p1.symm);generalize hE':(E.map fun x=>(x.1.toNat,x.2.toNat))=E' at *
 have Xv:∀p:Nat×Nat,p∈E'↔∃q∈jH l,aI.Next (nG l q) p.1 p.2/\p.1<p.2:=fun p=>by
  rw[<-hE',Bf];constructor
  · rintro⟨x,hx,rfl⟩;obtain⟨q,hq,a,b,h1,h2,rfl⟩:=hE x hx;exact⟨q,hq,by simpa [pN] using h1,by simpa [pN] using h2⟩
  rintro⟨q,hq,h1,h2⟩;exact⟨pN p,p1.mem_iff.2 ((IZ hF).2 ⟨q,hq,p.1,p.2,h1,h2,rfl⟩),by simp[pN]⟩
 have Wj:∀q∈jH l,∀a b,aI.Next (nG l q) a b->a<l.length/\b<l.length:=fun q hq a b h=>by have h1:=(hF.po q hq).pJ.1 h;exact⟨(dK.1 h1.1).1,(dK.1 h1.2.1).1⟩
 refine⟨E'.map (DE l),?_,?_,?_,fun H=>KF ht hn (Ak _) hlen hF cK H,fun H=>h9 ht hn (Ak _) (E:=E') ?_ ?_ ?_ ?_ H⟩
 · rw[Ai,<-hE',Ai];exact Uz
 · intro v;rw[Bf];constructor
   · rintro⟨p,hp,rfl⟩;obtain⟨q,hq,h1,h2⟩:=(Xv p).1 hp;have h3:=(hF.po q hq).pJ.1 h1;exact⟨q,(hF.fl.mem q).1 hq,p.1,p.2,h3.2,h3.1,h2,rfl⟩
   rintro⟨q,hq,a,b,h1,h2,h3,rfl⟩;have Wl:=(hF.fl.mem q).2 hq;exact⟨(a,b),(Xv (a,b)).2 ⟨q,Wl,(hF.po q Wl).pJ.2 ⟨h2,h1⟩,h3⟩,rfl⟩
 · intro v hv;obtain⟨p,hp,rfl⟩:=Bf.1 hv;obtain⟨q,hq,h1,h2⟩:=(Xv p).1 hp;obtain⟨b1,b2⟩:=Wj q hq _ _ h1
   have hg:∀k,k<l.length->bT (2^18) (l.getD k V0):=fun k hk=>by have :l.getD k V0=l[k]:=(by simp[List.getD,hk]);rw[this];exact hn _ (Ac hk)
   exact fV (hg _ b2) (hg _ b1)
 · rw[<-hE',Ai];exact Uz
 · intro e;rw[<-hE',Hl] at e;exact hE0 e
 · intro p hp;obtain⟨q,hq,h1,h2⟩:=(Xv p).1 hp;exact Wj q hq _ _ h1
 rw[<-Sx];exact p3
theorem aEh {ta tb:Nat} (qu:Nat.blt ta 2=true) (qw:Nat.blt tb 2=true) {a b:List aI.V} (ha:pQ a=0) (hb:pQ b=0) (H:aA):
 Sg 52 [.agg [.aU ta 3 (bS a)],.agg [.aU tb 3 (bS b)]] H (.ret (.bool (nX a b))) H:=by
 obtain⟨U,lU,mU,nU,fa,ea⟩:=RR qu ha;obtain⟨W,lW,mW,nW,fb,eb⟩:=RR qw hb;obtain⟨sa,_,ha1,ha2,ha3,ha4,na⟩:=xP ha;obtain⟨sb,_,dR,fH,tS,uK,nb⟩:=xP hb;have hFa:=pB sa;have hFb:=pB sb
 have vO:∀n,n∈lD (jH a) (jH b) U W↔IsD a b n:=fun n=>by
  have m1:∀(l:List aI.V) (hs:l.Pairwise iI),n∈(jH l).map (·.1)↔∃d,pP (fun i=>l.getD i V0) l.length n d:=fun l hs=>by
   rw[Bf];constructor
   · rintro⟨q,hq,rfl⟩;exact⟨q.2,((tD l).mem q).1 hq⟩
   rintro⟨d,hd⟩;exact⟨(n,d),((tD l).mem (n,d)).2 hd,rfl⟩
  have m2:n∈MI U W↔∃u w,IsE a u/\IsE b w/\n=aI.aT u w/\n≠V0:=by
   simp only[MI,Fa,List.mem_filterMap];constructor
   · rintro⟨u,hu,w,hw,h⟩;split at h
     · cases h
     rename_i hc;obtain rfl:=Aa h;exact⟨u,w,(mU u).1 hu,(mW w).1 hw,rfl,hc⟩
   rintro⟨u,w,hu,hw,rfl,hn⟩;exact⟨u,(mU u).2 hu,w,(mW w).2 hw,by rw[if_neg hn]⟩
  unfold lD IsD;rw[Cf,An,An,m1 a sa,m1 b sb,m2,or_assoc]
 have IH:nX a b=(lD (jH a) (jH b) U W).any (oT a b):=by rw[Cg,Bu];rw[qZ];exact exists_congr fun n=>and_congr_left' (vO n).symm
 rw[IH];refine UJ qu qw na nb (Ak _) (by omega) (by omega) ha4 uK (MU:=2^19) (by decide) fa fb ea eb nU nW ha2 fH dR lU lW (B:=2*(2^19*2^19)) (fun n hn=>?_) (by decide) H
 rcases(vO n).1 hn with ⟨d,h⟩|⟨d,h⟩|⟨u,w,hu,hw,rfl,_⟩
 · exact qF (q:=(n,d)) na h
 · exact qF (q:=(n,d)) nb h
 exact kK (nU u ((mU u).2 hu)) (nW w ((mW w).2 hw))
end Go.Proofs.YtndkpgceodimiaaGreatDoor
