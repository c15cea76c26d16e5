/-
  Part of the proof of statement 12
-/
import Derived.Test.YtgggiembljfnhaaGreatDoorB23
import Derived.Test.YtgggiembljfnhaaGreatDoorB18
import Derived.Test.YtgggiembljfnhaaGreatDoorB24
import Derived.Test.YtgggiembljfnhaaGreatDoorB17
import Derived.Test.YtgggiembljfnhaaGreatDoorB16
import Derived.Test.YtgggiembljfnhaaGreatDoorB06
import Derived.Test.YtgggiembljfnhaaGreatDoorB05
import Derived.Test.YtgggiembljfnhaaGreatDoorB07
import Derived.Test.YtgggiembljfnhaaGreatDoorB21
import Derived.Test.YtgggiembljfnhaaGreatDoorB22
import Derived.Test.YtgggiembljfnhaaGreatDoorB15
import Derived.Test.YtgggiembljfnhaaGreatDoorB19
import Derived.Test.YtgggiembljfnhaaGreatDoorRows
set_option linter.unusedVariables false
set_option linter.unusedSimpArgs false
set_option maxRecDepth 100000
set_option maxHeartbeats 16000000
namespace Go.Proofs.YtgggiembljfnhaaGreatDoor
open Go Go.Av Go.aP
attribute [local congr] aT aI aL aH aX aQ aM aF aY
attribute [local irreducible] FC bS eF
theorem ql {t1 t2:Nat} (h1:Nat.blt t1 2=true) (h2:Nat.blt t2 2=true) {a b:List aP.V} (ha:a.length<2^30) (hb:b.length<2^30) (H:aA):
 Sg 123 [.bD t1 3 (cH a),.bD t2 3 (cH b)] H (.ret (.bool (decide (a=b)))) H:=by
 refine So aWy (by simp only[sf,dL h1,dL h2]) ?_ H;unfold aLv;dsimp only;refine bQ ?_;refine Tz ?_;refine bR ?_;refine aN fun K hK=>?_;by_cases hl:a.length=b.length
 . have hn:((a.length:Int) != (b.length:Int))=false:=by simp[hl]
   simp only[↓zP,zJ,seval,aU,hn];apply hK;clear hK K;refine aN fun K hK=>?_;refine bQ ?_;refine Ty ?_;refine bR ?_;refine cV [] (fun i vs H=>a.take i=b.take i) a.length (by omega) (by decide) ?_ ?_ ?_ ?_ ?_
   . exact zq
   . simp only[zB,seval,aU]
   . rfl
   . rintro i f H1 hi hk e1 FX;have hib:i<b.length:=(by omega);have ga:=dD hi;have gb:=dD hib;refine aJ ?_;refine bQ ?_;simp only[↓zP,zG,seval,e1];refine fF ?_;refine Dz ?_;simp only[↓zP,zJ,seval,zD,hk 0 rfl,hk 1 rfl,aB,aU,hi,hib,ga,gb,oL (aV a[i]),oL (aV b[i]),nG];refine bR ?_;by_cases he:a[i]=b[i]
     . have gJ:(!decide (a[i]=b[i]))=false:=(by simp[he]);simp only[↓zP,zG,seval,gJ];rw[An,An,FX,Ad hi,Ad hib,he]
     have gJ:(!decide (a[i]=b[i]))=true:=(by simp[he]);simp only[↓zP,zG,seval,gJ];refine Rx ?_;rw[Ag]
     . rfl
     rintro rfl;exact he rfl
   rintro f H1 hk FX;rw[Ax,hl,Ax] at FX;refine Tx ?_;apply hK;refine Tz ?_;refine Rx ?_;rw[Aj FX];rfl
 have hn:((a.length:Int) != (b.length:Int))=true:=by simp;omega
 simp only[↓zP,zJ,seval,aU,hn];refine Rx ?_;rw[Ag]
 . rfl
 rintro rfl;exact hl rfl
theorem Oh (H:aA):Sg 155 [.aO] H (.ret .aO) H:=by
 refine eC fit eZ aKb (Ai rfl) Zag ?_ H;unfold aDd;dsimp only;refine bQ ?_;refine Tz ?_;refine fF ?_;refine Ty ?_;refine bR ?_;refine aN fun K hK=>?_;refine bQ ?_;refine Ty ?_;refine bR ?_;refine cV [] (fun i _ H=>H.get 0=some (.map [])/\1<=H.next) 0 (by decide) (by decide) ?_ ?_ ?_ ?_ ?_
 . exact zq
 . exact zq
 . exact⟨rfl,Ab _⟩
 . rintro i f H hi;exact absurd hi (Ap _)
 rintro f H hk ⟨hmp,AJ⟩;refine Tx ?_;apply hK;clear hK K;refine bQ ?_;refine Tz ?_;refine bR ?_;refine aN fun K hK=>?_;refine bQ ?_;simp only[↓zP,zG,seval,hk 3 rfl];refine Kz (by decide) (by simp only[↓zP,seval]) hmp fun bs c mb Uq hbn=>?_;refine Tx ?_;refine bR ?_;obtain rfl:bs=[]:=Cm Uq;generalize jQ:H.next=it at *;refine aJ ?_;refine iP [10] (fun m vs H'=>vs=[.aO]/\H'.get it=some (.iter 0 mb c [])/\H'.get 0=some (.sN [] [] c mb)) 0 (by rfl) ?_ ?_
 . refine⟨by simp only[sm,zB,seval],by simp only[seval,zI,jQ],?_⟩;simp only[seval,zI,jQ];rw[if_neg (by omega)]
 rintro m f2 H2 eP ⟨hv,gi,g0⟩;simp only[zM] at hv;refine bQ ?_;refine Tx ?_;refine Mo (by decide) (by simp only[↓zP,seval,eP 73 rfl]) gi g0 (fun bU=>?_) fun j hj hnj=>absurd hj (Ap _);refine Tz ?_;refine bR ?_;refine Tz ?_;apply hK;clear hK K;simp only[↓zP,zG,seval,hv];refine bY (pE Tryz.aBw rfl TI 209 _) ?_;simp only[↓zP,zG,seval,hv];refine Rx ?_;exact⟨_,0,rfl,fun nw=>rfl⟩
theorem ux (b:Bool) (A B:Prop):jP aD b A B=B:=eD id id
theorem UK (x:Int):zS x 0=uS x:=by unfold zS uS;split<;>(try split)<;>omega
theorem Me (x:Int):(uS x).natAbs<=1:=by unfold uS;split<;>(try split)<;>decide
theorem cz (n c:aP.V) {i:Nat} (hi:i<3) (h0:∀k,k<i->n.at k=0) (h:n.at i≠0):aP.rX n c=uS (c.at i)*uS (n.at i):=by
 unfold aP.rX
 match i,hi with
 |0,_=>rw[if_pos (show n.x≠0 from h)];rfl
 |1,_=>rw[if_neg (show ¬n.x≠0 from fun e=>e (h0 0 (by decide))),if_pos (show n.y≠0 from h)];rfl
 |2,_=>rw[if_neg (show ¬n.x≠0 from fun e=>e (h0 0 (by decide))),if_neg (show ¬n.y≠0 from fun e=>e (h0 1 (by decide))),if_pos (show n.z≠0 from h)];rfl
theorem Rk (n c:aP.V) (h0:∀k,k<3->n.at k=0):aP.rX n c=0:=by unfold aP.rX;rw[if_neg (show ¬n.x≠0 from fun e=>e (h0 0 (by decide))),if_neg (show ¬n.y≠0 from fun e=>e (h0 1 (by decide))),if_neg (show ¬n.z≠0 from fun e=>e (h0 2 (by decide)))]
theorem aIe {a b:aP.V} {A B:Nat} (n:aP.V) (ha:cG A a) (hb:cG B b) (hs:A*B<2^61) (H:aA):
 Sg 213 [.agg (cU n),.agg (cU a),.agg (cU b)] H (.ret (.int .i64 (aP.rX n (aP.bC a b)))) H:=by
 refine So aZe Zal ?_ H;unfold aOa;dsimp only;refine aN fun K hK=>?_;simp only[↓zP,zG,seval,zI];apply hK;clear hK K;refine aN fun K hK=>?_;simp only[↓zP,zG,seval,zI,oL (aV a),oL (aV b)];refine bY (Qt ha hb hs _) ?_;generalize hc:aP.bC a b=c;simp only[↓zP,zG,seval,zI,oL (aV c)];apply hK;clear hK K;refine aN fun K hK=>?_;refine aN fun K2 bW=>?_;simp only[↓zP,zG,seval,zI,oL (aV n)];apply bW;clear bW K2;refine jL [] (fun i _ H=>(∀k,k<i->n.at k=0)/\H.get 3=some (.cells (cU c) false)) 3 (by decide) rfl (by decide) ?_ ?_ ?_ ?_
 . exact zq
 . refine⟨fun k hk=>absurd hk (Ap _),?_⟩;simp only[zI,seval]
 . rintro i f H hi hk e1 ⟨h0,g3⟩;refine aJ ?_;have EY:i<=2:=by omega
   have MM:i+1<=3:=hi;by_cases hz:n.at i=0
   . have hb:(n.at i != 0)=false:=(by simp[hz]);simp only[↓zP,zG,seval,zI,e1,hk 13 rfl,aB,kQ n hi,aV,g3,hi,MM,hb];refine⟨fun k hk=>?_,trivial⟩;by_cases wx:k=i
     . subst wx;exact hz
     exact h0 k (by omega)
   have hb:(n.at i != 0)=true:=(by simp[hz]);simp only[↓zP,zG,seval,zI,e1,hk 13 rfl,hk 7 rfl,aB,kQ n hi,aV,g3,hi,MM,kQ c hi,hb];refine bY (lN (c.at i) 0 _) ?_;refine Tz ?_;refine bY (lN (n.at i) 0 _) ?_;rw[UK,UK]
   have w:IntKind.i64.wrap (uS (c.at i)*uS (n.at i))=uS (c.at i)*uS (n.at i):=fV (B:=1*1) (by rw[Ga];exact Bt (Me _) (Me _)) (by decide)
   simp only[↓zP,zG,seval,w];refine Rx ?_;rw[hc,cz n c hi h0 hz];rfl
 rintro f H hk ⟨h0,g3⟩;refine Tx ?_;apply hK;refine Tz ?_;refine Rx ?_;rw[hc,Rk n c h0];rfl
def yP (on:List Nat):List (List AV):=on.map fun(k:Nat)=>[AV.int .i64 (k:Int)]
theorem eM (on:List Nat):(yP on).length=on.length:=by simp[yP]
theorem AW {on:List Nat} {i:Nat} (h:i<on.length):(yP on).getD i []=[AV.int .i64 (on[i]:Int)]:=gK h
def bI:Option Nat->Int
 |none=> -1
 |some k=>k
structure aCs (H H':aA):Prop where
 free:cJ H'
 le:H.next<=H'.next
 same:∀j,j<H.next->H'.get j=H.get j
theorem Qm {n:aP.V} {p:Nat->aP.V} {a:Nat} {on:List Nat}:∀(l:List Nat) (xH:Option Nat) {b:Nat},l.foldl (gZ n p a) xH=some b->(∀k∈l,k∈on)->(∀c,xH=some c->c∈on)->b∈on
 |[],xH,b,h,_,hb=>hb b h
 |k::l,xH,b,h,hl,hb=>by
  refine Qm l _ h (fun x hx=>hl x (Au _ hx)) fun c hc=>?_;have hk:=hl k Ar;unfold gZ at hc;split at hc
  . exact hb c hc
  split at hc
  . cases hc;exact hk
  split at hc
  . cases hc;exact hk
  cases hc;exact hb _ rfl
theorem zl {n:aP.V} {p:Nat->aP.V} {a:Nat} {on l:List Nat} {b:Nat} (h:l.foldl (gZ n p a) none=some b) (hl:∀k∈l,k∈on):b∈on:=
 Qm l none h hl fun c hc=>by cases hc
theorem bg {tag t1:Nat} {o1 o2 o3:Bool} {l:List aP.V} {M:Nat} (hl:∀v∈l,cG M v) (hM:M<=2^18) (hlen:l.length<=64) {on:List Nat} (j4:∀k∈on,k<l.length) (hol:on.length<=64) {a:Nat} (ha:a<l.length) (q:aP.V×Int)
 {H:aA} (hf:cJ H) {i1 i2 i3:Nat} (b1:i1<H.next) (b2:i2<H.next) (b3:i3<H.next) (g1:H.get i1=some (.cells [.bD t1 1 (yP on)] o1)) (g2:H.get i2=some (.cells [.bD tag 3 (cH l)] o2)) (g3:H.get i3=some (.cells (lF q) o3)):
 ∃H',aCs H H'/\Sg 211 [.int .i64 a,.ref i1 0,.ref i2 0,.ref i3 0] H (.ret (.int .i64 (bI (LZ q.1 (fun i=>l.getD i V0) on a)))) H':=by
 suffices h:∃out H',(out=.ret (.int .i64 (bI (LZ q.1 (fun i=>l.getD i V0) on a)))/\aCs H H')/\Sg 211 [.int .i64 a,.ref i1 0,.ref i2 0,.ref i3 0] H out H' by obtain⟨_,H',⟨rfl,hm⟩,hS⟩:=h;exact⟨H',hm,hS⟩
 refine cZ fit aZc (Ai rfl) ?_;unfold aNy;dsimp only;have cY:∀k (h:k<l.length),l.getD k V0=l[k]:=fun k h=>by simp[List.getD,h]
 refine aN fun K hK=>?_;refine Tz ?_;apply hK;clear hK K;refine aN fun K hK=>?_;refine Tz ?_;apply hK;clear hK K;refine aN fun K hK=>?_;refine aN fun K2 bW=>?_;simp only[↓zP,zG,seval,zI,g1];apply bW;clear bW K2;refine cV [6] (fun i vs H'=>vs=[.int .i64 (bI ((on.take i).foldl (gZ q.1 (fun i=>l.getD i V0) a) none))]/\aCs H H') on.length (by omega) (by decide) ?_ ?_ ?_ ?_ ?_
 . exact zq
 . simp only[zB,seval,eM]
 . exact⟨by simp only[sm,zB,seval];rfl,hf,Ab _,fun j hj=>rfl⟩
 . rintro i f H1 hi hk e1 ⟨hv,hm⟩;simp only[zM] at hv
   have gR:(on.take (i+1)).foldl (gZ q.1 (fun i=>l.getD i V0) a) none=gZ q.1 (fun i=>l.getD i V0) a ((on.take i).foldl (gZ q.1 (fun i=>l.getD i V0) a) none) on[i]:=by rw[An,Jj];simp[hi]
   have aVi:∀b,(on.take i).foldl (gZ q.1 (fun i=>l.getD i V0) a) none=some b->b<l.length:=fun b hb=>j4 b (zl hb (fun k hk=>By hk));have hg:=AW hi;have tQ:=j4 _ (Ac hi);generalize on[i]=k at *;generalize (on.take i).foldl (gZ q.1 (fun i=>l.getD i V0) a) none=xH at *;refine aJ ?_;refine aN fun K2 bW=>?_;simp only[↓zP,zG,seval,zI,e1,hk 12 rfl,aB,eM,hi,hg];apply bW;clear bW K2;refine aN fun K2 bW=>?_;simp only[↓zP,zG,seval,zI,hk 0 rfl];rw[gR];by_cases LS:k=a
   . have hb:((k:Int)==(a:Int))=true:=(by simp[LS]);have hn:gZ q.1 (fun i=>l.getD i V0) a xH k=xH:=if_pos LS;simp only[zG,seval,hb,hn,hv];exact⟨trivial,hm⟩
   have hb:((k:Int)==(a:Int))=false:=Zah;simp only[zG,seval,hb];apply bW;clear bW K2;refine aN fun K2 bW=>?_
   cases xH with
   |none=>have hn:gZ q.1 (fun i=>l.getD i V0) a none k=some k:=if_neg LS;have hd:decide (bI none<0)=true:=rfl;simp only[↓zP,zG,seval,hv,hd];rw[gR,hn];exact⟨by simp only[sm,zB,seval];rfl,hm⟩
   |some b=>
    have hn:gZ q.1 (fun i=>l.getD i V0) a (some b) k=if better q.1 (fun i=>l.getD i V0) a b k then some k else some b:=if_neg LS
    have hd:decide (bI (some b)<0)=false:=Ag (show ¬((b:Int)<0) by omega);have Uq:=aVi b rfl;have hbv:bI (some b)=(b:Int):=rfl;simp only[↓zP,zG,seval,hv,hd];apply bW;clear bW K2;have gk:=dD tQ;have gb:=dD Uq;have ga:=dD ha;refine aN fun K2 bW=>?_;refine jV 2 (by decide) hm.free.at2 fun H2 n2 e2=>?_;have h2:=(e2 i2).trans ((hm.same _ b2).trans g2);have h3:=(e2 i3).trans ((hm.same _ b3).trans g3);simp only[↓zP,zG,seval,zD,zI,hk 2 rfl,hk 0 rfl,hbv,h2,aB,aU,tQ,ha,gk,ga,oL (aV l[k]),oL (aV l[a])];have nk:=hl _ (Ac tQ);have nb:=hl _ (Ac Uq);have na:=hl _ (Ac ha);have vk:aP.sub l[k] l[a]=vec (fun i=>l.getD i V0) a k:=(by simp only[vec,cY k tQ,cY a ha]);have vb:aP.sub l[b] l[a]=vec (fun i=>l.getD i V0) a b:=(by simp only[vec,cY b Uq,cY a ha]);have nvk:=gM nk na;have nvb:=gM nb na;rw[vk] at nvk;rw[vb] at nvb;refine fP (Mi nk na (by omega) _) ?_;rw[vk];simp only[↓zP,zG,seval,zD,zI,hk 2 rfl,hk 0 rfl,hv,hbv,h2,aB,aU,ha,Uq,gb,ga,oL (aV l[a]),oL (aV l[b])];refine fP (Mi nb na (by omega) _) ?_;rw[vb];have o9:better q.1 (fun i=>l.getD i V0) a b k=(decide (aP.rX q.1 (aP.bC (vec (fun i=>l.getD i V0) a b) (vec (fun i=>l.getD i V0) a k))<0)||(decide (aP.rX q.1 (aP.bC (vec (fun i=>l.getD i V0) a b) (vec (fun i=>l.getD i V0) a k))=0)&&decide (aP.dot (vec (fun i=>l.getD i V0) a k) (vec (fun i=>l.getD i V0) a k)>aP.dot (vec (fun i=>l.getD i V0) a b) (vec (fun i=>l.getD i V0) a b)))):=rfl;generalize vec (fun i=>l.getD i V0) a k=to at *;generalize vec (fun i=>l.getD i V0) a b=wy at *;have hx1:¬(H1.next=H1.next+1):=(by omega);have hx2:¬(H1.next+1=H1.next):=(by omega);simp only[↓zP,zG,seval,zD,zI,oL (aV to),oL (aV wy),hx1,hx2,n2];apply bW;clear bW K2;generalize hX:(((H2.set H1.next _).set (H1.next+1) _).set H1.next _).set (H1.next+1) _=H3;have u1:H3.get H1.next=some (.cells (cU to) false):=(by subst hX;simp only[zI,seval,hx1]);have u2:H3.get (H1.next+1)=some (.cells (cU wy) false):=by subst hX;simp only[zI,seval]
    have hm3:aCs H H3:=by
     have AJ:H3.next=H1.next+2:=(by subst hX;simp only[aA.aW,n2]);refine⟨fun j hj=>?_,by have :=hm.le;omega,fun j hj=>?_⟩
     . have :=hm.free j (by omega);subst hX;rw[aA.aC,if_neg (by omega),aA.aC,if_neg (by omega),aA.aC,if_neg (by omega),aA.aC,if_neg (by omega),e2];exact this
     have hle:=hm.le;have :=hm.same j hj;subst hX;rw[aA.aC,if_neg (by omega),aA.aC,if_neg (by omega),aA.aC,if_neg (by omega),aA.aC,if_neg (by omega),e2];exact this
    have u3:=(hm3.same _ b3).trans g3;generalize H1.next=r at *;clear hX h2 h3 e2 n2;have pl3:(lF q).take 3=cU q.1:=rfl;have pl4:(lF q).length=4:=rfl;have hB:(M+M)*(M+M)<=2^19*2^19:=Bt (by omega) (by omega);refine aN fun K2 bW=>?_;simp only[↓zP,zG,seval,zI,hk 3 rfl,u1,u2,u3,pl3,pl4,oL (aV to),oL (aV wy)];refine bY (aIe q.1 nvb nvk (by omega) _) ?_;generalize aP.rX q.1 (aP.bC wy to)=tn at *;refine Tz ?_;apply bW;clear bW K2;refine aN fun K2 bW=>?_;refine Dz ?_;by_cases c1:tn<0
    . have d1:=Aj c1;simp only[↓zP,zG,seval,zD,zI,d1,ux];apply bW;clear bW K2;simp only[↓zP,zG,seval,zI];rw[gR,hn,if_pos (by rw[o9,d1];rfl)];exact⟨rfl,hm3⟩
    have d1:=Ag c1;by_cases c2:tn=0
    . have d2:(tn==0)=true:=Cf.2 c2;simp only[↓zP,zG,seval,zD,zI,d1,d2,u1,oL (aV to)];refine fP (HN nvk nvk (by omega) _) ?_;simp only[↓zP,zG,seval,zD,zI,u2,oL (aV wy)];refine fP (HN nvb nvb (by omega) _) ?_;simp only[↓zP,zG,seval,zD,zI];apply bW;clear bW K2;have d3:decide (tn=0)=true:=Aj c2;by_cases c3:aP.dot wy wy<aP.dot to to
      . have d4:decide (aP.dot to to>aP.dot wy wy)=true:=Aj c3;simp only[↓zP,zG,seval,zI,d4];rw[gR,hn,if_pos (by rw[o9,d1,d3,d4];rfl)];exact⟨rfl,hm3⟩
      have d4:decide (aP.dot to to>aP.dot wy wy)=false:=Ag c3;simp only[↓zP,zG,seval,zI,d4,hv];rw[gR,hn,if_neg (by rw[o9,d1,d3,d4];decide)];exact⟨rfl,hm3⟩
    have d2:(tn==0)=false:=Bq.2 c2;have d3:decide (tn=0)=false:=Ag c2;simp only[↓zP,zG,seval,zD,zI,d1,d2];apply bW;clear bW K2;simp only[↓zP,zG,seval,zI,hv];rw[gR,hn,if_neg (by rw[o9,d1,d3];simp)];exact⟨rfl,hm3⟩
 rintro f H1 hk ⟨hv,hm⟩;simp only[zM] at hv;rw[Ax] at hv;refine Tx ?_;apply hK;simp only[↓zP,zG,seval,hv];refine Rx ?_;exact⟨rfl,hm⟩
theorem Rm {n:aP.V} {p:Nat->aP.V} {on:List Nat} {s m:Nat} (h:aP.Way n p on s m (uH n p on)) (i:Nat):LZ n p on (iter (uH n p on) i s)=some (iter (uH n p on) (i+1) s):=by obtain⟨ho,hS⟩:=h.side i;obtain⟨b,hb,_⟩:=VN h.H ho (hS.crn h.H ho) ⟨_,hS.1,hS.2.1⟩;show _=some ((aP.LZ n p on _).getD 0);rw[hb];rfl
theorem aIm {n:aP.V} {p:Nat->aP.V} {on:List Nat} {s m:Nat} (h:aP.Way n p on s m (uH n p on)):2<=m:=by
 rcases Gp 1 m with h1|h1
 . exact h1
 have hm:m=1:=by have :=h.pos;omega
 have hb:=h.back;rw[hm] at hb;exact absurd hb (h.side 0).2.2.1
theorem Od {H H':aA} {sz:Nat} {v:AV} {bB:List (List AV)} (h:Own H sz v bB) (hn:H.next<=H'.next) (hk:∀k,k<H.next->H.get k=some .tok->H'.get k=some .tok):Own H' sz v bB:=by
 rcases h with ⟨rfl,rfl⟩|⟨k,rfl,h1,h2⟩
 . exact .inl ⟨rfl,rfl⟩
 exact .inr ⟨k,rfl,by omega,hk k h1 h2⟩
theorem OX (a b:List Nat):yP (a++b)=yP a++yP b:=by simp[yP]
theorem ES (a:List Nat):dT (yP a)=true:=eK (fun _=>by simp only[sf]) a
theorem Oi {tag:Nat} (ht:Nat.blt tag 2=true) {l:List aP.V} {M:Nat} (hl:∀v∈l,cG M v) (hM:M<=2^18) (hlen:l.length<=64) {q:aP.V×Int} {B:Nat} (hq:cG B q.1) (hB:3*(B*M)<2^62)
 {L:List Nat} (hP:Poly (fun i=>l.getD i V0) l.length q.1 q.2 L) (H:aA):
 Sg 156 [.bD tag 3 (cH l),.agg (lF q)] H (.ret (.bD 0 1 (yP L))) H:=by
 refine eC fit eZ aXu (Ai rfl) (by simp only[sf,dL ht,AY]) ?_ H;obtain⟨s0,r,m,j4,W,rfl⟩:=hP.ex;unfold aMq;dsimp only;have cY:∀k (h:k<l.length),l.getD k V0=l[k]:=fun k h=>by simp[List.getD,h]
 have p4:(lF q).length=4:=rfl;have p3:(lF q).take 3=cU q.1:=rfl;have p1:(lF q).getD 3 aD=.int .i64 q.2:=rfl;refine bQ ?_;refine Ty ?_;refine fF ?_;refine Ty ?_;refine bR ?_;refine aN fun K hK=>?_;refine bQ ?_;refine Ty ?_;refine bR ?_;generalize Ut:kI (fun i=>l.getD i V0) l.length q.1 q.2=on at *;have h0:cJ (((aA.mk 0 .nil |>.alloc (.cells [.bD tag 3 (cH l)] false)).alloc (.cells (lF q) false)).alloc (.cells [.aO] false)):=(((cJ.nil 0).alloc _).alloc _).alloc _;refine cV [] (fun i vs H'=>∃v,H'.get 2=some (.cells [v] false)/\Own H' 1 v (yP ((List.range i).filter fun k=>decide (aP.dot q.1 (l.getD k V0)=q.2)))/\H'.get 0=some (.cells [.bD tag 3 (cH l)] false)/\H'.get 1=some (.cells (lF q) false)/\3<=H'.next/\cJ H') l.length (by omega) (by decide) ?_ ?_ ?_ ?_ ?_
 . exact zq
 . simp only[zB,seval,aU]
 . exact⟨.aO,by simp only[zI,seval],.nil _ _,by simp only[zI,seval],by simp only[zI,seval],by simp only[zI,seval],h0⟩
 . rintro i f H1 hi hk e1 ⟨v,g2,ho,g0,g1,hn,hf⟩;have hg:=dD hi;have EX:=cY i hi;have hx:=hl _ (Ac hi)
   have vn:(List.range (i+1)).filter (fun k=>decide (aP.dot q.1 (l.getD k V0)=q.2))=(List.range i).filter (fun k=>decide (aP.dot q.1 (l.getD k V0)=q.2))++(if aP.dot q.1 l[i]=q.2 then [i] else []):=by rw[Fg,Jb];congr 1;simp only[Jl,Ju,EX,Bd]
   have vD:((List.range i).filter fun k=>decide (aP.dot q.1 (l.getD k V0)=q.2)).length<=64:=by have :=Dh (fun k=>decide (aP.dot q.1 (l.getD k V0)=q.2)) (List.range i);rw[Bw] at this;omega
   rw[vn];generalize (List.range i).filter (fun k=>decide (aP.dot q.1 (l.getD k V0)=q.2))=on0 at *;generalize l[i]=x at *;have nx1:¬(1=H1.next):=(by omega);have nx2:¬(2=H1.next):=(by omega);have nx0:¬(0=H1.next):=(by omega);refine aJ ?_;refine bQ ?_;simp only[↓zP,zJ,seval,e1,hk 11 rfl,aB,aU,hi,hg,oL (aV x)];refine fF ?_;refine Dz ?_;simp only[↓zP,zJ,seval,zD,hk 3 rfl,nx1,g1,p4,p3,oL (aV x)];refine fP (HN hq hx hB _) ?_;simp only[↓zP,zJ,seval,zD,hk 3 rfl,nx1,g1,p4,p1];refine bR ?_;generalize hX:(H1.alloc _).set H1.next _=H4;have y0:H4.get 0=some (.cells [.bD tag 3 (cH l)] false):=(by subst hX;rw[aA.aC,if_neg nx0,aA.aG,if_neg nx0];exact g0);have y1:H4.get 1=some (.cells (lF q) false):=(by subst hX;rw[aA.aC,if_neg nx1,aA.aG,if_neg nx1];exact g1);have y2:H4.get 2=some (.cells [v] false):=(by subst hX;rw[aA.aC,if_neg nx2,aA.aG,if_neg nx2];exact g2);have yn:3<=H4.next:=Zat;have yf:cJ H4:=by subst hX;exact(hf.alloc _).set (by simp) _
   have yo:Own H4 1 v (yP on0):=by refine Od ho Zat fun k h1 h2=>?_;subst hX;rw[aA.aC,if_neg (by omega),aA.aG,if_neg (by omega)];exact h2
   by_cases hc:aP.dot q.1 x=q.2
   . have hb:(aP.dot q.1 x==q.2)=true:=Cf.2 hc;obtain⟨H5,z1,z2,z3,z4,z5⟩:=Has.push (.inr yo) (ys:=[[AV.int .i64 (i:Int)]]) (bytes:=8) rfl (by simp only[eM,As,Bm];omega);simp only[↓zP,zJ,seval,hb,hk 5 rfl,y2];rw[show cK H4 1 (.bD 1 1 [[.int .i64 (i:Int)]])=some [[.int .i64 (i:Int)]] from rfl];have w2:=(z4 2 (by omega) (by rw[y2];simp)).trans y2;simp only[z1,cE,zJ,seval,w2];rw[if_pos hc,OX];exact⟨_,rfl,.inr ⟨H4.next,rfl,by simp only[aA.aW];omega,by rw[aA.aC,if_neg (by omega)];exact z3⟩,(z4 0 (by omega) (by rw[y0];simp)).trans y0,(z4 1 (by omega) (by rw[y1];simp)).trans y1,by omega,(z5 yf).set (by omega) _⟩
   have hb:(aP.dot q.1 x==q.2)=false:=Bq.2 hc;simp only[↓zP,zG,seval,hb];rw[if_neg hc,Ch];exact⟨v,y2,yo,y0,y1,yn,yf⟩
 rintro f H1 hk ⟨v,g2,ho,g0,g1,hn,hf⟩;have e0:(List.range l.length).filter (fun k=>decide (aP.dot q.1 (l.getD k V0)=q.2))=on:=Ut;rw[e0] at ho;refine Tx ?_;apply hK;clear hK K;have cQ:yP on≠[]:=by rw[j4];simp[yP]
 rcases ho with ⟨_,h⟩|⟨tk,rfl,ht1,ht2⟩
 . exact absurd h cQ
 have aJl:on.length<=64:=by have :=Dh (fun k=>decide (aP.dot q.1 (l.getD k V0)=q.2)) (List.range l.length);rw[e0,Bw] at this;omega
 have fJ:∀k∈on,k<l.length:=fun k hk=>by rw[<-Ut] at hk;exact(dX.1 hk).1
 have we:(yP on).getD 0 []=[AV.int .i64 (s0:Int)]:=by rw[j4];rfl
 have a0:asNat (.int .i64 0)=some 0:=rfl;have Lu:0<(yP on).length:=by rw[j4];simp[yP]
 have nx:∀j,j<3->¬(j=H1.next):=fun j hj=>by omega
 have hs0:=fJ _ W.hs;refine bQ ?_;simp only[↓zP,zJ,seval,hk 5 rfl,hk 2 rfl,hk 3 rfl];refine fF ?_;simp only[↓zP,zJ,seval,hk 5 rfl,g2,Lu,we,a0];refine bR ?_;obtain⟨H2,hm,hS⟩:=bg (tag:=tag) hl hM hlen fJ aJl hs0 q hf (i1:=2) (i2:=0) (i3:=1) (by omega) (by omega) (by omega) g2 g0 g1;have e0':=Rm W 0;change aP.LZ _ _ _ s0=_ at e0';rw[e0'] at hS;refine aN fun K hK=>?_;refine bQ ?_;simp only[↓zP,zJ,seval,hk 5 rfl,g2,Lu,we,a0];refine EC (fs:=[]) (cs:=[.ref 2 0,.ref 0 0,.ref 1 0]) (by decide) (by simp only[↓zP,zG,seval]) (by simp only[sm,zB,seval];rfl) hS ?_;refine Tz ?_;refine bR ?_;refine aJ ?_
 refine iP [9,10] (fun M' vs H'=>∃i,i<m/\M'=m -i/\∃v,vs=[v,.int .i64 (iter (uH q.1 (fun i=>l.getD i V0) on) (i+1) s0:Nat)]/\Has H' 1 v (yP ((List.range (i+1)).map fun i=>iter (uH q.1 (fun i=>l.getD i V0) on) i s0))/\(0<i->v≠ .bD 1 1 (yP ((List.range (i+1)).map fun i=>iter (uH q.1 (fun i=>l.getD i V0) on) i s0)))/\
  H'.get 2=some (.cells [.bD (tk+2) 1 (yP on)] false)/\H'.get 0=some (.cells [.bD tag 3 (cH l)] false)/\H'.get 1=some (.cells (lF q) false)/\3<=H'.next/\cJ H') m (by rfl) ?_ ?_
 . refine⟨0,W.pos,rfl,_,by simp only[sm,zB,seval];rfl,.inl rfl,fun h=>absurd h (Ez 0),(hm.same 2 (by omega)).trans g2,(hm.same 0 (by omega)).trans g0,(hm.same 1 (by omega)).trans g1,by have :=hm.le;omega,hm.free⟩
 clear hS hm H2 g2 g0 g1 hf hn ht1 ht2;rintro M' f2 H2 eP ⟨i,hi,rfl,v,hv,ho,xg,g2,g0,g1,hn,hf⟩;simp only[zM] at hv;obtain⟨v9,v10⟩:=hv;refine aN fun K2 bW=>?_;refine bQ ?_;simp only[↓zP,zJ,seval,eP 5 rfl,hk 5 rfl,g2,Lu,we,a0,v10];refine bR ?_;by_cases DO:i+1=m
 . have hb:((iter (uH q.1 (fun i=>l.getD i V0) on) (i+1) s0:Int) != (s0:Int))=false:=by rw[DO,W.back];simp
   have h2:=aIm W;simp only[↓zP,zG,seval,hb];apply hK;clear hK K bW K2;simp only[↓zP,zG,seval,v9];refine Rx ?_;rw[<-DO];exact⟨v,0,rfl,fun nw=>ho.shut (by simp[yP]) (xg (by omega)) (ES _) nw⟩
 have hb:((iter (uH q.1 (fun i=>l.getD i V0) on) (i+1) s0:Int) != (s0:Int))=true:=by have :=W.first (i+1) (by omega) (by omega);simp only[Dd,ne_eq];omega
 simp only[↓zP,zG,seval,hb];apply bW;clear bW K2;obtain⟨ho1,hS1⟩:=W.side (i+1);have MN:=fJ _ ho1;have hnp:=Rm W (i+1);have bJp:=W.le;have aVw:((List.range (i+1)).map fun i=>iter (uH q.1 (fun i=>l.getD i V0) on) i s0).length=i+1:=by simp
 have hrs:(List.range (i+1+1)).map (fun i=>iter (uH q.1 (fun i=>l.getD i V0) on) i s0)=(List.range (i+1)).map (fun i=>iter (uH q.1 (fun i=>l.getD i V0) on) i s0)++[iter (uH q.1 (fun i=>l.getD i V0) on) (i+1) s0]:=by rw[Fg (n:=i+1),Ct];rfl
 obtain⟨H5,z1,z2,z3,z4,z5⟩:=ho.push (ys:=[[AV.int .i64 (iter (uH q.1 (fun i=>l.getD i V0) on) (i+1) s0:Nat)]]) (bytes:=8) rfl (by rw[eM,aVw,As,Bm];omega);have w2:=(z4 2 (by omega) (by rw[g2];simp)).trans g2;have w0:=(z4 0 (by omega) (by rw[g0];simp)).trans g0;have w1:=(z4 1 (by omega) (by rw[g1];simp)).trans g1;obtain⟨H6,hm,hS⟩:=bg (tag:=tag) hl hM hlen fJ aJl MN q (z5 hf) (i1:=2) (i2:=0) (i3:=1) (by omega) (by omega) (by omega) w2 w0 w1;rw[hnp] at hS;refine bQ ?_;refine aJ ?_;simp only[↓zP,zJ,seval,v9,v10];rw[show ∀x:AV,cK H2 1 (.bD 1 1 [[x]])=some [[x]] from fun _=>rfl];simp only[z1,cE,seval];refine bR ?_;simp only[↓zP,zJ,seval,eP 8 rfl,v10];refine EC (fs:=[]) (cs:=[.ref 2 0,.ref 0 0,.ref 1 0]) (by decide) (by rfl) (by rfl) hS ?_;refine Tz ?_;refine⟨m -(i+1),by omega,i+1,by omega,rfl,.bD (H2.next+2) 1 _,rfl,?_,fun _ h=>by injection h with h;omega,(hm.same 2 (by omega)).trans w2,(hm.same 0 (by omega)).trans w0,(hm.same 1 (by omega)).trans w1,by have :=hm.le;omega,hm.free⟩;rw[hrs,OX];exact .inr (.inr ⟨H2.next,rfl,by have :=hm.le;omega,(hm.same _ (by omega)).trans z3⟩)
def dW (L:aP.V×Int->List Nat) (q:aP.V×Int):List AV:=[.int .i64 q.1.x,.int .i64 q.1.y,.int .i64 q.1.z,.int .i64 q.2,.bD 0 1 (yP (L q))]
theorem qC (L:aP.V×Int->List Nat) (q:aP.V×Int):bO (dW L q)=true:=by simp only[dW,bO,AV.free,ES,Co];rfl
structure xF (l:List aP.V) (S:List (aP.V×Int)) (L:aP.V×Int->List Nat):Prop where
 fl:pB (fun i=>l.getD i V0) l.length S
 po:∀q∈S,Poly (fun i=>l.getD i V0) l.length q.1 q.2 (L q)
theorem xL {l:List aP.V} {M:Nat} (hl:∀v∈l,cG M v) {q:aP.V×Int} (h:pS (fun i=>l.getD i V0) l.length q.1 q.2):cG (2*((M+M)*(M+M))) q.1:=by
 obtain⟨i,j,k,h1,h2,h3,hc⟩:=gC h
 have hn:∀k,k<l.length->cG M (l.getD k V0):=fun k hk=>by
  have :l.getD k V0=l[k]:=by simp[List.getD,hk]
  rw[this];exact hl _ (Ac hk)
 have key:cG (2*((M+M)*(M+M))) (fC (fun i=>l.getD i V0) i j k).1:=
  sZ (oB (gM (hn j (by omega)) (hn i (by omega))) (gM (hn k (by omega)) (hn i (by omega))))
 unfold jB at hc;split at hc
 . cases hc
 simp only[Am,Bj,Df] at hc
 rcases hc with e|e
 . have e1:q.1=(fC (fun i=>l.getD i V0) i j k).1:=Bn Prod.fst e;rw[e1];exact key
 have e1:q.1=aP.neg (fC (fun i=>l.getD i V0) i j k).1:=Bn Prod.fst e;rw[e1];exact IH key
theorem Tw {p:Nat->aP.V} {N:Nat} {S:List (aP.V×Int)} (h:pB p N S):S.Nodup:=Hb (fun {a b} (h:iY a.1 b.1) (e:a=b)=>iY.j9 b.1 (by rw[e] at h;exact h)) h.Rh
theorem eo {tag:Nat} (ht:Nat.blt tag 2=true) {l:List aP.V} {M:Nat} (hl:∀v∈l,cG M v) (hM:M<=2^18) (hlen:l.length<=64) {S:List (aP.V×Int)} {L:aP.V×Int->List Nat} (hS:xF l S L) (cQ:S≠[]) (H:aA):
 Sg 158 [.agg [.bD tag 3 (cH l)]] H (.ret (.bD (H.next+2) 5 (S.map (dW L)))) (H.alloc .tok):=by
 refine mG eZ ZaK (by simpa using cQ) (eK (qC L) S) ?_ H;refine cZ fit aXv (Ai rfl) ?_;unfold aMr;dsimp only;refine bQ ?_;refine Ty ?_;refine fF ?_;refine Tz ?_;refine bR ?_
 have hSl:S.length<=2^20:=by have h1:=BQ (N:=l.length) (p:=fun i=>l.getD i V0) (Tw hS.fl) (fun q hq=>(hS.fl.mem q).1 hq);have h2:l.length*(l.length*(l.length*2))<=64*(64*(64*2)):=Bt hlen (Bt hlen (Bt hlen (Ab _)));omega
 have rB:lG 4 (S.map lF)=.bD 0 4 (S.map lF):=if_neg (by simpa using cQ);have nS:=RR ht hl hM hlen hS.fl;rw[rB] at nS;refine aN fun K hK=>?_;refine bQ ?_;refine Ty ?_;refine bY (nS _) ?_;refine Tz ?_;refine bR ?_;refine cV [3] (fun i vs H'=>∃v,vs=[v]/\Own H' 5 v ((S.take i).map (dW L))/\H'.get 0=some (.cells [.bD tag 3 (cH l)] false)/\1<=H'.next) S.length (by omega) (by decide) ?_ ?_ ?_ ?_ ?_
 . exact zq
 . simp only[zB,seval,Af]
 . exact⟨.aO,by simp only[sm,zB,seval],.nil _ _,by simp only[zI,seval],by simp only[zI,seval]⟩
 . rintro i f H1 hi hk e1 ⟨v,hv,ho,g0,hn⟩;simp only[zM] at hv;have hg:(S.map lF).getD i []=lF S[i]:=gK hi;have hqS:=Ac hi;have hq:=xL hl ((hS.fl.mem _).1 hqS);have xp:=hS.po _ hqS
   have pT:(S.take (i+1)).map (dW L)=(S.take i).map (dW L)++[dW L S[i]]:=by rw[An,Ct];simp[hi]
   rw[pT];have xQ:((S.take i).map (dW L)).length=i:=Zah;generalize S[i]=q at *;have hMM:(M+M)*(M+M)<=2^19*2^19:=Bt (by omega) (by omega);have aVg:2*((M+M)*(M+M))*M<=2^39*2^18:=Bt (by omega) (by omega);have p4:(lF q).length=4:=rfl;have p3:(lF q).take 3=cU q.1:=rfl;have p1:(lF q).getD 3 aD=.int .i64 q.2:=rfl;have nx0:¬(0=H1.next):=(by omega);have hpg:=Oi ht hl hM hlen hq (by omega) xp;have jz:=ho;refine aJ ?_;refine bQ ?_;simp only[↓zP,zJ,seval,e1,hk 8 rfl,aB,Af,hi,hg,oL p4];refine bR ?_;generalize hX:(H1.alloc _).set H1.next _=H4;have u0:H4.get 0=some (.cells [.bD tag 3 (cH l)] false):=(by subst hX;rw[aA.aC,if_neg nx0,aA.aG,if_neg nx0];exact g0);have u1:H4.get H1.next=some (.cells (lF q) false):=Zai;have un:H4.next=H1.next+1:=by subst hX;simp only[aA.aW,aA.aR]
   have uo:Own H4 5 v ((S.take i).map (dW L)):=by refine Od ho (by omega) fun k h1 h2=>?_;subst hX;rw[aA.aC,if_neg (by omega),aA.aG,if_neg (by omega)];exact h2
   clear hX;obtain⟨H5,z1,z2,z3,z4,z5⟩:=Has.push (.inr uo) (ys:=[dW L q]) (bytes:=56) rfl (by rw[xQ,As,Bm];omega);generalize H1.next=r1 at *;refine Dz ?_;simp only[↓zP,zJ,seval,zD,hk 1 rfl,hv,u0,u1,p4,p3,p1,oL p4];refine fP (hpg _) ?_;have bFe:[AV.int .i64 q.1.x,.int .i64 q.1.y,.int .i64 q.1.z,.int .i64 q.2,.bD 0 1 (yP (L q))]=dW L q:=rfl;have vD:(dW L q).length=5:=rfl;simp only[↓zP,zJ,seval,zD,u0,u1,cU,bFe,vD];rw[show ∀x:List AV,cK H4 5 (.bD 1 5 [x])=some [x] from fun _=>rfl];simp only[z1,cE,seval];exact⟨by omega,_,rfl,.inr ⟨H4.next,rfl,by omega,z3⟩,(z4 0 (by omega) (by rw[u0];simp)).trans u0,by omega⟩
 rintro f H1 hk ⟨v,hv,ho,g0,hn⟩;simp only[zM] at hv;rw[Ax] at ho;refine Tx ?_;apply hK;simp only[↓zP,zG,seval,hv];refine Rx ?_;exact⟨v,rfl,ho⟩
def Zw (v:aP.V):Bool:=(List.range 3).all fun i=>decide (¬(v.at i>262144)/\¬(v.at i< -262144))
theorem Nw {v:aP.V}:Zw v=true↔cG (2^18) v:=by
 unfold Zw cG;simp only[Aw,Ay,Bd];constructor
 . intro h;have h0:=h 0 (by decide);have h1:=h 1 (by decide);have h2:=h 2 (by decide);simp only[V.at] at h0 h1 h2;omega
 intro h i hi
 match i,hi with
 |0,_=>simp only[V.at];omega
 |1,_=>simp only[V.at];omega
 |2,_=>simp only[V.at];omega
def mk (n:Nat) (P:Nat->Bool):List AV:=(List.range n).map fun k=>AV.bool (P k)
theorem OQ (n:Nat) (P:Nat->Bool):(mk n P).length=n:=by simp[mk]
theorem aTj {n:Nat} (P:Nat->Bool) {k:Nat} (h:k<n):(mk n P).getD k aD=.bool (P k):=by simp[mk,List.getD,h]
theorem aTk {n:Nat} (P:Nat->Bool) {p:Nat} (h:p<n):(mk n P).take p++[AV.bool true]++(mk n P).drop (p+1)=mk n (fun k=>P k||k==p):=by
 refine Fs (by simp[mk];omega) fun k h1 h2=>?_;rw[OQ] at h2;simp only[Ek,List.getElem_append,Cz,OQ,As,Bm];by_cases hk:k<p
 . rw[dif_pos (by omega)];simp[mk];omega
 rw[dif_neg (by omega)];by_cases eP:k=p
 . subst eP;rw[dif_pos (by omega)];simp[mk]
 rw[dif_neg (by omega)];simp only[mk,List.getElem_drop,Dq,Hr];have :p+1+(k -min p n -(0+1))=k:=by omega
 rw[this];simp[eP]
def gS (S:List (aP.V×Int)) (L:aP.V×Int->List Nat) (k:Nat):Bool:=S.any fun q=>(L q).contains k
def iH (C:List aP.V) (S:List (aP.V×Int)) (L:aP.V×Int->List Nat):List aP.V:=((List.range C.length).filter (gS S L)).map fun k=>C.getD k V0
def jC (l C:List aP.V) (S:List (aP.V×Int)) (L:aP.V×Int->List Nat):AV×Int:=
 if 64<l.length then(.aO,2) else if l.all Zw=false then(.aO,1) else if S.length<4 then(.aO,120) else if 64<S.length then(.aO,2) else(lG 3 (cH (iH C S L)),0)
theorem aCr {tag:Nat} (ht:Nat.blt tag 2=true) {l C:List aP.V} (hlen:l.length<2^30) (hC:Ord l C) {S:List (aP.V×Int)} {L:aP.V×Int->List Nat} (hS:xF C S L) (H:aA):
 Sg 122 [.bD tag 3 (cH l)] H (.ret (.iA [.agg [(jC l C S L).1],.int .i64 (jC l C S L).2])) H:=by
 refine eC fit eZ aJw (Ai rfl) ZaK ?_ H;unfold aCy;dsimp only;refine bQ ?_;refine Tz ?_;refine bR ?_;refine aN fun K hK=>?_;simp only[↓zP,zJ,seval,aU];refine⟨fun h=>?_,fun hle=>?_⟩
 . have SP:64<l.length:=by omega
   refine Rx ?_;rw[show jC l C S L=(.aO,2) from if_pos SP];exact ZaE
 have SP:¬(64<l.length):=by omega
 apply hK;clear hK K;refine aN fun K hK=>?_;refine bQ ?_;refine Ty ?_;refine bR ?_;refine cV [] (fun i _ H=>(∀v∈l.take i,Zw v=true)/\H.get 0=some (.cells [.aO] false)/\1<=H.next) l.length (by omega) (by decide) ?_ ?_ ?_ ?_ ?_
 . exact zq
 . simp only[zB,seval,aU]
 . exact⟨fun v hv=>by simp at hv,by simp only[zI,seval],by simp only[zI,seval]⟩
 . rintro i f H1 hi hk e1 ⟨gT,g0,hn⟩;have hg:=dD hi;have FE:=Ac hi
   have hx:∀v,v∈l.take (i+1)->v∈l.take i\/v=l[i]:=fun v hv=>by
    exact Zas
   generalize l[i]=x at *;have nx:¬(0=H1.next):=(by omega);refine aJ ?_;refine bQ ?_;simp only[↓zP,zJ,seval,e1,hk 22 rfl,aB,aU,hi,hg,oL (aV x)];refine fF ?_;simp only[↓zP,zJ,seval,oL (aV x)];refine bR ?_;refine jL [] (fun j _ H=>(∀c,c<j->¬(x.at c>262144)/\¬(x.at c< -262144))/\H.get 0=some (.cells [.aO] false)/\1<=H.next) 3 (by decide) rfl (by decide) ?_ ?_ ?_ ?_
   . exact zq
   . refine⟨fun c hc=>absurd hc (Ap _),?_,?_⟩
     . rw[aA.aC,if_neg nx,aA.aG,if_neg nx];exact g0
     simp only[aA.aW,aA.aR];omega
   . rintro j f2 H2 hj eP e2 ⟨hc,ET,JJ⟩;have MO:j<=2:=by omega
     have Pk:(x.at j>262144\/x.at j< -262144)->l.all Zw=false:=fun h=>by rw[<-Ei,Aw];intro ha;have :=ha x FE;simp only[Zw,Aw,Ay,Bd] at this;have :=this j hj;omega
     refine aJ ?_;by_cases c1:x.at j>262144
     . have d1:=Aj c1;simp only[↓zP,zJ,seval,e2,eP 28 rfl,aB,kQ x hj,aV,hj,MO,d1,eP 2 rfl,hk 2 rfl,ET];refine⟨rfl,_,by simp only[↓zP,zR,seval,eP 2 rfl,hk 2 rfl];rfl,?_⟩;exact Zaw
     have d1:=Ag c1;by_cases c2:x.at j< -262144
     . have d2:=Aj c2;simp only[↓zP,zJ,seval,e2,eP 28 rfl,aB,kQ x hj,aV,hj,MO,d1,d2,eP 2 rfl,hk 2 rfl,ET];refine⟨rfl,_,by simp only[↓zP,zR,seval,eP 2 rfl,hk 2 rfl];rfl,?_⟩;exact Zaw
     have d2:=Ag c2;simp only[↓zP,zJ,seval,e2,eP 28 rfl,aB,kQ x hj,aV,hj,MO,d1,d2];refine⟨fun c h=>?_,ET,JJ⟩;by_cases hcj:c=j
     . subst hcj;exact⟨c1,c2⟩
     exact hc c (by omega)
   rintro f2 H2 eP ⟨hc,ET,JJ⟩;refine Tx ?_;refine⟨fun v hv=>?_,ET,JJ⟩
   rcases hx v hv with h|rfl
   . exact gT v h
   simp only[Zw,Aw,Ay,Bd];exact fun c h=>hc c h
 rintro f H1 hk ⟨gT,g0,hn⟩;rw[Ax] at gT;have bU:l.all Zw=true:=Aw.2 gT;refine Tx ?_;apply hK;clear hK K;have hNr:∀v∈C,cG (2^18) v:=fun v hv=>Nw.1 (gT v ((hC.mem v).1 hv))
 have hCl:C.length<=64:=by have :=tU C l (Hb (fun {a b} (h:iY a b) (e:a=b)=>iY.j9 b (by rw[e] at h;exact h)) hC.Rh) fun v hv=>(hC.mem v).1 hv;omega
 have nS:∀H,Sg 155 [lG 3 (cH C)] H (.ret (lG 4 (S.map lF))) H:=fun H=>by
  by_cases hc:C=[]
  . subst hc
    have hSn:S=[]:=Ey.2 fun q hq=>by obtain⟨i,j,k,_,_,h,_⟩:=gC ((hS.fl.mem q).1 hq);exact absurd h (Ap _)
    subst hSn;exact Oh H
  rw[show lG 3 (cH C)=.bD 0 3 (cH C) from if_neg (by simpa [cH] using hc)];exact RR (by decide) hNr (Ab _) hCl hS.fl H
 have hsd:∀H,Sg 154 [.bD tag 3 (cH l)] H (.ret (lG 3 (cH C))) H:=nv ht (by omega) hC;refine bQ ?_;simp only[↓zP,zJ,seval,hk 0 rfl];refine bY (hsd _) ?_;refine Tz ?_;refine fF ?_;refine Tz ?_;refine bY (nS _) ?_;refine Tz ?_;refine bR ?_;by_cases hS4:S.length<4
 . have hO:jC l C S L=(.aO,120):=(if_neg SP).trans ((if_neg (by rw[bU];decide)).trans (if_pos hS4));by_cases o8:S=[]
   . subst o8;rw[show lG 4 (List.map lF [])=.aO from rfl];refine aN fun K hK=>?_;simp only[↓zP,zJ,seval,hk 2 rfl,g0];refine⟨fun _=>?_,fun h=>absurd (show((0:Int)<4) by decide) (by simp at h)⟩;refine⟨rfl,_,by simp only[↓zP,zR,seval,hk 2 rfl];rfl,?_⟩;rw[hO];exact ZaE
   rw[show lG 4 (S.map lF)=.bD 0 4 (S.map lF) from if_neg (by simpa using o8)];refine aN fun K hK=>?_;simp only[↓zP,zJ,seval,hk 2 rfl,g0,Af];refine⟨fun _=>?_,fun h=>absurd hS4 (by omega)⟩;refine⟨rfl,_,by simp only[↓zP,zR,seval,hk 2 rfl];rfl,?_⟩;rw[hO];exact ZaE
 have o8:S≠[]:=fun h=>hS4 (by rw[h];decide);rw[show lG 4 (S.map lF)=.bD 0 4 (S.map lF) from if_neg (by simpa using o8)]
 have hCe:cH C≠[]:=fun h=>o8 (Ey.2 fun q hq=>by
  obtain⟨i,j,k,_,_,h',_⟩:=gC ((hS.fl.mem q).1 hq);have :C.length=0:=by rw[<-aU,h];rfl
  omega)
 rw[show lG 3 (cH C)=.bD 0 3 (cH C) from if_neg hCe];refine bQ ?_;simp only[↓zP,zJ,seval,Af];refine⟨fun h=>absurd h (by omega),fun _=>?_⟩;refine bR ?_;by_cases Ph:64<S.length
 . have hO:jC l C S L=(.aO,2):=(if_neg SP).trans ((if_neg (by rw[bU];decide)).trans ((if_neg hS4).trans (if_pos Ph)));refine aN fun K hK=>?_;simp only[↓zP,zJ,seval,hk 2 rfl,g0,Af];refine⟨fun _=>?_,fun h=>absurd Ph (by omega)⟩;refine⟨rfl,_,by simp only[↓zP,zR,seval,hk 2 rfl];rfl,?_⟩;rw[hO];exact ZaE
 refine bQ ?_;simp only[↓zP,zJ,seval,Af];refine⟨fun h=>absurd h (by omega),fun _=>?_⟩;refine bR ?_;have hO:jC l C S L=(lG 3 (cH (iH C S L)),0):=(if_neg SP).trans ((if_neg (by rw[bU];decide)).trans ((if_neg hS4).trans (if_neg Ph)));rw[hO]
 have bGj:(List.replicate C.length [AV.bool false]).flatten=mk C.length (fun _=>false):=by
  have :∀n:Nat,(List.replicate n [AV.bool false]).flatten=List.replicate n (AV.bool false):=fun n=>by
   induction n with
   |zero=>rfl
   |succ n ih=>rw[Dx,Bl,ih];rfl
  rw[this];exact Fs (by simp[mk]) fun k h1 h2=>by simp[mk]
 have h40:C.length<=2^40:=by omega
 refine bQ ?_;simp only[↓zP,zJ,seval,aU,aB,h40,bGj];refine bR ?_;have nx0:¬(0=H1.next):=by omega
 refine aN fun K hK=>?_;refine bQ ?_;simp only[↓zP,zG,seval,Af];refine bR ?_;generalize aSt:H1.next=sid at *;refine cV [] (fun i _ H'=>H'.get 0=some (.cells [.aO] false)/\H'.get sid=some (.cells (mk C.length (fun k=>(S.take i).any fun q=>(L q).contains k)) false)/\sid<H'.next) S.length (by omega) (by decide) ?_ ?_ ?_ ?_ ?_
 . exact zq
 . exact zq
 . refine⟨by rw[aA.aG,aSt,if_neg nx0];exact g0,by rw[aA.aG,aSt,if_pos rfl];rfl,by rw[aA.aR,aSt];omega⟩
 . rintro i f2 H2 hi eP e2 ⟨m0,ms,SY⟩;have hg:(S.map lF).getD i []=lF S[i]:=gK hi;have hqS:=Ac hi;have hq:=xL hNr ((hS.fl.mem _).1 hqS);have xp:=hS.po _ hqS
   have pT:∀k,((S.take (i+1)).any fun q=>(L q).contains k)=(((S.take i).any fun q=>(L q).contains k)||(L S[i]).contains k):=fun k=>by rw[An,Iq];simp[hi]
   simp only[pT];generalize S[i]=q at *;have p4:(lF q).length=4:=rfl;have hpg:=Oi (tag:=0) (by decide) hNr (Ab _) hCl hq (by decide) xp;have hLl:∀k∈L q,k<C.length:=fun k hk=>(dX.1 (xp.aTi hk)).1
   have bJd:(L q).length<2^30:=by obtain⟨s,r,m,e,W,h⟩:=xp.ex;rw[h,Af,Bw];have h1:=W.le;have h2:=Dh (fun k=>decide (aP.dot q.1 (C.getD k V0)=q.2)) (List.range C.length);rw[Bw] at h2;have h3:(kI (fun i=>C.getD i V0) C.length q.1 q.2).length<=C.length:=h2;omega
   refine aJ ?_;refine bQ ?_;simp only[↓zP,zJ,seval,e2,eP 56 rfl,aB,Af,hi,hg,oL p4];refine fF ?_;simp only[↓zP,zJ,seval,eP 8 rfl,oL p4];refine bY (hpg _) ?_;simp only[↓zP,zG,seval,eM];refine bR ?_;have nx2:¬(0=H2.next):=(by omega);have nxs:¬(sid=H2.next):=(by omega);refine cV [] (fun j _ H'=>H'.get 0=some (.cells [.aO] false)/\H'.get sid=some (.cells (mk C.length (fun k=>((S.take i).any fun q=>(L q).contains k)||((L q).take j).contains k)) false)/\sid<H'.next) (L q).length (by omega) (by decide) ?_ ?_ ?_ ?_ ?_
   . exact zq
   . exact zq
   . refine⟨by rw[aA.aC,if_neg nx2,aA.aG,if_neg nx2];exact m0,?_,by simp only[aA.aW,aA.aR];omega⟩;rw[aA.aC,if_neg nxs,aA.aG,if_neg nxs,ms];simp
   . rintro j f3 H3 hj oT e3 ⟨m0',ms',hn3⟩;have jv:=AW hj;have nS:=hLl _ (Ac hj)
     have htj:∀k,((L q).take (j+1)).contains k=(((L q).take j).contains k||k==(L q)[j]):=fun k=>by rw[Ci];simp only[Dm,List.contains_iff_mem,Cf,An,Ad hj,Fu,Ao,Cc]
     simp only[htj];generalize (L q)[j]=p at *;have bGf:p+1<=C.length:=nS;have Lv:=aTk (fun k=>((S.take i).any fun q=>(L q).contains k)||((L q).take j).contains k) nS;refine aJ ?_;simp only[↓zP,zJ,seval,e3,oT 64 rfl,oT 10 rfl,eP 10 rfl,aB,eM,hj,jv,nS,bGf,ms',OQ];refine⟨(if_neg (by omega)).trans m0',?_,hn3⟩;rw[Lv];simp only[Bool.or_assoc]
   rintro f3 H3 oT ⟨m0',ms',hn3⟩;rw[Ax] at ms';refine Tx ?_;exact⟨m0',ms',hn3⟩
 rintro f2 H2 eP ⟨m0,ms,SY⟩;rw[Ax] at ms;refine Tx ?_;apply hK;clear hK K;have hP:∀k,(S.any fun q=>(L q).contains k)=gS S L k:=fun k=>rfl;simp only[hP] at ms;refine bQ ?_;refine Tz ?_;refine bR ?_;refine aN fun K hK=>?_;refine bQ ?_;simp only[↓zP,zG,seval,eP 8 rfl,aU];refine bR ?_;have z0:¬(0=H2.next):=by omega
 have zs:¬(sid=H2.next):=by omega
 generalize ho:H2.next=ob at *;refine cV [] (fun i _ H'=>H'.get 0=some (.cells [.aO] false)/\H'.get sid=some (.cells (mk C.length (gS S L)) false)/\ob<H'.next/\∃v,H'.get ob=some (.cells [v] false)/\Own H' 3 v (cH (((List.range i).filter (gS S L)).map fun k=>C.getD k V0))/\(((List.range i).filter (gS S L)).map (fun k=>C.getD k V0)=[]->v=.aO)) C.length (by omega) (by decide) ?_ ?_ ?_ ?_ ?_
 . exact zq
 . exact zq
 . refine⟨by rw[aA.aG,ho,if_neg z0];exact m0,by rw[aA.aG,ho,if_neg zs];exact ms,by rw[aA.aR,ho];omega,.aO,by rw[aA.aG,ho,if_pos rfl],.nil _ _,fun _=>rfl⟩
 . rintro i f3 H3 hi oT e3 ⟨q0,qs,qn,v,qv,qo,qe⟩;have hg:=dD hi;have EX:C.getD i V0=C[i]:=by simp[List.getD,hi]
   have vn:((List.range (i+1)).filter (gS S L)).map (fun k=>C.getD k V0)=((List.range i).filter (gS S L)).map (fun k=>C.getD k V0)++(if gS S L i then [C[i]] else []):=by
    rw[Fg,Jb,Ct];congr 1;simp only[Jl,Ju];split
    . rw[Cb,EX];rfl
    rfl
   have vD:(((List.range i).filter (gS S L)).map fun k=>C.getD k V0).length<=64:=by rw[Af];have :=Dh (gS S L) (List.range i);rw[Bw] at this;omega
   rw[vn];generalize ((List.range i).filter (gS S L)).map (fun k=>C.getD k V0)=bB at *;generalize C[i]=x at *;have n0:¬(0=H3.next):=(by omega);have ns:¬(sid=H3.next):=(by omega);have nb:¬(ob=H3.next):=(by omega);have DO:i+1<=C.length:=hi;have hmg:=aTj (gS S L) hi;refine aJ ?_;refine bQ ?_;simp only[↓zP,zJ,seval,e3,oT 75 rfl,aB,aU,hi,hg,oL (aV x)];refine bR ?_;generalize hX:(H3.alloc _).set H3.next _=H4;have y0:H4.get 0=some (.cells [.aO] false):=(by subst hX;rw[aA.aC,if_neg n0,aA.aG,if_neg n0];exact q0);have ys:H4.get sid=some (.cells (mk C.length (gS S L)) false):=(by subst hX;rw[aA.aC,if_neg ns,aA.aG,if_neg ns];exact qs);have yv:H4.get ob=some (.cells [v] false):=(by subst hX;rw[aA.aC,if_neg nb,aA.aG,if_neg nb];exact qv);have yx:H4.get H3.next=some (.cells (cU x) false):=Zai;have yn:H4.next=H3.next+1:=by subst hX;simp only[aA.aW,aA.aR]
   have yo:Own H4 3 v (cH bB):=by refine Od qo (by omega) fun k h1 h2=>?_;subst hX;rw[aA.aC,if_neg (by omega),aA.aG,if_neg (by omega)];exact h2
   clear hX;generalize H3.next=r3 at *
   cases hu:gS S L i with
   |false=>rw[hu] at hmg;simp only[↓zP,zJ,seval,oT 10 rfl,eP 10 rfl,aB,hi,DO,ys,OQ,hmg];exact⟨y0,trivial,by omega,v,yv,yo,qe⟩
   |true=>
    rw[hu] at hmg;simp only[↓zP,zJ,seval,oT 10 rfl,eP 10 rfl,aB,hi,DO,ys,OQ,hmg,oT 15 rfl,yv,yx,oL (aV x)];obtain⟨H5,z1,z2,z3,z4,z5⟩:=Has.push (.inr yo) (ys:=[cU x]) (bytes:=24) rfl (by rw[aU,As,Bm];omega);rw[eL];have w2:=(z4 ob (by omega) (by rw[yv];simp)).trans yv;simp only[z1,cE,zJ,seval,w2];refine⟨(if_neg (by omega)).trans ((z4 0 (by omega) (by rw[y0];simp)).trans y0),(if_neg (by omega)).trans ((z4 sid (by omega) (by rw[ys];simp)).trans ys),by omega,_,rfl,?_,fun h=>?_⟩
    . rw[show cH (bB++[x])=cH bB++[cU x] from by simp[cH]];exact .inr ⟨H4.next,rfl,by simp only[aA.aW];omega,by rw[aA.aC,if_neg (by omega)];exact z3⟩
    simp at h
 rintro f3 H3 oT ⟨q0,qs,qn,v,qv,qo,qe⟩;refine Tx ?_;apply hK;clear hK K;have hL:((List.range C.length).filter (gS S L)).map (fun k=>C.getD k V0)=iH C S L:=rfl;rw[hL] at qo qe;simp only[↓zP,zJ,seval,oT 15 rfl,oT 2 rfl,eP 2 rfl,hk 2 rfl,qv,q0];refine⟨rfl,_,by simp only[↓zP,zR,seval,oT 2 rfl,eP 2 rfl,hk 2 rfl];rfl,?_⟩;refine⟨_,2,rfl,fun nw=>?_⟩
 exact Zaz
theorem Nv {C:List aP.V} {S:List (aP.V×Int)} {L:aP.V×Int->List Nat} (hS:xF C S L) (cQ:S≠[]):iH C S L≠[]:=by
 obtain⟨q,r,rfl⟩:=Fy cQ;obtain⟨s,r',m,e,W,h⟩:=(hS.po q Ar).ex;have hm:s∈L q:=by rw[h];exact Bf.2 ⟨0,Ay.2 W.pos,rfl⟩
 have hs:s<C.length:=(dX.1 W.hs).1;intro hh;have :C.getD s V0∈iH C (q::r) L:=Bf.2 ⟨s,Fh.2 ⟨Ay.2 hs,by simp[gS,hm]⟩,rfl⟩;rw[hh] at this;cases this
def NL (l C:List aP.V) (S:List (aP.V×Int)) (L:aP.V×Int->List Nat):Int:=
 if(jC l C S L).2=0/\iH C S L≠l then 3 else(jC l C S L).2
theorem Sj {l C:List aP.V} {S:List (aP.V×Int)} {L:aP.V×Int->List Nat} (h:(jC l C S L).2=0):S≠[]/\(jC l C S L).1=lG 3 (cH (iH C S L))/\l.length<=64:=by
 unfold jC at h ⊢;split at h
 . cases h
 split at h
 . cases h
 split at h
 . cases h
 split at h
 . cases h
 rename_i h1 h2 h3 h4;rw[if_neg h1,if_neg h2,if_neg h3,if_neg h4];exact⟨fun e=>h3 (by rw[e];decide),rfl,by omega⟩
theorem Si {tag:Nat} (ht:Nat.blt tag 2=true) {l C:List aP.V} (hlen:l.length<2^30) (hC:Ord l C) {S:List (aP.V×Int)} {L:aP.V×Int->List Nat} (hS:xF C S L) (H:aA):
 Sg 102 [.agg [.bD tag 3 (cH l)]] H (.ret (.int .i64 (NL l C S L))) H:=by
 refine So aJr ZaK ?_ H;unfold aCt;dsimp only;have hH:=fun H=>aCr ht hlen hC hS H;unfold NL;have h0:=Sj (l:=l) (C:=C) (S:=S) (L:=L);generalize jC l C S L=o at *;obtain⟨ov,oc⟩:=o;dsimp only at hH h0 ⊢;refine bQ ?_;refine Ty ?_;refine fF ?_;refine Ty ?_;refine bY (hH _) ?_;refine Ty ?_;refine bR ?_;by_cases hc:oc=0
 . subst hc;obtain⟨hSn,rfl,aVv⟩:=h0 rfl;have cQ:=Nv hS hSn;have rB:lG 3 (cH (iH C S L))=.bD 0 3 (cH (iH C S L)):=if_neg (by simpa [cH] using cQ);rw[rB]
   have FB:(iH C S L).length<2^30:=by have hCl:C.length<=l.length:=tU C l (Hb (fun {a b} (h:iY a b) (e:a=b)=>iY.j9 b (by rw[e] at h;exact h)) hC.Rh) fun v hv=>(hC.mem v).1 hv;have :=Dh (gS S L) (List.range C.length);rw[Bw] at this;simp only[iH,Af];omega
   have hb:((0:Int)==0)=true:=rfl;have hE:=fun H=>ql (t1:=0) (t2:=tag) rfl ht FB hlen H;refine aN fun K hK=>?_;simp only[↓zP,zJ,seval,hb];refine bY (hE _) ?_;by_cases he:iH C S L=l
   . have hd:=Aj he;simp only[↓zP,zJ,seval,hd];apply hK;clear hK K;refine Tz ?_;refine Rx ?_;rw[if_neg (fun h=>h.2 he)];rfl
   have hd:=Ag he;simp only[↓zP,zJ,seval,hd];refine Rx ?_;rw[if_pos ⟨trivial,he⟩];rfl
 have hb:(oc==0)=false:=Bq.2 hc;refine bQ ?_;simp only[↓zP,zG,seval,hb];refine bR ?_;refine Tz ?_;refine Rx ?_;rw[if_neg (fun h=>hc h.1)];rfl
theorem MD {id r:Nat} {o:Bool} {H:aA} (hr:H.get r=some (.cells [.aO] o)):Sg 272 [.yield id,.ref r 0] H (.ret (.iA [])) H:=by
 refine gH aKq (Ai rfl) ?_;unfold aDs;dsimp only;refine bQ ?_;simp only[↓zP,zJ,Nat.reduceLT,hr];refine bR ?_;refine cV [] (fun i vs H'=>H'=H) 0 (by decide) (by decide) ?_ ?_ ?_ ?_ ?_
 . simp only[zB]
 . simp only[zB,Nat.reduceEqDiff];rfl
 . rfl
 . rintro i f H1 hi;exact absurd hi (Ap _)
 rintro f H1 hk rfl;refine⟨rfl,_,by simp only[zR];rfl,?_⟩;exact ZaR
theorem Wl (H:aA):Sg 201 [.aO] H (.ret (.func (.func 272) [] [.ref H.next 0])) (H.alloc (.cells [.aO] false)):=by refine gH aKk (Ai rfl) ?_;unfold aDm;dsimp only;simp only[↓zP,zJ,Nat.reduceLT,Nat.reduceEqDiff];refine⟨rfl,_,by simp only[↓zP,zR];rfl,?_⟩;exact⟨rfl,rfl⟩
theorem PS {r:Nat} {o:Bool} {H:aA} (j6:r<H.next) (hr:H.get r=some (.cells [.aO] o)):
 ∃H',Sg 313 [.aO,.func (.func 272) [] [.ref r 0]] H (.ret .aO) H':=by
 suffices h:∃out H',out=.ret .aO/\Sg 313 [.aO,.func (.func 272) [] [.ref r 0]] H out H' by obtain⟨_,H',rfl,hS⟩:=h;exact⟨H',hS⟩
 refine GO fit aKr (Ai rfl) ?_;unfold aDt;dsimp only;refine bQ ?_;simp only[↓zP,zJ,Nat.reduceLT];refine bR ?_;refine aN fun K hK=>?_;refine bQ ?_;simp only[↓zP,zJ,Nat.reduceLT,Nat.reduceEqDiff];refine bR ?_;have FY:(kH (kH (kH (fN [.aO,.func (.func 272) [] [.ref r 0]]) 2 (.ref H.next 0)) 4 .aO) 6 (.func (.func 272) [] [.ref r 0])) 2=.ref H.next 0:=rfl;have hf6:(kH (kH (kH (fN [.aO,.func (.func 272) [] [.ref r 0]]) 2 (.ref H.next 0)) 4 .aO) 6 (.func (.func 272) [] [.ref r 0])) 6=.func (.func 272) [] [.ref r 0]:=rfl;generalize kH (kH (kH (fN [.aO,.func (.func 272) [] [.ref r 0]]) 2 (.ref H.next 0)) 4 .aO) 6 (.func (.func 272) [] [.ref r 0])=f at *;refine aJ ?_;refine Mn (by rw[dS];exact hf6) ?_;simp only[aA.aR];generalize wu:Mq.mk [7] _ _=key
 refine⟨_,_,_,_,_,MD (o:=o) (by rw[aA.aG,if_neg Zah,aA.aG,if_neg Zah,aA.aG,if_neg (by omega)];exact hr),by rw[aA.aG];simp;exact⟨rfl,rfl,rfl⟩,fun Hf hf=>?_⟩
 obtain⟨f1,f2⟩:=hf;show K f [.mark (H.next+1)] Hf;apply hK;clear hK K;have b0:Hf.get H.next=some (.cells [.aO] false):=by rw[f2,if_neg (by omega)];simp[aA.aG];omega
 have b1:Hf.get (H.next+1)=some .SH:=by rw[f2,if_neg (by omega)];simp[aA.aG]
 simp only[↓zP,zJ,Nat.reduceLT,FY,b0];exact⟨b1,[.aO],rfl,rfl⟩
theorem Tq {r:Nat} {o:Bool} {H:aA} (j6:r<H.next) (hr:H.get r=some (.cells [.aO] o)):
 ∃H',Sg 270 [.func (.func 272) [] [.ref r 0]] H (.ret .aO) H':=by
 obtain⟨H',hS⟩:=PS j6 hr;refine⟨H',?_⟩;refine gH aKp (Ai rfl) ?_;unfold aDr;dsimp only;simp only[↓zP,zJ,Nat.reduceLT,Nat.reduceEqDiff];refine bY (hS) ?_;simp only[↓zP,zG,Nat.reduceLT];refine⟨rfl,_,by simp only[↓zP,zR];rfl,?_⟩;exact ZaR
theorem Mu {r:Nat} {o:Bool} {H:aA} (j6:r<H.next) (hr:H.get r=some (.cells [.aO] o)):
 ∃H',Sg 200 [.func (.func 272) [] [.ref r 0],.func (.func 202) [] []] H (.ret .aO) H':=by
 obtain⟨H1,hS⟩:=Tq j6 hr;refine⟨H1,?_⟩;refine gH yd (Ai rfl) ?_;unfold rp;dsimp only;simp only[↓zP,zJ,Nat.reduceLT,Nat.reduceEqDiff];refine bY (hS) ?_;simp only[↓zP,zJ,Nat.reduceLT,Nat.reduceEqDiff];refine bY (pE Tryz.aBy rfl TJ 202 _) ?_;simp only[↓zP,zG,Nat.reduceEqDiff];refine⟨rfl,_,by simp only[↓zP,zR];rfl,?_⟩;exact ZaR
theorem Yl (H:aA):Sg 154 [.aO] H (.ret .aO) H:=by refine eC fit eZ aKa (Ai rfl) Zag ?_ H;unfold aDc;dsimp only;obtain⟨H1,hS⟩:=Mu (r:=0) (o:=false) (H:=(aA.mk 0 .nil).alloc (.cells [.aO] false)) (by simp) rfl;simp only[↓zP,zJ,Nat.reduceLT,Nat.reduceEqDiff];refine bY (Wl _) ?_;simp only[];refine bY (hS) ?_;simp only[↓zP,zG,Nat.reduceLT];refine bY (Ky _) ?_;simp only[↓zP,zG,Nat.reduceLT];refine⟨rfl,_,by simp only[↓zP,zR];rfl,?_⟩;exact⟨_,0,rfl,fun nw=>rfl⟩
theorem qy (H:aA):Sg 122 [.aO] H (.ret (.iA [.agg [.aO],.int .i64 120])) H:=by
 refine eC fit eZ aJw (Ai rfl) Zag ?_ H;unfold aCy;dsimp only;refine bQ ?_;simp only[↓zP,zG,Nat.reduceLT];refine fF ?_;simp only[↓zP,zJ,Nat.reduceLT,Nat.reduceEqDiff];refine⟨fun h=>absurd h (by decide),fun _=>?_⟩;refine bR ?_;refine aN fun K hK=>?_;refine bQ ?_;simp only[↓zP,zJ,Nat.reduceLT,Nat.reduceEqDiff];refine bR ?_;refine cV [] (fun i _ H=>H.get 0=some (.cells [.aO] false)) 0 (by decide) (by decide) ?_ ?_ ?_ ?_ ?_
 . simp only[zB]
 . simp only[zB,Nat.reduceEqDiff];rfl
 . simp only[zI]
 . rintro i f H1 hi;exact absurd hi (Ap _)
 rintro f H1 hk g0;simp only[↓zP];apply hK;clear hK K;refine bQ ?_;simp only[↓zP,zJ,Nat.reduceLT,Nat.reduceEqDiff,hk 0 rfl];refine bY (Yl _) ?_;simp only[↓zP,zG,Nat.reduceLT];refine fF ?_;simp only[↓zP,zG,Nat.reduceLT];refine bY (Oh _) ?_;simp only[↓zP,zG,Nat.reduceLT];refine bR ?_;refine aN fun K hK=>?_;simp only[↓zP,zJ,Nat.reduceLT,Nat.reduceEqDiff,Int.reduceLT,hk 2 rfl,g0];refine⟨fun _=>?_,fun h=>absurd (show((0:Int)<4) by decide) (by simp at h)⟩;refine⟨rfl,_,by simp only[↓zP,zR,Nat.reduceEqDiff,hk 2 rfl,g0];rfl,?_⟩;exact ZaE
theorem Pq (H:aA):Sg 102 [.agg [.aO]] H (.ret (.int .i64 120)) H:=by
 refine So aJr Zag ?_ H;unfold aCt;dsimp only;refine bQ ?_;simp only[↓zP,zJ,Nat.reduceLT];refine fF ?_;simp only[↓zP,zJ,Nat.reduceLT,Nat.reduceEqDiff];refine bY (qy _) ?_;simp only[↓zP,zJ,Nat.reduceLT,Nat.reduceEqDiff,Nat.reduceAdd];refine bR ?_;have hb:((120:Int)==0)=false:=by decide
 refine bQ ?_;simp only[↓zP,zJ,Nat.reduceLT,Nat.reduceEqDiff,hb];refine bR ?_;simp only[↓zP,zG,Nat.reduceLT,Nat.reduceEqDiff];refine⟨rfl,_,by simp only[↓zP,zR];rfl,?_⟩;rfl
def pC (p:Int×Int):List AV:=[.int .i64 p.1,.int .i64 p.2]
theorem aAg (p:Int×Int):(pC p).length=2:=rfl
theorem aHf (p:Int×Int):bO (pC p)=true:=by simp only[pC,sf]
def aLg (H:aA) (x:Nat) (v:AV) (l:List (Int×Int)):Prop:=
 (l=[]/\v=.aO)\/∃xC,l≠[]/\v=.sl xC 2 0 l.length l.length/\H.get xC=some (.cells (l.map pC).flatten true)/\¬(x=xC)/\xC<H.next
theorem aLg.push {H:aA} {x:Nat} {v:AV} {l:List (Int×Int)} (h:aLg H x v l) (Ti:x<H.next) (hlen:l.length<2^30) (p:Int×Int):
 ∃v' H',dR H 2 16 true v [pC p]=some (v',H')/\aLg H' x v' (l++[p])/\H'.next=H.next+1/\H'.get x=H.get x:=by
 rcases h with ⟨rfl,rfl⟩|⟨xC,cQ,rfl,hg,h1,h2⟩
 . exact⟨_,_,zH rfl (by simp),.inr ⟨H.next,by simp,rfl,by rw[aA.aG,if_pos rfl];rfl,by omega,by simp⟩,by simp,by rw[aA.aG,if_neg (by omega)]⟩
 have xd:(l.map pC).flatten.length=l.length*2:=by rw[oQ (sz:=2) (fun e he=>?_),Af];obtain⟨x,_,rfl⟩:=Bf.1 he;rfl
 refine⟨_,_,zK hg xd rfl (by simp only[As,Bm];omega) (by decide),.inr ⟨H.next,by simp,by simp,?_,by omega,by simp⟩,by simp,by rw[aA.aG,aA.aW,if_neg (by omega),aA.aC,if_neg (by omega)]⟩;rw[aA.aG,aA.aW,if_pos rfl];simp
def edN (l:List Nat) (j:Nat):List (Int×Int):=(List.range j).flatMap fun i=>if l.getD i 0<l.getD ((i+1)%l.length) 0 then [((l.getD i 0:Int),(l.getD ((i+1)%l.length) 0:Int))] else []
def edL (S:List (aP.V×Int)) (L:aP.V×Int->List Nat):List (Int×Int):=S.flatMap fun q=>edN (L q) (L q).length
def WK (l:List aP.V) (p:Nat×Nat):aP.V:=aP.sub (l.getD p.2 V0) (l.getD p.1 V0)
def pN (p:Nat×Nat):Int×Int:=(p.1,p.2)
end Go.Proofs.YtgggiembljfnhaaGreatDoor
namespace Go.Proofs.YtgggiembljfnhaaGreatDoor
open Go Go.Av Go.aP Go.uE

attribute [local congr] aT aI aL aH aX aQ aM aF aY
attribute [local irreducible] FC bS eF
def OI (n:aP.V) (m:Int) (l:List aP.V):Int:=l.foldl (fun m v=>if aP.dot n v<m then aP.dot n v else m) m
def Nr (n:aP.V) (m:Int) (l:List aP.V):Int:=l.foldl (fun m v=>if aP.dot n v>m then aP.dot n v else m) m
theorem aEb (z:Int):bO (cI z)=true:=dG z

def crs (U W:List aP.V):List aP.V:=U.flatMap fun u=>W.filterMap fun w=>if aP.bC u w=V0 then none else some (aP.bC u w)
def pre (D:List aP.V) (U W:List aP.V) (i j:Nat):List aP.V:=D++crs (U.take i) W++crs ((U.drop i).take 1) (W.take j)
def yB (a b:List aP.V) (n:aP.V):Bool:=decide (Nr n (aP.dot n (a.getD 0 V0)) a<=OI n (aP.dot n (b.getD 0 V0)) b)||decide (Nr n (aP.dot n (b.getD 0 V0)) b<=OI n (aP.dot n (a.getD 0 V0)) a)
theorem TA {n:aP.V} {X:Nat}:∀{l:List aP.V} {m:Int},m.natAbs<=X->(∀v∈l,(aP.dot n v).natAbs<=X)->(OI n m l).natAbs<=X
 |[],_,h,_=>h
 |v::l,m,h,hl=>by have h1:=hl v Ar;have :=TA (n:=n) (l:=l) (m:=if aP.dot n v<m then aP.dot n v else m) Za4 (fun w hw=>hl w (Au _ hw));exact this
theorem SX {n:aP.V} {X:Nat}:∀{l:List aP.V} {m:Int},m.natAbs<=X->(∀v∈l,(aP.dot n v).natAbs<=X)->(Nr n m l).natAbs<=X
 |[],_,h,_=>h
 |v::l,m,h,hl=>by have h1:=hl v Ar;have :=SX (n:=n) (l:=l) (m:=if aP.dot n v>m then aP.dot n v else m) Za4 (fun w hw=>hl w (Au _ hw));exact this
end Go.Proofs.YtgggiembljfnhaaGreatDoor
namespace Go.Proofs.YtgggiembljfnhaaGreatDoor
open Go Go.Av Go.aP
theorem OZ (l:List aP.V):∃C,Ord l C:=by obtain⟨s,h1,h2⟩:=vC (fun a b:aP.V=>¬iY b a) (fun {a b c} h h'=>by unfold iY at *;omega) (fun a b=>by unfold iY;omega) l;exact⟨dd s s.length,XE h2 _ (Ab _),fun v=>by rw[NU s v _ (Ab _),Ax];exact h1.mem_iff⟩
noncomputable def QA (l:List aP.V):List aP.V:=Classical.choose (OZ l)
theorem wZ (l:List aP.V):Ord l (QA l):=Ig (OZ l)
noncomputable def nI (C:List aP.V):List (aP.V×Int):=Classical.choose (pB.exists (fun i=>C.getD i V0) C.length)
theorem BP (C:List aP.V):pB (fun i=>C.getD i V0) C.length (nI C):=Ig (pB.exists (fun i=>C.getD i V0) C.length)
open Classical in
noncomputable def qD (C:List aP.V) (q:aP.V×Int):List Nat:=if h:∃L,Poly (fun i=>C.getD i V0) C.length q.1 q.2 L then Classical.choose h else []
theorem NC {C:List aP.V} (h:C.Pairwise iY):qk (fun i=>C.getD i V0) C.length:=fun i j yL hj=>by
 have h1:C.getD i V0=C[i]:=by simp[List.getD,De yL hj]
 have h2:C.getD j V0=C[j]:=by simp[List.getD,hj]
 simp only[h1,h2];exact Gc.1 h i j (De yL hj) hj yL
theorem uL {C:List aP.V} (h:C.Pairwise iY):xF C (nI C) (qD C) where
 fl:=BP C
 po q hq:=by have hF:=((BP C).mem q).1 hq;have hx:=Poly.exists (NC h) hF.ZU;unfold qD;rw[dif_pos hx];exact Ig hx
noncomputable def uY (l:List aP.V):Int:=NL l (QA l) (nI (QA l)) (qD (QA l))
theorem Oa {l:List aP.V} (h:l.Pairwise iY):QA l=l:=Ord.uniq (wZ l) ⟨h,fun v=>Iff.rfl⟩
theorem NJ {l:List aP.V} (h:uY l=0):l.Pairwise iY/\QA l=l/\nI l≠[]/\(nI l).length<=64/\l.length<=64/\l≠[]/\∀v∈l,cG (2^18) v:=by
 unfold uY NL at h;split at h
 . cases h
 rename_i h1;have h2:iH (QA l) (nI (QA l)) (qD (QA l))=l:=Cr fun hc=>h1 ⟨h,hc⟩;obtain⟨a1,a2,a3⟩:=Sj h;have hs:=(wZ l).Rh
 have FG:l.Pairwise iY:=by rw[<-h2];unfold iH;rw[Ji];refine Jk (R:=fun a b=>a<b) ?_ (List.Pairwise.filter _ Jo);intro a b ha hb FX;exact NC hs a b FX (by simpa using(Fh.1 hb).1)
 have he:=Oa FG;have cQ:=Nv (uL hs) a1;rw[h2] at cQ;rw[he] at a1;refine⟨FG,he,a1,?_,a3,cQ,?_⟩
 . unfold jC at h;rw[he] at h;split at h
   . cases h
   split at h
   . cases h
   split at h
   . cases h
   split at h
   . cases h
   omega
 unfold jC at h;split at h
 . cases h
 split at h
 . cases h
 rename_i hb;intro v hv;have HM:l.all Zw=true:=by simpa using hb
 exact Nw.1 (Aw.1 HM v hv)
theorem NK:uY []=120:=by
 have h:QA []=[]:=Oa .nil;unfold uY NL;rw[h]
 have hS:nI []=[]:=by
  cases hf:nI [] with
  |nil=>rfl
  |cons q r=>have :=((BP []).mem q).1 (by rw[hf];simp);obtain⟨k,hk,_⟩:=this.lt;exact absurd hk (Ap _)
 rw[hS];rfl
def IsE (l:List aP.V) (v:aP.V):Prop:=∃q:aP.V×Int,pS (fun i=>l.getD i V0) l.length q.1 q.2/\∃a b,Sd q.1 (fun i=>l.getD i V0) (kI (fun i=>l.getD i V0) l.length q.1 q.2) a b/\a∈kI (fun i=>l.getD i V0) l.length q.1 q.2/\a<b/\v=aP.sub (l.getD b V0) (l.getD a V0)
def IsD (a b:List aP.V) (n:aP.V):Prop:=(∃d,pS (fun i=>a.getD i V0) a.length n d)\/(∃d,pS (fun i=>b.getD i V0) b.length n d)\/∃u w,IsE a u/\IsE b w/\n=aP.bC u w/\n≠V0
open Classical in
noncomputable def vA (a b:List aP.V):Bool:=decide (∃n,IsD a b n/\yB a b n=true)
theorem tJ {a b:List aP.V}:vA a b=true↔∃n,IsD a b n/\yB a b n=true:=by unfold vA;exact @decide_eq_true_iff _ (Classical.propDecidable _)
theorem aIl {l:List aP.V} {S:List (aP.V×Int)} {L:aP.V×Int->List Nat} (hS:xF l S L) (hlen:l.length<=64):∀q∈S,(L q).length<=64:=fun q hq=>by obtain⟨s,r,m,e,W,h⟩:=(hS.po q hq).ex;rw[h,Af,Bw];have h1:=W.le;have h2:=Dh (fun k=>decide (aP.dot q.1 (l.getD k V0)=q.2)) (List.range l.length);rw[Bw] at h2;have h3:(kI (fun i=>l.getD i V0) l.length q.1 q.2).length<=l.length:=h2;omega
theorem TB {l:List aP.V} {S:List (aP.V×Int)} {L:aP.V×Int->List Nat} (hS:xF l S L) {x:Int×Int}:
 x∈edL S L↔∃q∈S,∃a b:Nat,aP.Next (L q) a b/\a<b/\x=pN (a,b):=by
 simp only[edL,Fp];constructor
 . rintro⟨q,hq,hx⟩;simp only[edN,Fp,Ay] at hx;obtain⟨i,hi,hx⟩:=hx;split at hx
   . rename_i h;rw[Cc] at hx;have EY:(i+1)%(L q).length<(L q).length:=Di _ (by omega);refine⟨q,hq,(L q).getD i 0,(L q).getD ((i+1)%(L q).length) 0,⟨i,hi,?_,?_⟩,h,hx⟩
     . simp[List.getD,hi]
     simp[List.getD,EY]
   cases hx
 rintro⟨q,hq,a,b,⟨i,hi,h1,h2⟩,FX,rfl⟩;refine⟨q,hq,?_⟩;simp only[edN,Fp,Ay];refine⟨i,hi,?_⟩;have e1:(L q).getD i 0=a:=by simp[List.getD,h1]
 have e2:(L q).getD ((i+1)%(L q).length) 0=b:=by simp[List.getD,h2]
 rw[e1,e2,if_pos FX];simp[pN]
theorem XI {l:List aP.V} (hl:l.Pairwise iY) {S:List (aP.V×Int)} {L:aP.V×Int->List Nat} (hS:xF l S L) (cQ:S≠[]):edL S L≠[]:=by
 obtain⟨q,r,rfl⟩:=Fy cQ;have hq:=Ar (a:=q) (l:=r);have hF:=(hS.fl.mem q).1 hq;have hP:=hS.po q hq
 have hlen:0<(L q).length:=by obtain⟨s,r',m,e,W,h⟩:=hP.ex;rw[h];simpa using W.pos
 have EY:(0+1)%(L q).length<(L q).length:=Di _ hlen;have hN:aP.Next (L q) (L q)[0] (L q)[(0+1)%(L q).length]:=⟨0,hlen,Ad hlen,Ad EY⟩;generalize (L q)[0]=a at *;generalize (L q)[(0+1)%(L q).length]=b at *;have hsd:=hP.wN.1 hN;have FX:b≠a:=hsd.2.2.1;intro he
 rcases Gp a b with h|h
 . have :pN (a,b)∈edL (q::r) L:=(TB hS).2 ⟨q,hq,a,b,hN,h,rfl⟩;rw[he] at this;cases this
 obtain⟨n',d',L',F',P',hN'⟩:=hP.back (NC hl) hF hN;have j5:=(hS.fl.mem (n',d')).2 F';have hL':=P'.uniq (hS.po _ j5);rw[hL'] at hN';have :pN (b,a)∈edL (q::r) L:=(TB hS).2 ⟨(n',d'),j5,b,a,hN',by omega,rfl⟩;rw[he] at this;cases this
attribute [local congr] aT aI aL aH aX aQ aM aF aY
attribute [local irreducible] FC bS eF
def vS (p:AV×List aP.V):Prop:=(p.1=.aO/\p.2=[])\/p.1=.bD 0 3 (cH p.2)
def Mb (ps:List (AV×List aP.V)):List (List AV):=ps.map fun p=>[p.1]
def Ms (pv:AV) (ps:List (AV×List aP.V)):Prop:=(pv=.aO/\ps=[])\/pv=.bD 0 1 (Mb ps)
theorem vS.free {p:AV×List aP.V} (h:vS p):p.1.free=true:=by
 rcases h with ⟨h,_⟩|h
 . rw[h];rfl
 rw[h];exact dL rfl _
theorem Vc {ps:List (AV×List aP.V)} (h:∀p∈ps,vS p):dT (Mb ps)=true:=by
 induction ps with
 |nil=>simp only[Mb,Fo,dT]
 |cons p ps ih=>have h1:=(h p Ar).free;have h2:=ih fun x hx=>h x (Au _ hx);simp only[Mb] at h2;simp only[Mb,Cb,dT,bO,h1,h2,Cp]
theorem Ms.free {pv:AV} {ps:List (AV×List aP.V)} (h:Ms pv ps) (hp:∀p∈ps,vS p):pv.free=true:=by
 rcases h with ⟨h,_⟩|h
 . rw[h];rfl
 rw[h];simp only[AV.free,Vc hp];rfl
def NZ (v:aP.V):Bool:=(decide (v.x>4096)||decide (v.x< -4096))||((decide (v.y>4096)||decide (v.y< -4096))||(decide (v.z>4096)||decide (v.z< -4096)))
noncomputable def lX (l:List aP.V):Int:=if uY l≠0 then uY l else if l.any NZ then 1 else 0
def aDw (m0 m1 r0 r1:Int):Bool:=decide (m0<1)||(decide (m1<m0)||(decide (m1>1099511627776)||(decide (r0<0)||(decide (r1<r0)||decide (r1>4000)))))
noncomputable def RO (ps:List (List aP.V)):Bool:=(List.range ps.length).any fun i=>(List.range i).any fun k=> !vA (ps.getD i []) (ps.getD k [])
noncomputable def Lf (ps:List (List aP.V)):Int:=match ps.find? fun l=> !decide (lX l=0) with
 |some l=>lX l
 |none=>if RO ps then 150 else 0
noncomputable def zQ (name:List UInt8) (ps:List (List aP.V)) (m0 m1 r0 r1:Int):Int:=
 if yI name=false then 5 else if ps.length<1\/8<ps.length then 2 else if aDw m0 m1 r0 r1=true then 1 else Lf ps
theorem YX {ls:List (List aP.V)} {i:Nat} (hi:i<ls.length) (h:∀j (hj:j<i),lX (ls[j]'(De hj hi))=0) (he:lX ls[i]≠0):Lf ls=lX ls[i]:=by
 have :ls.find? (fun l=> !decide (lX l=0))=some ls[i]:=by rw[List.find?_eq_some_iff_getElem];exact⟨by simp[he],i,hi,rfl,fun j hj=>by simp[h j hj]⟩
 unfold Lf;rw[this]
theorem YW {ls:List (List aP.V)} (h:∀l∈ls,lX l=0):Lf ls=if RO ls then 150 else 0:=by
 have :ls.find? (fun l=> !decide (lX l=0))=none:=by rw[Hu];exact fun l hl=>by simp[h l hl]
 unfold Lf;rw[this]
theorem aHg {l:List aP.V} (h:lX l=0):uY l=0/\∀v∈l,NZ v=false:=by
 unfold lX at h;split at h
 . rename_i h1;exact absurd h h1
 rename_i h1;split at h
 . cases h
 rename_i h2
 exact⟨Ic.1 h1,fun v hv=>by
  cases hf:NZ v with
  |false=>rfl
  |true=>exact absurd (Bz.2 ⟨v,hv,hf⟩) h2⟩
theorem YG {ls:List (List aP.V)} {i k:Nat} (hi:i<ls.length) (hk:k<i) (h:vA ls[i] (ls[k]'(De hk hi))=false):RO ls=true:=by unfold RO;rw[Bz];refine⟨i,Ay.2 hi,?_⟩;rw[Bz];refine⟨k,Ay.2 hk,?_⟩;have rR:=De hk hi;simp only[List.getD,Ad hi,Ad rR,Bi,h,Gb]
theorem VV {ls:List (List aP.V)} (h:∀i k (hi:i<ls.length) (hk:k<i),vA ls[i] (ls[k]'(De hk hi))=true):RO ls=false:=by unfold RO;rw[Da];intro i hi;rw[Ay] at hi;simp only[Ei];rw[Da];intro k hk;rw[Ay] at hk;have rR:=De hk hi;simp only[List.getD,Ad hi,Ad rR,Bi,h i k hi hk];decide
theorem Po {p:AV×List aP.V} (h:vS p) (hlen:p.2.length<2^30) (H:aA):Sg 102 [.agg [p.1]] H (.ret (.int .i64 (uY p.2))) H:=by
 rcases h with ⟨h1,h2⟩|h1
 . rw[h1,h2,NK];exact Pq H
 rw[h1];exact Si rfl hlen (wZ _) (uL (wZ _).Rh) H
def tG (name:List UInt8) (pv:AV) (m0 m1 r0 r1:Int):List AV:=[.str name,pv,.int .i64 m0,.int .i64 m1,.int .i64 r0,.int .i64 r1]
end Go.Proofs.YtgggiembljfnhaaGreatDoor
namespace Go.Proofs.YtgggiembljfnhaaGreatDoor
open Go Go.Av
def fO (v:AV) (sz:Nat) (bB:List (List AV)):Prop:=(v=.aO/\bB=[])\/v=.bD 0 sz bB
theorem fO.len {v:AV} {sz:Nat} {bB:List (List AV)} (h:fO v sz bB) (H:aA):dA (fun _=>v) H (.OF (.tmp 0))=some (.int .i64 bB.length,H):=by rcases h with ⟨rfl,rfl⟩|rfl<;>rfl
theorem fO.bD {v:AV} {sz:Nat} {bB:List (List AV)} (h:fO v sz bB) {i:Nat} (hi:i<bB.length):v=.bD 0 sz bB:=by
 rcases h with ⟨_,rfl⟩|h
 . exact absurd hi (Ap _)
 exact h
theorem jO {bB:List (List AV)} (h:∀e∈bB,bO e=true):dT bB=true:=by
 induction bB with
 |nil=>rfl
 |cons e bB ih=>simp only[dT,h e Ar,ih fun x hx=>h x (Au _ hx),Cp]
theorem fO.free {v:AV} {sz:Nat} {bB:List (List AV)} (h:fO v sz bB) (hf:∀e∈bB,bO e=true):v.free=true:=by
 rcases h with ⟨rfl,_⟩|rfl
 . rfl
 simp only[AV.free,jO hf];rfl
structure Th where
 kind:Int
 name:List UInt8
 pv:AV
 ps:List (AV×List aP.V)
 m0:Int
 m1:Int
 r0:Int
 r1:Int
 store:List Int
def Th.cs (t:Th):List AV:=AV.int .i64 t.kind::(tG t.name t.pv t.m0 t.m1 t.r0 t.r1++iC t.store)
structure Th.OK (t:Th):Prop where
 name:t.name.length<2^63
 parts:Ms t.pv t.ps
 part:∀p∈t.ps,vS p
 store:t.store.length=7
 i64:lC t.store
def Th.Few (t:Th):Prop:=t.ps.length<2^30/\∀p∈t.ps,p.2.length<2^30
theorem Th.len {t:Th} (h:t.OK):t.cs.length=14:=by simp[Th.cs,tG,cD,h.store]
def vL (v:aP.V):List Int:=[v.x,v.y,v.z]
def inP (l:List aP.V):Bool:=(l.map vL).all (CA 4096)
noncomputable def WX (t:Th):Int:=
 if(decide (t.kind=1)||decide (t.kind=2))=false\/hU t.store≠0 then 1
 else if zQ t.name (t.ps.map (·.2)) t.m0 t.m1 t.r0 t.r1≠0 then zQ t.name (t.ps.map (·.2)) t.m0 t.m1 t.r0 t.r1
 else if t.ps.all (fun p=>inP p.2) then 0 else 1
noncomputable def MC:List (List UInt8)->List Th->Int
 |_,[]=>0
 |seen,t::ts=>if WX t≠0 then WX t else if t.name∈seen then 6 else MC (seen++[t.name]) ts
theorem oi {seen:List (List UInt8)} {ts:List Th} {i:Nat} (hi:i<ts.length):MC seen (ts.drop i)=if WX ts[i]≠0 then WX ts[i] else if ts[i].name∈seen then 6 else MC (seen++[ts[i].name]) (ts.drop (i+1)):=by rw[Dk hi];rfl
def PX (n:Int) (r:List Int):Bool:=decide (r.getD 0 0<0)||(decide (r.getD 0 0>n)||(decide (r.getD 1 0<0)||(decide (r.getD 1 0>n)||(r.getD 0 0==r.getD 1 0||(!CA (tZ (r.getD 0 0)) ((r.drop 2).take 3)|| !CA (tZ (r.getD 1 0)) ((r.drop 5).take 3))))))
def PW (n:Int) (p:List Int):Bool:=decide (p.getD 0 0<1)||(decide (p.getD 0 0>n)||(!CA 4096 ((p.drop 1).take 3)||(!CA 1099511627776 ((p.drop 4).take 3)|| !CA 1099511627776 ((p.drop 7).take 3))))
def LY (n r p:Nat):Bool:=decide ((n:Int)>64)||(decide ((r:Int)>16)||decide ((p:Int)>16))
def aDx (g r0 r1:Int):Bool:=decide (g<0)||(decide (g>1048576)||(decide (r0<0)||(decide (r0>r1)||decide (r1>4000))))
noncomputable def CQ (g r0 r1:Int) (ts:List Th) (rs ps:List (List Int)):Int:=
 if LY ts.length rs.length ps.length then 2 else if aDx g r0 r1 then 1 else if MC [] ts≠0 then MC [] ts
 else if rs.any (PX ts.length) then 1 else if ps.any (PW ts.length) then 1 else 0
def yC (g r0 r1:Int) (tv rv pv:AV):List AV:=[.int .i64 g,.int .i64 r0,.int .i64 r1,tv,rv,pv]
def nD (ts:List Th):List (List AV):=ts.map Th.cs
theorem dJ (ts:List Th):(nD ts).length=ts.length:=Af _
theorem mN {ts:List Th} {i:Nat} (hi:i<ts.length):(nD ts).getD i []=ts[i].cs:=by simp[nD,hi]
def aZ (l:List (List Int)):List (List AV):=l.map iC
theorem aS (l:List (List Int)):(aZ l).length=l.length:=Af _
theorem cN {l:List (List Int)} {i:Nat} (hi:i<l.length):(aZ l).getD i []=iC l[i]:=by simp[aZ,hi]
theorem fX {ts:List Th} (h:∀t∈ts,t.OK):∀e∈nD ts,bO e=true:=fun e he=>by obtain⟨t,ht,rfl⟩:=Bf.1 he;have :=h t ht;simp only[Th.cs,tG,gD,sf,jI,this.parts.free this.part]
theorem bF (l:List (List Int)):∀e∈aZ l,bO e=true:=fun e he=>by obtain⟨w,_,rfl⟩:=Bf.1 he;exact jI w
def W27:CW Tryz.f27:=⟨_,vF⟩
theorem bHi:Fi 27 W27:=cM Tryz.func27 W27
def W32:CW Tryz.f32:=⟨_,vF⟩
theorem bBv:Fi 32 W32:=cM Tryz.func32 W32
def W14:CW Tryz.f14:=⟨_,cX⟩
theorem aXj:Fi 14 W14:=cM Tryz.func14 W14
def W11:CW Tryz.f11:=⟨_,vF⟩
theorem aWr:Fi 11 W11:=cM Tryz.func11 W11
def W29:CW Tryz.f29:=⟨_,cX⟩
theorem bBc:Fi 29 W29:=cM Tryz.func29 W29
def W66:CW Tryz.f66:=⟨_,cX⟩
theorem bCq:Fi 66 W66:=cM Tryz.func66 W66
def W67:CW Tryz.f67:=⟨_,cX⟩
theorem bCr:Fi 67 W67:=cM Tryz.func67 W67
def aCu:CW Tryz.f105:=⟨_,cX⟩
theorem aJs:Fi 105 aCu:=cM Tryz.func105 aCu
def W28:CW Tryz.f28:=⟨_,cX⟩
theorem bHj:Fi 28 W28:=cM Tryz.func28 W28
def W41:CW Tryz.f41:=⟨_,cX⟩
theorem bHp:Fi 41 W41:=cM Tryz.func41 W41
def W13:CW Tryz.f13:=⟨_,vF⟩
theorem bHb:Fi 13 W13:=cM Tryz.func13 W13
def W15:CW Tryz.f15:=⟨_,cX⟩
theorem bHc:Fi 15 W15:=cM Tryz.func15 W15
def W36:CW Tryz.f36:=⟨_,cX⟩
theorem bHm:Fi 36 W36:=cM Tryz.func36 W36
def W12:CW Tryz.f12:=⟨_,cX⟩
theorem bHa:Fi 12 W12:=cM Tryz.func12 W12
def W31:CW Tryz.f31:=⟨_,cX⟩
theorem bHk:Fi 31 W31:=cM Tryz.func31 W31
attribute [local congr] aT aI aL aH aX aQ aM aF aY
attribute [local irreducible] FC bS eF
def Oq (sz:Nat) (bB:List (List AV)):AV:=if bB=[] then .aO else .bD 0 sz bB
theorem wV (sz:Nat) (bB:List (List AV)):fO (Oq sz bB) sz bB:=by
 unfold Oq;split
 . rename_i h;exact .inl ⟨rfl,h⟩
 exact .inr rfl
theorem _root_.Go.Av.oZ.shut {H:aA} {sz:Nat} {v:AV} {bB:List (List AV)} (h:oZ H sz v bB) (hf:dT bB=true) (nw:Nat):fG H none nw 0 v=some (Oq sz bB):=by
 unfold Oq;split
 . rename_i he;rw[h.2 he];rfl
 rename_i cQ;refine Has.shut (.inr h.1) cQ (fun e=>?_) hf nw
 rcases h.1 with ⟨h1,h2⟩|⟨k,h1,_⟩
 . exact cQ h2
 rw[h1] at e;cases e
def bE (l:List Bool):List (List AV):=l.map fun b=>[.bool b]
theorem bZ (l:List Bool):(bE l).length=l.length:=Af _
theorem xG {l:List Bool} {i:Nat} (hi:i<l.length):(bE l).getD i []=[.bool l[i]]:=by simp[bE,hi]
theorem gO (l:List Bool):∀e∈bE l,bO e=true:=fun e he=>by obtain⟨w,_,rfl⟩:=Bf.1 he;rfl
theorem _root_.List.qU {α:Type} {l:List α} {i:Nat} (hi:i<l.length) {P:α->Prop} (h:∀x∈l.take i,P x) (h1:P l[i]):∀x∈l.take (i+1),P x:=fun x hx=>by
 rw[An,Ao] at hx
 rcases hx with hx|hx
 . exact h x hx
 simp[hi] at hx;subst hx;exact h1
structure Sc where
 sv:AV
 pv:AV
 vv:AV
 wv:AV
 tv:AV
 av:AV
 st:List Bool
 ps:List (List Int)
 vs:List (List Int)
 ws:List (List Int)
 ta:List Bool
 ac:List Bool
structure Sc.OK (s:Sc):Prop where
 st:fO s.sv 1 (bE s.st)
 ps:fO s.pv 7 (aZ s.ps)
 vs:fO s.vv 3 (aZ s.vs)
 ws:fO s.wv 3 (aZ s.ws)
 ta:fO s.tv 1 (bE s.ta)
 ac:fO s.av 1 (bE s.ac)
 p7:∀p∈s.ps,p.length=7/\lC p
 v3:∀w∈s.vs,w.length=3/\lC w
 w3:∀w∈s.ws,w.length=3/\lC w
 bD:s.st.length<2^30
 lps:s.ps.length<2^30
 zc:s.vs.length<2^30
 zd:s.ws.length<2^30
 lta:s.ta.length<2^30
 lac:s.ac.length<2^30
def Sc.cs (s:Sc):List AV:=[s.sv,s.pv,s.vv,s.wv,s.tv,s.av]
theorem Sc.free {s:Sc} (h:s.OK):bO s.cs=true:=by simp only[Sc.cs,sf,h.st.free (gO _),h.ps.free (bF _),h.vs.free (bF _),h.ws.free (bF _),h.ta.free (gO _),h.ac.free (gO _)]
def zV:List Int:=[0,0,0]
theorem GW {w:List Int} (h:w.length=3):cL [.i,.i,.i] (iC w) [.int .i64 0,.int .i64 0,.int .i64 0]=some (decide (w=zV)):=sJ (n:=3) h (m:=zV) rfl
theorem zi {w:List Int} (h:w.length=3) (H:aA):Sg 66 [.agg (iC w)] H (.ret (.bool (!decide (w=zV)))) H:=by
 refine So bCq ZaY ?_ H;unfold W66;dsimp only;have hl:(iC w).length=3:=by rw[cD,h]
 simp only[↓zP,zJ,seval,oL hl,GW h];exact ZaQ
def IG (l:List (List Int)):Bool:=l.any fun w=> !decide (w=zV)
def Ux:List (List Int)->Nat->Int
 |[],_=> -1
 |w::l,k=>if w=zV then Ux l (k+1) else k
theorem Uy:∀(l:List (List Int)) (k:Nat),decide (Ux l k≥0)=IG l
 |[],_=>rfl
 |w::l,k=>by
  unfold Ux;have h:=Uy l (k+1);by_cases e:w=zV
  . rw[if_pos e,h];simp[IG,e]
  rw[if_neg e,Aj (by omega)];simp[IG,e]
theorem j8 {l:List (List Int)} {i:Nat} (hi:i<l.length):Ux (l.drop i) i=if l[i]=zV then Ux (l.drop (i+1)) (i+1) else i:=by rw[Dk hi];rfl
theorem aFr {v:AV} {l:List (List Int)} (hv:fO v 3 (aZ l)) (h3:∀w∈l,w.length=3) (hl:l.length<2^63) (H:aA):
 Sg 105 [v,.func (.func 66) [] []] H (.ret (.int .i64 (Ux l 0))) H:=by
 have hln:=hv.len;simp only[dA] at hln;rw[aS] at hln;refine So aJs (by simp only[bO,AV.free,hv.free (bF _)];rfl) ?_ H;unfold aCu;dsimp only;refine bQ ?_;refine Tz ?_;refine bR ?_;refine aN fun K hK=>?_;refine bQ ?_;simp only[↓zP,zJ,seval,hln];refine bR ?_;refine cV [] (fun i vs H'=>H'=⟨0,.nil⟩/\Ux l 0=Ux (l.drop i) i) l.length (by omega) (by decide) ?_ ?_ ?_ ?_ ?_
 . exact zq
 . exact zq
 . exact ZaR
 . rintro i f H1 hi hk e1 ⟨rfl,hx⟩;have f0:f 0=.bD 0 3 (aZ l):=by rw[hk 0 rfl];simp only[zB,seval,fN,Dy];exact hv.bD (i:=i) ZaD
   have f1:f 1=.func (.func 66) [] []:=(by rw[hk 1 rfl];rfl);have hg:=cN hi;have MS:=h3 _ (Ac hi);have Zo:=zi MS;rw[j8 hi] at hx;generalize l[i]=w at *;have Zn:(iC w).length=3:=(by rw[cD,MS]);refine aJ ?_;refine bQ ?_;simp only[↓zP,zG,seval,e1];refine bR ?_;refine aN fun K2 bW=>?_;simp only[↓zP,zG,seval,f0,f1,aB,aS,hi,hg,oL Zn];refine EC (args:=[.agg (iC w)]) (by decide) (by simp only[dS,zB,seval];rfl) (by simp only[sm,zB,seval];rfl) (Zo _) ?_;by_cases hz:w=zV
   . have d1:=Aj hz;rw[if_pos hz] at hx;simp only[↓zP,seval,zI,d1];apply bW;clear bW K2;refine Tz ?_;exact⟨trivial,hx⟩
   have d1:=Ag hz;rw[if_neg hz] at hx;simp only[↓zP,seval,zI,d1];apply bW;clear bW K2;refine Tz ?_;refine Rx ?_;rw[hx];rfl
 rintro f H1 hk ⟨rfl,hx⟩;rw[Hi] at hx;refine Tx ?_;apply hK;clear hK K;refine Tz ?_;refine Rx ?_;rw[hx];rfl
theorem ZJ {v:AV} {l:List (List Int)} (hv:fO v 3 (aZ l)) (h3:∀w∈l,w.length=3) (hl:l.length<2^63) (H:aA):
 Sg 67 [v,.func (.func 66) [] []] H (.ret (.bool (IG l))) H:=by
 refine So bCr (by simp only[bO,AV.free,hv.free (bF _)];rfl) ?_ H;unfold W67;dsimp only;have h:=aFr hv h3 hl;have hm:=Uy l 0;refine Ty ?_;refine bY (h _) ?_;simp only[↓zP,zG,seval,hm];exact ZaQ
def lZ (s:Sc):Bool:= !IG s.vs&& !IG s.ws
theorem aHt {s:Sc} (hs:s.OK) (H:aA):Sg 29 [.agg s.cs] H (.ret (.bool (lZ s))) H:=by
 refine So bBc Zby ?_ H;unfold W29;dsimp only;have h1:=ZJ hs.vs (fun w hw=>(hs.v3 w hw).1) (by have :=hs.zc;omega);have h2:=ZJ hs.ws (fun w hw=>(hs.w3 w hw).1) (by have :=hs.zd;omega);have hR:lZ s=(!IG s.vs&& !IG s.ws):=rfl;generalize IG s.vs=b1 at *;generalize IG s.ws=b2 at *;simp only[↓zP,zJ,seval,Sc.cs];refine bY (h1 _) ?_;cases b1
 . refine Ty ?_;refine bY (h2 _) ?_;refine Tz ?_;refine Rx ?_;rw[hR];rfl
 refine Ty ?_;refine Rx ?_;rw[hR];rfl
theorem aBh {s:Sc} (hs:s.OK) (H:aA):Sg 36 [.agg s.cs] H (.ret (.bool (lZ s))) H:=by
 refine So bHm Zby ?_ H;unfold W36;dsimp only;have l1:=hs.vs.len;have l2:=hs.ws.len;simp only[dA] at l1 l2;rw[aS] at l1 l2;have b1:=hs.zc;have b2:=hs.zd;have fS:∀{l:List (List Int)} {i:Nat} (hi:i<l.length),l[i]≠zV->IG l=true:=fun hi h=>Bz.2 ⟨_,Ac hi,by simp[h]⟩
 have xR:∀{l:List (List Int)},(∀w∈l,w=zV)->IG l=false:=fun h=>by unfold IG;rw[Da];intro w hw;simp[h w hw]
 refine bQ ?_;simp only[↓zP,zJ,seval,Sc.cs];refine bR ?_;refine aN fun K hK=>?_;refine Tz ?_;refine bP [] (fun i vs H'=>H'.get 0=some (.cells [s.sv,s.pv,s.vv,s.wv,s.tv,s.av] false)/\∀w∈s.vs.take i,w=zV) 0 s.vs.length (Az _) (by omega) (by decide) ?_ ?_ ?_ ?_ ?_
 . exact zq
 . exact⟨by simp only[zI,seval],fun p hp=>by simp at hp⟩
 . rintro i f H1 h0 hi hk e1 ⟨g0,_⟩;have f1:f 1=.ref 0 0:=hk 1 rfl;simp only[↓zP,zJ,seval,e1,f1,g0,l1];exact Zae
 . rintro i f H1 h0 hi hk e1 ⟨g0,bU⟩;have f1:f 1=.ref 0 0:=hk 1 rfl;have Ps:s.vv=.bD 0 3 (aZ s.vs):=hs.vs.bD (i:=i) ZaD;have hg:=cN hi;have MS:=(hs.v3 _ (Ac hi)).1;have gV:=List.qU hi bU;have fS:=fS hi;generalize s.vs[i]=w at *;have Zn:(iC w).length=3:=by rw[cD,MS]
   have hez:=GW MS;refine aJ ?_;refine aN fun K2 bW=>?_;by_cases hz:w=zV
   . have d1:=Aj hz;rw[d1] at hez;simp only[↓zP,zJ,seval,e1,f1,g0,Ps,aB,aS,hi,hg,oL Zn,hez];apply bW;clear bW K2;refine Ty ?_;exact⟨g0,gV hz⟩
   have d1:=Ag hz;rw[d1] at hez;simp only[↓zP,zJ,seval,e1,f1,g0,Ps,aB,aS,hi,hg,oL Zn,hez];apply bW;clear bW K2;refine Ty ?_;refine Rx ?_;unfold lZ;rw[fS hz];rfl
 rintro f H1 hk ⟨g0,bU⟩;rw[Ax] at bU;have f1:f 1=.ref 0 0:=hk 1 rfl;refine Tx ?_;apply hK;clear hK K;refine aN fun K hK=>?_;refine Tz ?_;refine bP [] (fun i vs H'=>H'=H1/\∀w∈s.ws.take i,w=zV) 0 s.ws.length (Az _) (by omega) (by decide) ?_ ?_ ?_ ?_ ?_
 . exact zq
 . exact⟨rfl,fun p hp=>by simp at hp⟩
 . rintro i f2 H2 h0 hi eP e1 ⟨rfl,_⟩;have u1:f2 1=.ref 0 0:=by rw[eP 1 rfl];simp only[zB,seval];exact f1
   simp only[↓zP,zJ,seval,e1,u1,g0,l2];exact Zae
 . rintro i f2 H2 h0 hi eP e1 ⟨rfl,rA⟩;have u1:f2 1=.ref 0 0:=by rw[eP 1 rfl];simp only[zB,seval];exact f1
   have Ps:s.wv=.bD 0 3 (aZ s.ws):=hs.ws.bD (i:=i) ZaD;have hg:=cN hi;have MS:=(hs.w3 _ (Ac hi)).1;have gV:=List.qU hi rA;have fS:=fS hi;generalize s.ws[i]=w at *;have Zn:(iC w).length=3:=(by rw[cD,MS]);have hez:=GW MS;refine aJ ?_;refine aN fun K2 bW=>?_;by_cases hz:w=zV
   . have d1:=Aj hz;rw[d1] at hez;simp only[↓zP,zJ,seval,e1,u1,g0,Ps,aB,aS,hi,hg,oL Zn,hez];apply bW;clear bW K2;refine Ty ?_;exact⟨trivial,gV hz⟩
   have d1:=Ag hz;rw[d1] at hez;simp only[↓zP,zJ,seval,e1,u1,g0,Ps,aB,aS,hi,hg,oL Zn,hez];apply bW;clear bW K2;refine Ty ?_;refine Rx ?_;unfold lZ;rw[fS hz,xR bU];rfl
 rintro f2 H2 eP ⟨rfl,rA⟩;rw[Ax] at rA;refine Tx ?_;apply hK;clear hK K;refine Tz ?_;refine Rx ?_;unfold lZ;rw[xR bU,xR rA];rfl
end Go.Proofs.YtgggiembljfnhaaGreatDoor
namespace Go.Proofs.YtgggiembljfnhaaGreatDoor
open Go Go.Av Go.aP
open Go.ChangeShapes Go.WideShapes Go.ChangeAt Go.RowKit
section
theorem UH {H:Type} (d:DataW H):1<=Rows.uptoBulk d:=by
 cases d with
 |lit l=>cases l<;>simp[Rows.uptoBulk]
 |_=>simp[Rows.uptoBulk]
theorem UG {H:Type}:∀l:List (DataW H),l.length<=Rows.uptoBulkAll l
 |[]=>Az _
 |d::l=>by have :=UH d;have :=UG l;simp only[Rows.uptoBulkAll,As];omega
def MV:Value->Int
 |.int _ n=>n
 |_=>0
section
variable {H:Type} {enc:TypeId×Value->H} {W:World} {base:Nat} {hd:Bool}
theorem tV {α:Type} [Inhabited α] {t e:TypeId} {n m:Nat} {v:Value} {y:DataW H×List MemPlace} (mo:Bool) (ht:Tryz.prog.underlying t=some (.slice e)) (hn:Tryz.prog.cellsOf e=n) (h0:0<n) (f:α->List AV) (Q:α->Prop)
 (hq:∀r,Q r->(f r).length=n/\∀c∈f r,c.one=true)
 (hx:∀(cs:List Value) (m:Nat) (y:DataW H×List MemPlace),cs.length=n->DataW.trod enc Tryz.prog W base (fun _=>true) hd m e cs=some y->∃r,Q r/\∀j,j<n->VR (oR mo W) W ((f r).getD j aD) (cs.getD j undef))
 (h:DataW.trod enc Tryz.prog W base (fun _=>true) hd m t [v]=some y):
 ∃(av:AV) (l:List α),fO av n (l.map f)/\(∀r∈l,Q r)/\VR (oR mo W) W av v/\l.length+1<=Rows.uptoBulk y.1/\l.length<2^63:=by
 rcases Go.Deep.open_slice ht h with ⟨h1,h2⟩|⟨a,len,cap,mm,k,D,Pl,hv,hb,hl,hm,hmm,rfl,hc⟩
 . obtain rfl:v=.slice none 0 0:=by simpa using h1
   exact⟨.aO,[],.inl ⟨rfl,rfl⟩,by simp,.aO,UH _,by simp⟩
 obtain rfl:v=.slice (some a) len cap:=by simpa using hv
 have hmc:mm=cap:=by simpa using hmm
 subst hmc
 obtain⟨g,hg⟩:=Go.Deep.choose_lt (α:=α×List Value) (n:=len) (p:=fun i r=>Q r.1/\r.2.length=n/\(∀j,j<n->W.cell? (a.add (i*n+j))=some (r.2.getD j undef))/\∀j,j<n->VR (oR mo W) W ((f r.1).getD j aD) (r.2.getD j undef)) (fun i hi=>by
  obtain⟨cs,h1,h2⟩:=hc i (by omega);rw[hn] at h1;obtain⟨_,hlen,kJ⟩:=World.cells?_some h1;obtain⟨r,hr,hvr⟩:=hx cs _ _ hlen h2;refine⟨(r,cs),hr,hlen,fun j hj=>?_,hvr⟩;rw[<-Go.Deep.add_add,kJ j hj,List.getD,Ad (by omega)]
  rfl)
 have aJf:((List.range len).map fun i=>(g i).1).length+1<=Rows.uptoBulk (DataW.slice ((List.range len).map D) ((List.range (mm -len)).map fun j=>D (len+j))):=by have :=UG ((List.range len).map D);simp only[Rows.uptoBulk,Af,Bw] at this ⊢;omega
 have pQ:mm<=2^63 -1:=hm;have bFn:((List.range len).map fun i=>(g i).1).length<2^63:=by rw[Af,Bw];omega
 obtain⟨b,o,s⟩:=a
 cases s with
 |some s=>
  have MR:mm=0:=by
   rcases Hq mm with h|h
   . exact h
   obtain⟨cs,h1,_⟩:=hc 0 h;rw[hn] at h1;obtain⟨_,hlen,kJ⟩:=World.cells?_some h1;have :=kJ 0 h0;rw[Ad (by omega)] at this;have :=n9 this;simp[Addr.add] at this
  subst MR;obtain rfl:len=0:=by omega
  exact⟨.bD 0 n [],[],.inr rfl,by simp,.vE 0 n b o s (by decide),aJf,by simp⟩
 |none=>
  refine⟨.bD 0 n (((List.range len).map fun i=>(g i).1).map f),(List.range len).map fun i=>(g i).1,.inr rfl,fun r hr=>?_,?_,aJf,bFn⟩
  . obtain⟨i,hi,rfl⟩:=Bf.1 hr;exact(hg i (Ay.1 hi)).1
  have hu:∀e∈((List.range len).map fun i=>(g i).1).map f,e.length=n:=fun e he=>by simp only[Gr,Bf,Ay] at he;obtain⟨i,hi,rfl⟩:=he;exact(hq _ (hg i hi).1).1
  have WO:(((List.range len).map fun i=>(g i).1).map f).length=len:=by simp
  have vD:(((List.range len).map fun i=>(g i).1).map f).flatten.length=len*n:=by
   have :∀(L:List (List AV)),(∀e∈L,e.length=n)->L.flatten.length=L.length*n:=by
    intro L
    induction L with
    |nil=>intro _;simp
    |cons x L ih=>intro hL;rw[Bl,Ba,hL x Ar,ih fun e he=>hL e (Au _ he),As,Cs,Hv,Fa]
   rw[this _ hu,WO]
  have at_:∀j,j<len*n->j / n<len/\j%n<n/\j / n*n+j%n=j/\(((List.range len).map fun i=>(g i).1).map f).flatten.getD j aD=(f (g (j / n)).1).getD (j%n) aD:=fun j hj=>by have h1:j / n<len:=Nat.div_lt_of_lt_mul (by rwa [Dg]);have h2:j%n<n:=Di _ h0;have h3:j / n*n+j%n=j:=(by rw[Dg];exact Ff j n);refine⟨h1,h2,h3,?_⟩;have :=xM hu (i:=j / n) (j:=j%n) (by rw[WO];exact h1) h2;rw[h3] at this;rw[this];simp[List.getD,h1]
  have :=VR.bD (G:=oR mo W) (w:=W) 0 n (((List.range len).map fun i=>(g i).1).map f) b o mm (fun j=>(g (j / n)).2.getD (j%n) undef) hu
   (fun j hj=>by
     rw[vD] at hj;obtain⟨h1,h2,h3,h4⟩:=at_ j hj;obtain⟨q1,q2,q3,q4⟩:=hg _ h1;have kJ:=q3 _ h2;rw[h3,rq] at kJ;refine⟨⟨_,kJ⟩,kJ,?_⟩;rw[h4];have Xc:=(hq _ q1).1;refine(hq _ q1).2 _ ?_;rw[List.getD,Ad (by omega)]
     exact Ac _)
   (fun j hj=>by
     rw[vD] at hj;obtain⟨h1,h2,h3,h4⟩:=at_ j hj;rw[h4]
     exact(hg _ h1).2.2.2 _ h2)
   ⟨by rw[WO];exact hl,trivial⟩
  rw[WO] at this;exact this
theorem oN {G:Gh} {cs:List Value} {i:Nat} (h:∃n,cs[i]?=some (.int .i64 n)/\(Lit.int .i64 n).wf=true):VR G W (.int .i64 (MV (cs.getD i undef))) (cs.getD i undef):=by obtain⟨n,hn,_⟩:=h;rw[List.getD,hn];exact .int _ _
theorem Xl {cs:List Value} {i:Nat} (h:∃n,cs[i]?=some (.int .i64 n)/\(Lit.int .i64 n).wf=true): -2^63<=MV (cs.getD i undef)/\MV (cs.getD i undef)<2^63:=by obtain⟨n,hn,hw⟩:=h;rw[List.getD,hn];simp[Lit.wf,IntKind.min,IntKind.max,IntKind.signed,IntKind.bits] at hw;simp only[Bi,MV];omega
def ivL (cs:List Value) (o n:Nat):List Int:=(List.range n).map fun j=>MV (cs.getD (o+j) undef)
theorem Sw (cs:List Value) (o n:Nat):(ivL cs o n).length=n:=by simp[ivL]
theorem yh {cs:List Value} {o n j:Nat} (hj:j<n):(iC (ivL cs o n)).getD j aD=.int .i64 (MV (cs.getD (o+j) undef)):=by rw[eJ (by rw[Sw];exact hj)];simp[ivL,hj]
theorem Zy {cs:List Value} {o n:Nat} (h:∀j,j<n->∃r,cs[o+j]?=some (.int .i64 r)/\(Lit.int .i64 r).wf=true):lC (ivL cs o n):=fun x hx=>by obtain⟨j,hj,rfl⟩:=Bf.1 hx;exact Xl (h j (Ay.1 hj))
theorem KU {t e:TypeId} {n m:Nat} {v:Value} {y:DataW H×List MemPlace} (mo:Bool) (ht:Tryz.prog.underlying t=some (.slice e)) (hf:Uh Tryz.prog 8 e=some (List.replicate n 3)) (hn:Tryz.prog.cellsOf e=n) (h0:0<n)
 (h:DataW.trod enc Tryz.prog W base (fun _=>true) hd m t [v]=some y):
 ∃(av:AV) (l:List (List Int)),fO av n (aZ l)/\(∀r∈l,r.length=n/\lC r)/\VR (oR mo W) W av v/\l.length+1<=Rows.uptoBulk y.1/\l.length<2^63:=
 tV mo ht hn h0 iC (fun r=>r.length=n/\lC r) (fun r hr=>⟨by rw[cD];exact hr.1,fun c hc=>by obtain⟨x,_,rfl⟩:=Bf.1 hc;rfl⟩)
  (fun cs m y hl hy=>by
    have R:=oX 8 hf hy
    have hi:∀j,j<n->∃r,cs[0+j]?=some (.int .i64 r)/\(Lit.int .i64 r).wf=true:=fun j hj=>by rw[Cq];exact fD R (u:=3) (by simp[hj]) Tryz.underlying3
    refine⟨ivL cs 0 n,⟨Sw _ _ _,Zy hi⟩,fun j hj=>?_⟩;rw[yh hj,Cq];have :=hi j hj;rw[Cq] at this
    exact oN this) h
theorem YD {v:Value} {m:Nat} {y:DataW H×List MemPlace} (mo:Bool) (h:DataW.trod enc Tryz.prog W base (fun _=>true) hd m 30 [v]=some y):∃p:AV×List aP.V,vS p/\VR (oR mo W) W p.1 v:=by
 obtain⟨av,l,h1,_,h2,_⟩:=tV (α:=aP.V) mo Tryz.underlying30 (n:=3) (by kernel_rfl) (by decide) cU (fun _=>True) (fun r _=>⟨rfl,fun c hc=>by
  simp only[cU,Am,Bj,Df] at hc
  rcases hc with rfl|rfl|rfl<;>rfl⟩)
  (fun cs m y hl hy=>by
    have R:=oX 8 (ts:=[3,3,3]) (by kernel_rfl) hy;refine⟨⟨MV (cs.getD 0 undef),MV (cs.getD 1 undef),MV (cs.getD 2 undef)⟩,trivial,fun j hj=>?_⟩
    exact match j,hj with
    |0,_=>oN (fD R (i:=0) (u:=3) rfl Tryz.underlying3)
    |1,_=>oN (fD R (i:=1) (u:=3) rfl Tryz.underlying3)
    |2,_=>oN (fD R (i:=2) (u:=3) rfl Tryz.underlying3)
    |n+3,h=>absurd h (by omega)) h
 refine⟨(av,l),?_,h2⟩
 rcases h1 with ⟨e1,e2⟩|e
 . exact .inl ⟨e1,by simpa using e2⟩
 exact .inr e
theorem YC {v:Value} {m:Nat} {y:DataW H×List MemPlace} (mo:Bool) (h:DataW.trod enc Tryz.prog W base (fun _=>true) hd m 101 [v]=some y):
 ∃(pv:AV) (ps:List (AV×List aP.V)),Ms pv ps/\(∀p∈ps,vS p)/\VR (oR mo W) W pv v:=by
 obtain⟨av,l,h1,h4,h2,_⟩:=tV (α:=AV×List aP.V) mo Tryz.underlying101 (n:=1) (by kernel_rfl) (by decide) (fun p=>[p.1]) vS (fun r hr=>⟨rfl,fun c hc=>by
  rw[Cc] at hc;subst hc
  rcases hr with ⟨hr,_⟩|hr<;>rw[hr]<;>rfl⟩)
  (fun cs m y hl hy=>by
    obtain⟨u,mu,yu,hu,hyu⟩:=(oX 8 (ts:=[30]) (by kernel_rfl) hy) 0 30 rfl;obtain⟨p,hp,hvp⟩:=YD mo hyu;refine⟨p,hp,fun j hj=>?_⟩;obtain rfl:j=0:=by omega
    rw[Bg (l:=cs),hu]
    exact hvp) h
 refine⟨av,l,?_,h4,h2⟩
 rcases h1 with ⟨e1,e2⟩|e
 . exact .inl ⟨e1,by simpa using e2⟩
 exact .inr e
instance:Inhabited Th:=⟨⟨0,[],.aO,[],0,0,0,0,[]⟩⟩
theorem VU {v:Value} {m:Nat} {y:DataW H×List MemPlace} (mo:Bool) (h:DataW.trod enc Tryz.prog W base (fun _=>true) hd m 23 [v]=some y):
 ∃(tv:AV) (ts:List Th),fO tv 14 (nD ts)/\(∀t∈ts,t.OK)/\VR (oR mo W) W tv v:=by
 obtain⟨av,l,h1,h4,h2,_⟩:=tV (α:=Th) mo Tryz.underlying23 (n:=14) (by kernel_rfl) (by decide) Th.cs Th.OK (fun r hr=>⟨Th.len hr,fun c hc=>by
  simp only[Th.cs,tG,Er,Db,Am] at hc
  rcases hc with rfl|rfl|rfl|rfl|rfl|rfl|rfl|hc<;>first|rfl|skip
  . rcases hr.parts with ⟨hr,_⟩|hr<;>rw[hr]<;>rfl
  obtain⟨x,_,rfl⟩:=Bf.1 hc
  rfl⟩)
  (fun cs m y hl hy=>by
    have R:=oX 8 (ts:=[3,9,101,3,3,3,3,3,3,3,3,3,3,3]) (by kernel_rfl) hy;obtain⟨z,hz,BZ⟩:=YV R (i:=1) (u:=9) rfl Tryz.underlying9;obtain⟨u,mu,yu,hu,hyu⟩:=R 2 101 rfl;obtain⟨pv,ps,wE,Uv,hvp⟩:=YC mo hyu
    have hi:∀j,j<7->∃r,cs[7+j]?=some (.int .i64 r)/\(Lit.int .i64 r).wf=true:=fun j hj=>by
     refine fD R (i:=7+j) (u:=3) ?_ Tryz.underlying3
     exact match j,hj with
     |0,_=>rfl
     |1,_=>rfl
     |2,_=>rfl
     |3,_=>rfl
     |4,_=>rfl
     |5,_=>rfl
     |6,_=>rfl
     |n+7,h=>absurd h (by omega)
    refine⟨⟨MV (cs.getD 0 undef),z.data.toList,pv,ps,MV (cs.getD 3 undef),MV (cs.getD 4 undef),MV (cs.getD 5 undef),MV (cs.getD 6 undef),ivL cs 7 7⟩,⟨?_,wE,Uv,Sw _ _ _,Zy hi⟩,fun j hj=>?_⟩
    . have :z.data.toList.length=z.size:=Dc;have h63:maxLen=2^63 -1:=rfl;show z.data.toList.length<2^63;omega
    exact match j,hj with
    |0,_=>oN (fD R (i:=0) (u:=3) rfl Tryz.underlying3)
    |1,_=>by have :cs.getD 1 undef=.string z:=(by rw[List.getD,hz];rfl);rw[this];exact .str z
    |2,_=>by have :cs.getD 2 undef=u:=(by rw[List.getD,hu];rfl);rw[this];exact hvp
    |3,_=>oN (fD R (i:=3) (u:=3) rfl Tryz.underlying3)
    |4,_=>oN (fD R (i:=4) (u:=3) rfl Tryz.underlying3)
    |5,_=>oN (fD R (i:=5) (u:=3) rfl Tryz.underlying3)
    |6,_=>oN (fD R (i:=6) (u:=3) rfl Tryz.underlying3)
    |n+7,h=>by
     have e:(Th.cs ⟨MV (cs.getD 0 undef),z.data.toList,pv,ps,MV (cs.getD 3 undef),MV (cs.getD 4 undef),MV (cs.getD 5 undef),MV (cs.getD 6 undef),ivL cs 7 7⟩).getD (n+7) aD=(iC (ivL cs 7 7)).getD n aD:=rfl;rw[e,yh (by omega),Fa 7 n];have :=hi n (by omega);rw[Fa] at this
     exact oN this) h
 exact⟨av,l,h1,h4,h2⟩
end
end
end Go.Proofs.YtgggiembljfnhaaGreatDoor
namespace Go.Proofs.YtgggiembljfnhaaGreatDoor
open Go Go.Av
attribute [local congr] aT aI aL aH aX aQ aM aF aY
attribute [local irreducible] FC bS eF
def FH (n r u:Nat) (s:Sc):Bool:=(s.st.length:Int) != n||((s.ps.length:Int) != n||((s.vs.length:Int) != n||((s.ws.length:Int) != n||((s.ta.length:Int) != r||(s.ac.length:Int) != u))))
def Ws (p q v w:List Int) (b:Bool):Bool:=hU p != 0||((!(CA 1099511627775 v&&CA 1099511627775 w))||(!b&&(!decide (p=q)|| !(decide (v=zV)&&decide (w=zV)))))
def CP (ts:List Th) (s:Sc) (k:Nat):Bool:=Ws (s.ps.getD k []) ((ts.map (·.store)).getD k []) (s.vs.getD k []) (s.ws.getD k []) (s.st.getD k false)
def nJ (ts:List Th) (r u:Nat) (s:Sc):Bool:= !FH ts.length r u s&& !(List.range ts.length).any (CP ts s)
theorem BR {ts:List Th} {r u:Nat} {s:Sc} (h:FH ts.length r u s=true):nJ ts r u s=false:=by unfold nJ;rw[h];rfl
theorem Ud {ts:List Th} {r u:Nat} {s:Sc} {i:Nat} (hi:i<ts.length) (h:CP ts s i=true):nJ ts r u s=false:=by unfold nJ;rw[Bz.2 ⟨i,Ay.2 hi,h⟩];simp
theorem KA {ts:List Th} {r u:Nat} {s:Sc} (h:FH ts.length r u s=false) (h2:∀i,i<ts.length->CP ts s i=false):nJ ts r u s=true:=by
 have :(List.range ts.length).any (CP ts s)=false:=by rw[Da];intro i hi;rw[h2 i (Ay.1 hi)];decide
 unfold nJ;rw[h,this];rfl
theorem Sy {n r u:Nat} {s:Sc} (h:FH n r u s=false):s.st.length=n/\s.ps.length=n/\s.vs.length=n/\s.ws.length=n/\s.ta.length=r/\s.ac.length=u:=by simp only[FH,Cy,bne_eq_false_iff_eq] at h;omega
theorem aEx {g r0 r1:Int} {ts:List Th} {rs us:List (List Int)} {tv rv uv:AV} {s:Sc} (mK:fO tv 14 (nD ts)) (mF:fO rv 8 (aZ rs)) (nF:fO uv 10 (aZ us)) (ht:∀t∈ts,t.OK) (hs:s.OK) (xQ:ts.length<2^30) (H:aA):
 Sg 11 [.agg (yC g r0 r1 tv rv uv),.agg s.cs] H (.ret (.bool (nJ ts rs.length us.length s))) H:=by
 refine So aWr (by simp only[yC,bO,AV.free,Sc.free hs,mK.free (fX ht),mF.free (bF _),nF.free (bF _)];rfl) ?_ H;unfold W11;dsimp only;have lt:=mK.len;have lr:=mF.len;have lu:=nF.len;have q1:=hs.st.len;have q2:=hs.ps.len;have q3:=hs.vs.len;have q4:=hs.ws.len;have q5:=hs.ta.len;have q6:=hs.ac.len;simp only[dA] at lt lr lu q1 q2 q3 q4 q5 q6;rw[dJ] at lt;rw[aS] at lr lu q2 q3 q4;rw[bZ] at q1 q5 q6;have hL1:=BR (ts:=ts) (r:=rs.length) (u:=us.length) (s:=s);have hL2:=Sy (n:=ts.length) (r:=rs.length) (u:=us.length) (s:=s);have hL3:=KA (ts:=ts) (r:=rs.length) (u:=us.length) (s:=s);unfold FH at hL1 hL2 hL3;refine bQ ?_;simp only[↓zP,zJ,seval,yC,Sc.cs];refine bR ?_;generalize hX:((aA.mk 0 .nil).alloc _).alloc _=HA;have g0:HA.get 0=some (.cells [.int .i64 g,.int .i64 r0,.int .i64 r1,tv,rv,uv] false):=by subst hX;simp only[zI,seval]
 have g1:HA.get 1=some (.cells [s.sv,s.pv,s.vv,s.wv,s.tv,s.av] false):=by subst hX;simp only[zI,seval]
 have gn:2<=HA.next:=by subst hX;simp only[zI,seval]
 clear hX;refine bV fun f dQ=>?_;have f2:f 2=.ref 0 0:=by subst dQ;simp only[zB,seval]
 have f3:f 3=.ref 1 0:=by subst dQ;simp only[zB,seval]
 clear dQ;refine bQ ?_;simp only[↓zP,zJ,seval,f2,g0,lt];refine bR ?_;refine aN fun K hK=>?_;generalize eQ:((s.st.length:Int) != (ts.length:Nat))=b1 at *;generalize gJ:((s.ps.length:Int) != (ts.length:Nat))=b2 at *;generalize KH:((s.vs.length:Int) != (ts.length:Nat))=b3 at *;generalize MJ:((s.ws.length:Int) != (ts.length:Nat))=b4 at *;generalize Up:((s.ta.length:Int) != (rs.length:Nat))=b5 at *;generalize vg:((s.ac.length:Int) != (us.length:Nat))=b6 at *;cases b1;rotate_left
 . simp only[↓zP,zJ,seval,f3,g1,q1,eQ];refine Rx ?_;rw[hL1 rfl];rfl
 cases b2;rotate_left
 . simp only[↓zP,zJ,seval,f3,g1,q1,q2,eQ,gJ];refine Rx ?_;rw[hL1 rfl];rfl
 cases b3;rotate_left
 . simp only[↓zP,zJ,seval,f3,g1,q1,q2,q3,eQ,gJ,KH];refine Rx ?_;rw[hL1 rfl];rfl
 cases b4;rotate_left
 . simp only[↓zP,zJ,seval,f3,g1,q1,q2,q3,q4,eQ,gJ,KH,MJ];refine Rx ?_;rw[hL1 rfl];rfl
 cases b5;rotate_left
 . simp only[↓zP,zJ,seval,f2,f3,g0,g1,lr,q1,q2,q3,q4,q5,eQ,gJ,KH,MJ,Up];refine Rx ?_;rw[hL1 rfl];rfl
 cases b6;rotate_left
 . simp only[↓zP,zJ,seval,f2,f3,g0,g1,lr,lu,q1,q2,q3,q4,q5,q6,eQ,gJ,KH,MJ,Up,vg];refine Rx ?_;rw[hL1 rfl];rfl
 obtain⟨e1,e2,e3,e4,e5,e6⟩:=hL2 rfl;have hL3:=hL3 rfl;simp only[↓zP,zJ,seval,f2,f3,g0,g1,lr,lu,q1,q2,q3,q4,q5,q6,eQ,gJ,KH,MJ,Up,vg];apply hK;clear hK K hL1 hL2 eQ gJ KH MJ Up vg;refine aN fun K hK=>?_;refine bQ ?_;simp only[↓zP,zJ,seval,f3,g1,q2];refine bR ?_;refine cV [] (fun i vs H'=>H'.get 0=some (.cells [.int .i64 g,.int .i64 r0,.int .i64 r1,tv,rv,uv] false)/\H'.get 1=some (.cells [s.sv,s.pv,s.vv,s.wv,s.tv,s.av] false)/\2<=H'.next/\∀k,k<i->CP ts s k=false) s.ps.length (by omega) (by decide) ?_ ?_ ?_ ?_ ?_
 . exact zq
 . exact zq
 . exact⟨g0,g1,gn,fun k hk=>absurd hk (Ap _)⟩
 . rintro i f4 H1 hi hk x1 ⟨m0,m1,mn,bU⟩;have u2:f4 2=.ref 0 0:=by rw[hk 2 rfl];simp only[zB,seval];exact f2
   have u3:f4 3=.ref 1 0:=(by rw[hk 3 rfl];simp only[zB,seval];exact f3);have DO:i<s.st.length:=(by omega);have MM:i<s.vs.length:=(by omega);have hi4:i<s.ws.length:=(by omega);have jQ:i<ts.length:=(by omega);have KM:s.sv=.bD 0 1 (bE s.st):=hs.st.bD (i:=i) (by rw[bZ];exact DO);have nS:s.pv=.bD 0 7 (aZ s.ps):=hs.ps.bD (i:=i) ZaD;have Ps:s.vv=.bD 0 3 (aZ s.vs):=hs.vs.bD (i:=i) (by rw[aS];exact MM);have hwl:s.wv=.bD 0 3 (aZ s.ws):=hs.ws.bD (i:=i) (by rw[aS];exact hi4);have xQ:tv=.bD 0 14 (nD ts):=mK.bD (i:=i) (by rw[dJ];exact jQ);have u57:f4 57=.bD 0 7 (aZ s.ps):=(by rw[hk 57 rfl];simp only[zB,seval];exact nS);have JI:=xG DO;have SV:=cN hi;have hg3:=cN MM;have wg:=cN hi4;have DN:=mN jQ;obtain⟨p7,p64⟩:=hs.p7 _ (Ac hi);have v3:=(hs.v3 _ (Ac MM)).1;have w3:=(hs.w3 _ (Ac hi4)).1;have qP:=ht _ (Ac jQ);have xp:=VY p7 p64;have KI:CP ts s i=Ws s.ps[i] ts[i].store s.vs[i] s.ws[i] s.st[i]:=by unfold CP;simp[hi,jQ,MM,hi4,DO]
   have gV:CP ts s i=false->∀k,k<i+1->CP ts s k=false:=fun h k hk=>by
    exact ZaW
   have fS:=Ud (s:=s) (r:=rs.length) (u:=us.length) jQ;rw[KI] at gV fS;have MQ:=Th.len qP;have q7:=qP.store
   have k7:(ts[i].cs.drop 7).take 7=iC ts[i].store:=by have :ts[i].cs.drop 7=iC ts[i].store:=rfl;rw[this,Aq (by rw[cD,q7];decide)]
   have k7':ts[i].cs.drop 7=iC ts[i].store:=rfl;have xe:(iC ts[i].store).length=7:=(by rw[cD,q7]);generalize ts[i].store=q at *;generalize ts[i]=t at *;generalize s.st[i]=sb at *;generalize s.ps[i]=p at *;generalize s.vs[i]=v at *;generalize s.ws[i]=w at *;have Tg:(iC p).length=7:=(by rw[cD,p7]);have Zn:(iC v).length=3:=(by rw[cD,v3]);have xd:(iC w).length=3:=(by rw[cD,w3]);have hz1:=GW v3;have hz2:=GW w3;have Xh:cL [.i,.i,.i,.i,.i,.i,.i] (iC p) (iC q)=some (decide (p=q)):=sJ (n:=7) p7 q7
   have hwi:=aCl (m:=1099511627775) (by decide) (L:=[v,w]) (by
    intro x hx;simp only[Am,Bj,Df] at hx
    rcases hx with rfl|rfl<;>assumption) (by simp) (.inr ⟨1,rfl,rfl⟩)
   simp only[Cb,Fo,Ik,List.all_nil,Fb] at hwi;unfold Ws at gV fS;generalize decide (v=zV)=z1 at *;generalize decide (w=zV)=z2 at *;generalize decide (p=q)=e at *;generalize (CA 1099511627775 v&&CA 1099511627775 w)=ib at *;refine aJ ?_;refine bQ ?_;simp only[↓zP,zJ,seval,x1,u57,aB,aS,hi,SV,oL Tg];refine bR ?_;generalize hX:(H1.alloc _).set H1.next _=H3;have y0:H3.get 0=some (.cells [.int .i64 g,.int .i64 r0,.int .i64 r1,tv,rv,uv] false):=Za9;have y1:H3.get 1=some (.cells [s.sv,s.pv,s.vv,s.wv,s.tv,s.av] false):=(by subst hX;rw[aA.aC,if_neg (by omega),aA.aG,if_neg (by omega)];exact m1);have y7:H3.get H1.next=some (.cells (iC p) false):=Zai;have yn:2<=H3.next:=Zat;clear hX m0 m1 bU;generalize H1.next=r7 at *;refine bV fun f dQ=>?_;have v2:=Ks dQ u2;have v3':=Ks dQ u3;have v6:f 6=.int .i64 i:=Zbu;have v7:f 7=.ref r7 0:=Zbu;clear dQ;refine aN fun K2 bW=>?_
   have key:∀f:dE,f 2=.ref 0 0->f 3=.ref 1 0->f 6=.int .i64 i->f 7=.ref r7 0->f 8=.bool (z1&&z2)->K2 f [] H3:=by
    intro f v2 v3' v6 v7 v8;apply bW;clear bW K2;refine aN fun K2 bW=>?_;refine Dz ?_;simp only[↓zP,zJ,seval,zD,v7,y7,oL Tg];refine fP (xp _) ?_
    cases eQ:(hU p != 0) with
    |true=>rw[eQ] at fS;simp only[↓zP,zJ,seval,zD,eQ,gU];apply bW;clear bW K2;refine Tz ?_;refine Rx ?_;rw[fS rfl];rfl
    |false=>
    rw[eQ] at fS gV;simp only[↓zP,zJ,seval,zD,eQ,v3',v6,y1,Ps,hwl,aB,aS,MM,hi4,hg3,wg,oL Zn,oL xd];refine fP (hwi _) ?_;cases ib
    . simp only[↓zP,zJ,seval,zD,gU];exact Zac
    cases sb;rotate_left
    . simp only[↓zP,zJ,seval,zD,v3',v6,y1,KM,aB,bZ,DO,JI,gU];apply bW;clear bW K2;refine Tz ?_;exact⟨y0,y1,yn,gV rfl⟩
    cases e
    . simp only[↓zP,zJ,seval,zD,v2,v3',v6,v7,y0,y1,y7,KM,xQ,aB,bZ,dJ,DO,jQ,JI,DN,k7',oL Tg,oL xe,Xh];exact Zac
    generalize (z1&&z2)=z at *;cases z
    . simp only[↓zP,zJ,seval,zD,v2,v3',v6,v7,v8,y0,y1,y7,KM,xQ,aB,bZ,dJ,DO,jQ,JI,DN,k7',oL Tg,oL xe,Xh];exact Zac
    simp only[↓zP,zJ,seval,zD,v2,v3',v6,v7,v8,y0,y1,y7,KM,xQ,aB,bZ,dJ,DO,jQ,JI,DN,k7',oL Tg,oL xe,Xh];apply bW;clear bW K2;refine Tz ?_;exact⟨y0,y1,yn,gV rfl⟩
   cases z1
   . simp only[↓zP,zJ,seval,v3',v6,y1,Ps,aB,aS,MM,hg3,oL Zn,hz1];exact key _ (by simp only[zB,seval];exact v2) (by simp only[zB,seval];exact v3') (by simp only[zB,seval];exact v6) Za5 rfl
   simp only[↓zP,zJ,seval,v3',v6,y1,Ps,hwl,aB,aS,MM,hi4,hg3,wg,oL Zn,oL xd,hz1,hz2];exact key _ (by simp only[zB,seval];exact v2) (by simp only[zB,seval];exact v3') (by simp only[zB,seval];exact v6) Za5 rfl
 rintro f4 H1 hk ⟨m0,m1,mn,bU⟩;refine Tx ?_;apply hK;clear hK K;refine Tz ?_;refine Rx ?_;rw[hL3 fun k hk=>bU k (by omega)];rfl
structure Sc.OK1 (s:Sc):Prop where
 st:fO s.sv 1 (bE s.st)
 ps:fO s.pv 7 (aZ s.ps)
 vs:fO s.vv 3 (aZ s.vs)
 ws:fO s.wv 3 (aZ s.ws)
 ta:fO s.tv 1 (bE s.ta)
 ac:fO s.av 1 (bE s.ac)
 p7:∀p∈s.ps,p.length=7/\lC p
 v3:∀w∈s.vs,w.length=3/\lC w
 w3:∀w∈s.ws,w.length=3/\lC w
theorem Sc.OK1.ok {s:Sc} (h:s.OK1) {ts:List Th} {r u:Nat} (hf:nJ ts r u s=true) (h1:ts.length<2^30) (h2:r<2^30) (h3:u<2^30):s.OK:=by
 have hl:FH ts.length r u s=false:=by
  cases e:FH ts.length r u s with
  |false=>rfl
  |true=>rw[BR e] at hf;cases hf
 obtain⟨l1,l2,l3,l4,l5,l6⟩:=Sy hl;exact⟨h.st,h.ps,h.vs,h.ws,h.ta,h.ac,h.p7,h.v3,h.w3,by omega,by omega,by omega,by omega,by omega,by omega⟩
theorem Sc.aIz {s:Sc} (h:s.OK1):bO s.cs=true:=by simp only[Sc.cs,sf,h.st.free (gO _),h.ps.free (bF _),h.vs.free (bF _),h.ws.free (bF _),h.ta.free (gO _),h.ac.free (gO _)]
def yU (k nT nR nP:Int):Option (Int×Int):=if k=1\/k=2 then some (1,nT) else if k=3\/k=4 then some (0,nR -1) else if k=5\/k=6 then some (0,nP -1) else if k=7 then some (0,0) else if k=8 then some (1,10000) else none
def mO (ps:List (List Int)) (i:Nat):Bool:=hU (ps.getD i []) != 0||(decide (0<i)&&decide (ps.getD i []=ps.getD (i -1) []))
def TD (k:Int):Bool:=k==1||k==2
def Sz (k:Int) (m:Nat):Bool:=if TD k then decide ((m:Int)<2)||decide ((m:Int)>32) else decide ((m:Int)>0)
def lR (nT nR nP k n:Int) (ps:List (List Int)):Int:=match yU k nT nR nP with
 |none=>1
 |some (lo,hi)=>if decide (n<lo)||decide (n>hi) then 1 else if(List.range ps.length).any (mO ps) then 1 else if Sz k ps.length then 2 else 0
def oC (k n:Int) (pv:AV):List AV:=[.int .i64 k,.int .i64 n,pv]
theorem QN {ps:List (List Int)} (h:∀i,i<ps.length->mO ps i=false):(List.range ps.length).any (mO ps)=false:=by rw[Da];intro i hi;rw[h i (Ay.1 hi)];decide
theorem ND {ps:List (List Int)} {i:Nat} (hi:i<ps.length) (h:mO ps i=true):(List.range ps.length).any (mO ps)=true:=Bz.2 ⟨i,Ay.2 hi,h⟩
theorem aEg {g r0 r1:Int} {ts:List Th} {rs us ps:List (List Int)} {tv rv uv pv:AV} {k n:Int} (mK:fO tv 14 (nD ts)) (mF:fO rv 8 (aZ rs)) (nF:fO uv 10 (aZ us)) (wE:fO pv 7 (aZ ps)) (ht:∀t∈ts,t.OK)
 (hp:∀p∈ps,p.length=7/\lC p) (CV:rs.length<2^62) (Zs:us.length<2^62) (nS:ps.length<2^63) (H:aA):
 Sg 32 [.agg (yC g r0 r1 tv rv uv),.agg (oC k n pv)] H (.ret (.int .i64 (lR ts.length rs.length us.length k n ps))) H:=by
 refine So bBv (by simp only[yC,oC,sf,mK.free (fX ht),mF.free (bF _),nF.free (bF _),wE.free (bF _)]) ?_ H;unfold W32;dsimp only;have lt:=mK.len;have lr:=mF.len;have lu:=nF.len;have lp:=wE.len;simp only[dA] at lt lr lu lp;rw[dJ] at lt;rw[aS] at lr lu lp;have hwr:IntKind.i64.wrap ((rs.length:Int) -1)=rs.length -1:=wrap_i64 (by omega) (by omega);have hwu:IntKind.i64.wrap ((us.length:Int) -1)=us.length -1:=wrap_i64 (by omega) (by omega);generalize hnT:(ts.length:Int)=nT at *;generalize hnR:(rs.length:Int)=nR at *;generalize hnU:(us.length:Int)=nU at *;refine bQ ?_;simp only[↓zP,zJ,seval,yC,oC];refine bR ?_;generalize hX:((aA.mk 0 .nil).alloc _).alloc _=HA;have g0:HA.get 0=some (.cells [.int .i64 g,.int .i64 r0,.int .i64 r1,tv,rv,uv] false):=by subst hX;simp only[zI,seval]
 have g1:HA.get 1=some (.cells [.int .i64 k,.int .i64 n,pv] false):=by subst hX;simp only[zI,seval]
 have gn:2<=HA.next:=by subst hX;simp only[zI,seval]
 clear hX;refine bV fun f dQ=>?_;have f2:f 2=.ref 0 0:=by subst dQ;simp only[zB,seval]
 have f3:f 3=.ref 1 0:=by subst dQ;simp only[zB,seval]
 clear dQ;refine bQ ?_;refine Tz ?_;refine bR ?_;refine aN fun K hK=>?_
 have key:∀(f:dE) (lo hi:Int),f 2=.ref 0 0->f 3=.ref 1 0->f 5=.int .i64 lo->f 6=.int .i64 hi->yU k nT nR nU=some (lo,hi)->K f [] HA:=by
  intro f lo hi f2 f3 f5 f6 hlh;apply hK;clear hK K
  have hC:lR nT nR nU k n ps=if decide (n<lo)||decide (n>hi) then 1 else if(List.range ps.length).any (mO ps) then 1 else if Sz k ps.length then 2 else 0:=by unfold lR;rw[hlh]
  rw[hC];clear hC hlh;refine aN fun K hK=>?_;generalize eQ:decide (n<lo)=b1 at *;generalize gJ:decide (n>hi)=b2 at *;cases b1;rotate_left
  . simp only[↓zP,zJ,seval,f3,g1,f5,eQ];exact ZaQ
  cases b2;rotate_left
  . simp only[↓zP,zJ,seval,f3,g1,f5,f6,eQ,gJ];exact ZaQ
  simp only[↓zP,zJ,seval,f3,g1,f5,f6,eQ,gJ];apply hK;clear hK K eQ gJ f5 f6;rw[show(false||false)=false from rfl,if_neg (by decide)];refine aN fun K hK=>?_;refine bQ ?_;simp only[↓zP,zJ,seval,f3,g1,lp];refine bR ?_;refine cV [] (fun i vs H'=>H'.get 1=some (.cells [.int .i64 k,.int .i64 n,pv] false)/\2<=H'.next/\∀j,j<i->mO ps j=false) ps.length (by omega) (by decide) ?_ ?_ ?_ ?_ ?_
  . exact zq
  . exact zq
  . exact⟨g1,gn,fun j hj=>absurd hj (Ap _)⟩
  . rintro i f4 H1 hi hk e1 ⟨m1,mn,bU⟩;have u3:f4 3=.ref 1 0:=by rw[hk 3 rfl];simp only[zB,seval];exact f3
    have nS:pv=.bD 0 7 (aZ ps):=wE.bD (i:=i) ZaD;have u47:f4 47=.bD 0 7 (aZ ps):=(by rw[hk 47 rfl];simp only[zB,seval];exact nS);have hg:=cN hi;have hg':0<i->(aZ ps).getD (i -1) []=iC ps[i -1]:=fun _=>cN (by omega);obtain⟨h7,SP⟩:=hp _ (Ac hi);have xp:=VY h7 SP
    have gV:mO ps i=false->∀j,j<i+1->mO ps j=false:=fun h j hj=>by
     by_cases e:j=i
     . subst e;exact h
     exact bU j (by omega)
    have fS:mO ps i=true->(if(List.range ps.length).any (mO ps)=true then(1:Int) else if Sz k ps.length=true then 2 else 0)=1:=fun h=>if_pos (ND hi h);have KI:mO ps i=(hU ps[i] != 0||(decide (0<i)&&decide (ps[i]=ps.getD (i -1) []))):=(by unfold mO;rw[show ps.getD i []=ps[i] from by simp[hi]]);have HP:0<i->ps.getD (i -1) []=ps[i -1]:=fun h0=>by simp[show i -1<ps.length from by omega]
    have h7':0<i->ps[i -1].length=7:=fun _=>(hp _ (Ac (by omega))).1;have Tg:(iC ps[i]).length=7:=(by rw[cD,h7]);rw[KI] at gV fS;refine aJ ?_;refine bQ ?_;simp only[↓zP,zJ,seval,e1,u47,aB,aS,hi,hg,oL Tg];refine bR ?_;generalize hX:(H1.alloc _).set H1.next _=H3;have w1:H3.get 1=some (.cells [.int .i64 k,.int .i64 n,pv] false):=(by subst hX;rw[aA.aC,if_neg (by omega),aA.aG,if_neg (by omega)];exact m1);have w8:H3.get H1.next=some (.cells (iC ps[i]) false):=Zai;have wn:2<=H3.next:=Zat;clear hX;generalize H1.next=r8 at *;refine aN fun K2 bW=>?_;refine Dz ?_;simp only[↓zP,zJ,seval,zD,w8,oL Tg];refine fP (xp _) ?_
    cases eQ:(hU ps[i] != 0) with
    |true=>rw[eQ] at fS;simp only[↓zP,zJ,seval,zD,eQ,gU];apply bW;clear bW K2;refine Tz ?_;refine Rx ?_;rw[fS rfl];rfl
    |false=>
     rw[eQ] at fS gV;by_cases h0:0<i
     . have d0:=Aj (show(i:Int)>0 by omega);have hwi:IntKind.i64.wrap ((i:Int) -1)=((i -1:Nat):Int):=wI (by omega);have DO:i -1<ps.length:=(by omega);have Zh:cL [.i,.i,.i,.i,.i,.i,.i] (iC ps[i]) (iC ps[i -1])=some (decide (ps[i]=ps[i -1])):=sJ (n:=7) h7 (h7' h0);have aSm:(iC ps[i -1]).length=7:=(by rw[cD,h7' h0]);rw[Aj h0,HP h0] at fS gV;simp only[↓zP,zJ,seval,zD,eQ,d0,u3,w1,w8,nS,hwi,aB,aS,DO,hg' h0,oL Tg,oL aSm,Zh];apply bW;clear bW K2
       cases gJ:decide (ps[i]=ps[i -1]) with
       |true=>rw[gJ] at fS;refine Tz ?_;refine Rx ?_;rw[fS rfl];rfl
       |false=>rw[gJ] at gV;refine Tz ?_;exact⟨w1,wn,gV rfl⟩
     have d0:=Ag (show ¬(i:Int)>0 by omega);rw[Ag h0] at gV;simp only[↓zP,zJ,seval,zD,eQ,d0];apply bW;clear bW K2;refine Tz ?_;exact⟨w1,wn,gV rfl⟩
  rintro f4 H1 hk ⟨m1,mn,bU⟩;have u3:f4 3=.ref 1 0:=by rw[hk 3 rfl];simp only[zB,seval];exact f3
  have hA:(if(List.range ps.length).any (mO ps)=true then(1:Int) else if Sz k ps.length=true then 2 else 0)=if Sz k ps.length=true then 2 else 0:=by rw[QN bU,if_neg (by decide)]
  refine Tx ?_;apply hK;clear hK K;clear hk bU
  have hB:Sz k ps.length=if TD k then decide ((ps.length:Int)<2)||decide ((ps.length:Int)>32) else decide ((ps.length:Int)>0):=rfl
  have Zo:TD k=(k==1||k==2):=rfl;refine aN fun K hK=>?_
  have bDk:∀f:dE,f 3=.ref 1 0->f 9=.bool (TD k)->K f [] H1:=by
   intro f f3 f9;apply hK;clear hK K Zo;generalize TD k=mv at *;generalize SU:decide ((ps.length:Int)<2)=c1 at *;generalize CT:decide ((ps.length:Int)>32)=c2 at *;generalize vj:decide ((ps.length:Int)>0)=c3 at *;cases mv
   . cases c3
     . simp only[↓zP,zJ,seval,f3,f9,m1,lp,vj,gU];refine Rx ?_;rw[hA,hB];rfl
     simp only[↓zP,zJ,seval,f3,f9,m1,lp,vj,gU];refine Rx ?_;rw[hA,hB];rfl
   cases c1<;>cases c2<;>
   . simp only[↓zP,zJ,seval,f3,f9,m1,lp,SU,CT,gU];refine Rx ?_;rw[hA,hB];rfl
  rw[Zo] at bDk;generalize JK:(k==1)=q1 at *;generalize Sb:(k==2)=q2 at *;cases q1<;>cases q2<;>
  . simp only[↓zP,zJ,seval,u3,m1,JK,Sb];exact bDk _ (by simp only[zB,seval];exact u3) rfl
 have hK8:∀j:Int,(k==j)=true->k=j:=fun j h=>Cf.1 h;have hN8:∀j:Int,(k==j)=false->k≠j:=fun j h=>Bq.1 h;generalize JK:(k==1)=q1 at *;generalize Sb:(k==2)=q2 at *;generalize xt:(k==3)=q3 at *;generalize hq4:(k==4)=q4 at *;generalize hq5:(k==5)=q5 at *;generalize hq6:(k==6)=q6 at *;generalize xu:(k==7)=q7 at *;generalize hq8:(k==8)=q8 at *;simp only[↓zP,zJ,seval,f3,g1];refine aJ ?_;cases q1;rotate_left
 . simp only[↓zP,zG,seval,JK];refine Dz ?_;simp only[↓zP,zJ,seval,zD,f2,g0,lt];exact key _ 1 nT ZaJ ZaI zq zq (by rw[hK8 1 JK];rfl)
 cases q2;rotate_left
 . simp only[↓zP,zG,seval,JK,Sb];refine Dz ?_;simp only[↓zP,zJ,seval,zD,f2,g0,lt];exact key _ 1 nT ZaJ ZaI zq zq (by rw[hK8 2 Sb];rfl)
 cases q3;rotate_left
 . simp only[↓zP,zJ,seval,f2,g0,lr,hwr,JK,Sb,xt];exact key _ 0 (nR -1) ZaJ ZaI zq zq (by rw[hK8 3 xt];rfl)
 cases q4;rotate_left
 . simp only[↓zP,zJ,seval,f2,g0,lr,hwr,JK,Sb,xt,hq4];exact key _ 0 (nR -1) ZaJ ZaI zq zq (by rw[hK8 4 hq4];rfl)
 cases q5;rotate_left
 . simp only[↓zP,zJ,seval,f2,g0,lu,hwu,JK,Sb,xt,hq4,hq5];exact key _ 0 (nU -1) ZaJ ZaI zq zq (by rw[hK8 5 hq5];rfl)
 cases q6;rotate_left
 . simp only[↓zP,zJ,seval,f2,g0,lu,hwu,JK,Sb,xt,hq4,hq5,hq6];exact key _ 0 (nU -1) ZaJ ZaI zq zq (by rw[hK8 6 hq6];rfl)
 cases q7;rotate_left
 . simp only[↓zP,zG,seval,JK,Sb,xt,hq4,hq5,hq6,xu];exact key _ 0 0 ZaJ ZaI zq zq (by rw[hK8 7 xu];rfl)
 cases q8;rotate_left
 . simp only[↓zP,zG,seval,JK,Sb,xt,hq4,hq5,hq6,xu,hq8];exact key _ 1 10000 ZaJ ZaI zq zq (by rw[hK8 8 hq8];rfl)
 simp only[↓zP,zG,seval,JK,Sb,xt,hq4,hq5,hq6,xu,hq8];refine Rx ?_
 have :yU k nT nR nU=none:=by have h1:=hN8 1 JK;have h2:=hN8 2 Sb;have h3:=hN8 3 xt;have h4:=hN8 4 hq4;have h5:=hN8 5 hq5;have h6:=hN8 6 hq6;have h7:=hN8 7 xu;have h8:=hN8 8 hq8;unfold yU;rw[if_neg (by omega),if_neg (by omega),if_neg (by omega),if_neg h7,if_neg h8]
 unfold lR;rw[this];rfl
end Go.Proofs.YtgggiembljfnhaaGreatDoor
namespace Go.Proofs.YtgggiembljfnhaaGreatDoor
open Go Go.Av Go.aP
open Go.ChangeShapes Go.WideShapes Go.ChangeAt Go.RowKit
section
theorem fO.bDq {v:AV} {sz:Nat} {bB:List (List AV)} (h:fO v sz bB):v.one=true:=by rcases h with ⟨rfl,_⟩|rfl<;>rfl
section
variable {H:Type} {enc:TypeId×Value->H} {W:World} {base:Nat} {hd:Bool}
theorem km {c:Array Value} {m:Nat} {y:DataW H×List MemPlace} (mo:Bool) (hl:c.toList.length=6) (h:DataW.trod enc Tryz.prog W base (fun _=>true) hd m 27 c.toList=some y):
 ∃(g r0 r1:Int) (tv rv uv:AV) (ts:List Th) (rs us:List (List Int)),fO tv 14 (nD ts)/\fO rv 8 (aZ rs)/\fO uv 10 (aZ us)/\(∀t∈ts,t.OK)/\(∀r∈rs,r.length=8/\lC r)/\(∀r∈us,r.length=10/\lC r)/\
  VR (oR mo W) W (.agg (yC g r0 r1 tv rv uv)) (.agg c):=by
 have R:=oX 8 (ts:=[3,3,3,23,24,25]) (by kernel_rfl) h;obtain⟨u3,m3,y3,e3,t3⟩:=R 3 23 rfl;obtain⟨u4,m4,y4,e4,t4⟩:=R 4 24 rfl;obtain⟨u5,m5,y5,e5,t5⟩:=R 5 25 rfl;obtain⟨tv,ts,mK,ht,vt⟩:=VU mo t3;obtain⟨rv,rs,mF,hr,vr,_⟩:=KU (n:=8) mo Tryz.underlying24 (by kernel_rfl) (by kernel_rfl) (by decide) t4;obtain⟨uv,us,nF,hu,vu,_⟩:=KU (n:=10) mo Tryz.underlying25 (by kernel_rfl) (by kernel_rfl) (by decide) t5;refine⟨MV (c.toList.getD 0 undef),MV (c.toList.getD 1 undef),MV (c.toList.getD 2 undef),tv,rv,uv,ts,rs,us,mK,mF,nF,ht,hr,hu,.agg _ c.toList hl ?_ ?_⟩
 . intro c hc;simp only[yC,Am,Bj,Df] at hc
   rcases hc with rfl|rfl|rfl|rfl|rfl|rfl<;>first|rfl|exact fO.bDq (by assumption)
 intro j hj
 exact match j,hj with
 |0,_=>oN (fD R (i:=0) (u:=3) rfl Tryz.underlying3)
 |1,_=>oN (fD R (i:=1) (u:=3) rfl Tryz.underlying3)
 |2,_=>oN (fD R (i:=2) (u:=3) rfl Tryz.underlying3)
 |3,_=>by rw[show c.toList.getD 3 undef=u3 from by rw[List.getD,e3];rfl];exact vt
 |4,_=>by rw[show c.toList.getD 4 undef=u4 from by rw[List.getD,e4];rfl];exact vr
 |5,_=>by rw[show c.toList.getD 5 undef=u5 from by rw[List.getD,e5];rfl];exact vu
 |n+6,h=>absurd h (by simp only[yC,As,Bm];omega)
structure PT where
 k:Int
 n:Int
 pv:AV
 ps:List (List Int)
instance:Inhabited PT:=⟨⟨0,0,.aO,[]⟩⟩
def PT.cs (o:PT):List AV:=oC o.k o.n o.pv
structure PT.OK (o:PT):Prop where
 k:JF o.k
 n:JF o.n
 pv:fO o.pv 7 (aZ o.ps)
 p7:∀p∈o.ps,p.length=7/\lC p
 len:o.ps.length<2^63
theorem aAb {cs:List Value} {m:Nat} {y:DataW H×List MemPlace} (mo:Bool) (h:DataW.trod enc Tryz.prog W base (fun _=>true) hd m 34 cs=some y):
 ∃o:PT,o.OK/\∀j,j<3->VR (oR mo W) W (o.cs.getD j aD) (cs.getD j undef):=by
 have R:=oX 8 (ts:=[3,3,29]) (by kernel_rfl) h;obtain⟨u2,m2,y2,e2,t2⟩:=R 2 29 rfl;obtain⟨pv,ps,wE,hp,vp,_,hl⟩:=KU (n:=7) mo Tryz.underlying29 (by kernel_rfl) (by kernel_rfl) (by decide) t2;have i0:=fD R (i:=0) (u:=3) rfl Tryz.underlying3;have i1:=fD R (i:=1) (u:=3) rfl Tryz.underlying3;refine⟨⟨MV (cs.getD 0 undef),MV (cs.getD 1 undef),pv,ps⟩,⟨Xl i0,Xl i1,wE,hp,hl⟩,fun j hj=>?_⟩
 exact match j,hj with
  |0,_=>oN i0
  |1,_=>oN i1
  |2,_=>by rw[show cs.getD 2 undef=u2 from by rw[List.getD,e2];rfl];exact vp
  |n+3,h=>absurd h (by omega)
theorem PT.bIs {o:PT} (h:o.OK):∀c∈o.cs,c.one=true:=by
 intro c hc;simp only[PT.cs,oC,Am,Bj,Df] at hc
 rcases hc with rfl|rfl|rfl<;>first|rfl|exact fO.bDq h.pv
def ko (l:List PT):List (List AV):=l.map PT.cs
theorem aAc {t:TypeId} {v:Value} {m:Nat} {y:DataW H×List MemPlace} (mo:Bool) (ht:Tryz.prog.underlying t=some (.slice 34)) (h:DataW.trod enc Tryz.prog W base (fun _=>true) hd m t [v]=some y):
 ∃(av:AV) (l:List PT),fO av 3 (ko l)/\(∀o∈l,o.OK)/\VR (oR mo W) W av v/\l.length<2^63:=by
 obtain⟨av,l,h1,h2,h3,_,h4⟩:=tV (α:=PT) mo ht (n:=3) (by kernel_rfl) (by decide) PT.cs PT.OK (fun o ho=>⟨rfl,PT.bIs ho⟩) (fun cs m y _ hy=>aAb mo hy) h;exact⟨av,l,h1,h2,h3,h4⟩
end
end
end Go.Proofs.YtgggiembljfnhaaGreatDoor
namespace Go.Proofs.YtgggiembljfnhaaGreatDoor
open Go Go.Av
def W72:{x // KS Tryz.prog gv true Tryz.f72=some x}:=⟨_,cX⟩
theorem bCu:kM Tryz.prog gv true 72 W72.1:=jF Tryz.func72 (by kernel_rfl) W72.2
def W74:{x // KS Tryz.prog gv true Tryz.f74=some x}:=⟨_,cX⟩
theorem bCw:kM Tryz.prog gv true 74 W74.1:=jF Tryz.func74 (by kernel_rfl) W74.2
def W73:{x // KS Tryz.prog gv true Tryz.f73=some x}:=⟨_,cX⟩
theorem bCv:kM Tryz.prog gv true 73 W73.1:=jF Tryz.func73 (by kernel_rfl) W73.2
def aOp:CW Tryz.f233:=⟨_,cX⟩
theorem aZt:Fi 233 aOp:=cM Tryz.func233 aOp
def aOs:CW Tryz.f236:=⟨_,cX⟩
theorem aZw:Fi 236 aOs:=cM Tryz.func236 aOs
def aOq:CW Tryz.f234:=⟨_,cX⟩
theorem aZu:Fi 234 aOq:=cM Tryz.func234 aOq
def aQr:CW Tryz.f325:=⟨_,vF⟩
theorem bBx:Fi 325 aQr:=cM Tryz.func325 aQr
def aQa:CW Tryz.f292:=⟨_,vF⟩
theorem bBf:Fi 292 aQa:=cM Tryz.func292 aQa
def aQb:CW Tryz.f293:=⟨_,cX⟩
theorem bBg:Fi 293 aQb:=cM Tryz.func293 aQb
attribute [local congr] aT aI aL aH aX aQ aM aF aY
attribute [local irreducible] FC bS eF
def Lq (H:aA) (lo hi:Nat) (v:AV) (sz:Nat) (bB:List (List AV)):Prop:=
 (bB=[]/\(v=.aO\/v=.bD 1 sz []))\/∃id,v=.sl id sz 0 bB.length bB.length/\lo<=id/\id<hi/\H.get id=some (.cells bB.flatten true)
theorem Lq.dH {H H':aA} {lo hi WV gQ:Nat} {v:AV} {sz:Nat} {bB:List (List AV)} (h:Lq H lo hi v sz bB) (h1:WV<=lo) (h2:hi<=gQ) (hg:∀j,lo<=j->j<hi->H'.get j=H.get j):Lq H' WV gQ v sz bB:=by
 rcases h with h|⟨id,h,a,b,c⟩
 . exact .inl h
 exact .inr ⟨id,h,by omega,by omega,by rw[hg id a b];exact c⟩
theorem Lq.at {H:aA} {lo hi:Nat} {v:AV} {sz:Nat} {bB:List (List AV)} (h:Lq H lo hi v sz bB) {i:Nat} (gQ:i<bB.length):
 ∃id,v=.sl id sz 0 bB.length bB.length/\lo<=id/\id<hi/\H.get id=some (.cells bB.flatten true):=by
 rcases h with ⟨rfl,_⟩|h
 . exact absurd gQ (Ap _)
 exact h
def clV (H:aA) (v:AV) (sz:Nat) (bB:List (List AV)):AV:=match v with
 |.aO=>.aO
 |_=>if bB=[] then .bD 1 sz [] else .sl H.next sz 0 bB.length bB.length
def gl (H:aA) (bB:List (List AV)):aA:=if bB=[] then H else H.alloc (.cells bB.flatten true)
theorem UJ (H:aA) (bB:List (List AV)):H.next<=(gl H bB).next:=by
 unfold gl;split
 . exact Ab _
 exact Zaf
theorem ZH (H:aA) (bB:List (List AV)) {j:Nat} (hj:j<H.next):(gl H bB).get j=H.get j:=by
 unfold gl;split
 . rfl
 rw[aA.aG,if_neg (by omega)]
theorem aIt {H:aA} {v:AV} {sz:Nat} {bB:List (List AV)} (h:fO v sz bB):Lq (gl H bB) H.next (gl H bB).next (clV H v sz bB) sz bB:=by
 unfold clV gl
 rcases h with ⟨rfl,rfl⟩|rfl
 . exact .inl ⟨rfl,.inl rfl⟩
 by_cases he:bB=[]
 . simp only[if_pos he];exact .inl ⟨he,.inr rfl⟩
 simp only[if_neg he];exact .inr ⟨_,rfl,Ab _,by simp only[aA.aR];omega,by rw[aA.aG,if_pos rfl]⟩
theorem MH {H:aA} {sz bytes tag:Nat} {bB:List (List AV)} (h:bB.length*bytes<=2^40):dR H sz bytes true (.bD 1 sz []) bB=some (clV H (.bD 0 sz bB) sz bB,gl H bB):=by
 unfold dR clV gl;by_cases he:bB=[]
 . subst he;rfl
 have cQ:bB.isEmpty=false:=by cases bB with
  |nil=>exact absurd rfl he
  |cons _ _=>rfl
 simp only[cQ,if_neg he,kS,Db,Bm,Cq,if_true,Bb,Bp];rw[if_pos ⟨trivial,h⟩]
theorem SE {v:AV} {bB:List (List AV)} (h:fO v 1 bB) (hl:bB.length<2^30) (H:aA):Sg 72 [v] H (.ret (clV H v 1 bB)) (gl H bB):=by
 have ha:=MH (H:=H) (sz:=1) (bytes:=1) (tag:=0) (bB:=bB) (by omega);refine gH bCu (Ai rfl) ?_ (by rfl);unfold W72;exact Zap
theorem ZI {v:AV} {bB:List (List AV)} (h:fO v 3 bB) (hl:bB.length<2^30) (H:aA):Sg 74 [v] H (.ret (clV H v 3 bB)) (gl H bB):=by
 have ha:=MH (H:=H) (sz:=3) (bytes:=24) (tag:=0) (bB:=bB) (by omega);refine gH bCw (Ai rfl) ?_ (by rfl);unfold W74;exact Zap
theorem aEi {v:AV} {bB:List (List AV)} (h:fO v 7 bB) (hl:bB.length<2^30) (H:aA):Sg 73 [v] H (.ret (clV H v 7 bB)) (gl H bB):=by
 have ha:=MH (H:=H) (sz:=7) (bytes:=56) (tag:=0) (bB:=bB) (by omega);refine gH bCv (Ai rfl) ?_ (by rfl);unfold W73;exact Zap
def W88:CW Tryz.f88:=⟨_,cX⟩
theorem bIn:Fi 88 W88:=cM Tryz.func88 W88
def W8:CW Tryz.f8:=⟨_,cX⟩
theorem is8:Fi 8 W8:=cM Tryz.func8 W8
def W16:CW Tryz.f16:=⟨_,cX⟩
theorem bHd:Fi 16 W16:=cM Tryz.func16 W16
def W33:CW Tryz.f33:=⟨_,vF⟩
theorem bBy:Fi 33 W33:=cM Tryz.func33 W33
def W34:CW Tryz.f34:=⟨_,cX⟩
theorem bCf:Fi 34 W34:=cM Tryz.func34 W34
def W75:CW Tryz.f75:=⟨_,vF⟩
theorem bCx:Fi 75 W75:=cM Tryz.func75 W75
def W77:CW Tryz.f77:=⟨_,vF⟩
theorem bCz:Fi 77 W77:=cM Tryz.func77 W77
def W79:CW Tryz.f79:=⟨_,vF⟩
theorem bDa:Fi 79 W79:=cM Tryz.func79 W79
def W76:CW Tryz.f76:=⟨_,cX⟩
theorem bCy:Fi 76 W76:=cM Tryz.func76 W76
end Go.Proofs.YtgggiembljfnhaaGreatDoor
