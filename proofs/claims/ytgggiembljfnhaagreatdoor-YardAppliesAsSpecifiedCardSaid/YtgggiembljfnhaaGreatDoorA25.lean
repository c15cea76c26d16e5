/-
  Part of the proof of statement 11
-/
import Derived.Test.YtgggiembljfnhaaGreatDoorA23
import Derived.Test.YtgggiembljfnhaaGreatDoorA18
import Derived.Test.YtgggiembljfnhaaGreatDoorA24
import Derived.Test.YtgggiembljfnhaaGreatDoorA17
import Derived.Test.YtgggiembljfnhaaGreatDoorA16
import Derived.Test.YtgggiembljfnhaaGreatDoorA06
import Derived.Test.YtgggiembljfnhaaGreatDoorA05
import Derived.Test.YtgggiembljfnhaaGreatDoorA07
import Derived.Test.YtgggiembljfnhaaGreatDoorA21
import Derived.Test.YtgggiembljfnhaaGreatDoorA22
import Derived.Test.YtgggiembljfnhaaGreatDoorA15
import Derived.Test.YtgggiembljfnhaaGreatDoorA19
import Derived.Test.YtgggiembljfnhaaGreatDoorRows
set_option linter.unusedVariables false
set_option linter.unusedSimpArgs false
set_option maxRecDepth 100000
set_option maxHeartbeats 16000000
namespace Go.Proofs.YtgggiembljfnhaaGreatDoor
open Go Go.Av Go.aP
attribute [local congr] aT aI aM aH aW aQ aN aF aX
attribute [local irreducible] FC bS eG
theorem qg {t1 t2:Nat} (h1:Nat.blt t1 2=true) (h2:Nat.blt t2 2=true) {a b:List aP.V} (ha:a.length<2^30) (hb:b.length<2^30) (H:aA):
 Sg 123 [.bB t1 3 (cJ a),.bB t2 3 (cJ b)] H (.ret (.bool (decide (a=b)))) H:=by
 refine So aWi (by simp only[sf,dK h1,dK h2]) ?_ H;unfold aLg;dsimp only;refine bQ ?_;refine Tz ?_;refine bR ?_;refine aJ fun K hK=>?_;by_cases hl:a.length=b.length
 . have hn:((a.length:Int) != (b.length:Int))=false:=by simp[hl]
   simp only[↓zP,zJ,seval,aU,hn];apply hK;clear hK K;refine aJ fun K hK=>?_;refine bQ ?_;refine Ty ?_;refine bR ?_;refine dD [] (fun i vs H=>a.take i=b.take i) a.length (by omega) (by decide) ?_ ?_ ?_ ?_ ?_
   . exact zq
   . simp only[zB,seval,aU]
   . rfl
   . rintro i f H1 hi hk e1 GC;have hib:i<b.length:=(by omega);have ga:=dC hi;have gb:=dC hib;refine aL ?_;refine bQ ?_;simp only[↓zP,zG,seval,e1];refine fD ?_;refine Dz ?_;simp only[↓zP,zJ,seval,zD,hk 0 rfl,hk 1 rfl,aB,aU,hi,hib,ga,gb,oL (aV a[i]),oL (aV b[i]),nB];refine bR ?_;by_cases he:a[i]=b[i]
     . have fV:(!decide (a[i]=b[i]))=false:=(by simp[he]);simp only[↓zP,zG,seval,fV];rw[Ao,Ao,GC,Ad hi,Ad hib,he]
     have fV:(!decide (a[i]=b[i]))=true:=(by simp[he]);simp only[↓zP,zG,seval,fV];refine Rx ?_;rw[Ag]
     . rfl
     rintro rfl;exact he rfl
   rintro f H1 hk GC;rw[Ay,hl,Ay] at GC;refine Tx ?_;apply hK;refine Tz ?_;refine Rx ?_;rw[Aj GC];rfl
 have hn:((a.length:Int) != (b.length:Int))=true:=by simp;omega
 simp only[↓zP,zJ,seval,aU,hn];refine Rx ?_;rw[Ag]
 . rfl
 rintro rfl;exact hl rfl
theorem Of (H:aA):Sg 155 [.aR] H (.ret .aR) H:=by
 refine eQ fit fG aJm (Ak rfl) Zah ?_ H;unfold aCp;dsimp only;refine bQ ?_;refine Tz ?_;refine fD ?_;refine Ty ?_;refine bR ?_;refine aJ fun K hK=>?_;refine bQ ?_;refine Ty ?_;refine bR ?_;refine dD [] (fun i _ H=>H.get 0=some (.map [])/\1<=H.next) 0 (by decide) (by decide) ?_ ?_ ?_ ?_ ?_
 . exact zq
 . exact zq
 . exact⟨rfl,Ab _⟩
 . rintro i f H hi;exact absurd hi (An _)
 rintro f H hk ⟨hmp,AN⟩;refine Tx ?_;apply hK;clear hK K;refine bQ ?_;refine Tz ?_;refine bR ?_;refine aJ fun K hK=>?_;refine bQ ?_;simp only[↓zP,zG,seval,hk 3 rfl];refine Kx (by decide) (by simp only[↓zP,seval]) hmp fun bs c mb Uk hbn=>?_;refine Tx ?_;refine bR ?_;obtain rfl:bs=[]:=Cm Uk;generalize gD:H.next=it at *;refine aL ?_;refine iM [10] (fun m vs H'=>vs=[.aR]/\H'.get it=some (.iter 0 mb c [])/\H'.get 0=some (.sK [] [] c mb)) 0 (by rfl) ?_ ?_
 . refine⟨by simp only[sm,zB,seval],by simp only[seval,zI,gD],?_⟩;simp only[seval,zI,gD];rw[if_neg (by omega)]
 rintro m f2 H2 eO ⟨hv,gi,g0⟩;simp only[zM] at hv;refine bQ ?_;refine Tx ?_;refine Mm (by decide) (by simp only[↓zP,seval,eO 73 rfl]) gi g0 (fun bV=>?_) fun j hj hnj=>absurd hj (An _);refine Tz ?_;refine bR ?_;refine Tz ?_;apply hK;clear hK K;simp only[↓zP,zG,seval,hv];refine bZ (oY Tryz.aBi rfl TB 209 _) ?_;simp only[↓zP,zG,seval,hv];refine Rx ?_;exact⟨_,0,rfl,fun nw=>rfl⟩
theorem ur (b:Bool) (A B:Prop):jK aC b A B=B:=eD id id
theorem UF (x:Int):zY x 0=uW x:=by unfold zY uW;split<;>(try split)<;>omega
theorem Mc (x:Int):(uW x).natAbs<=1:=by unfold uW;split<;>(try split)<;>decide
theorem cu (n c:aP.V) {i:Nat} (hi:i<3) (h0:∀k,k<i->n.at k=0) (h:n.at i≠0):aP.rV n c=uW (c.at i)*uW (n.at i):=by
 unfold aP.rV
 match i,hi with
 |0,_=>rw[if_pos (show n.x≠0 from h)];rfl
 |1,_=>rw[if_neg (show ¬n.x≠0 from fun e=>e (h0 0 (by decide))),if_pos (show n.y≠0 from h)];rfl
 |2,_=>rw[if_neg (show ¬n.x≠0 from fun e=>e (h0 0 (by decide))),if_neg (show ¬n.y≠0 from fun e=>e (h0 1 (by decide))),if_pos (show n.z≠0 from h)];rfl
theorem Re (n c:aP.V) (h0:∀k,k<3->n.at k=0):aP.rV n c=0:=by unfold aP.rV;rw[if_neg (show ¬n.x≠0 from fun e=>e (h0 0 (by decide))),if_neg (show ¬n.y≠0 from fun e=>e (h0 1 (by decide))),if_neg (show ¬n.z≠0 from fun e=>e (h0 2 (by decide)))]
theorem aHp {a b:aP.V} {A B:Nat} (n:aP.V) (ha:cH A a) (hb:cH B b) (hs:A*B<2^61) (H:aA):
 Sg 213 [.agg (cT n),.agg (cT a),.agg (cT b)] H (.ret (.int .i64 (aP.rV n (aP.aZ a b)))) H:=by
 refine So aYn Zam ?_ H;unfold aNl;dsimp only;refine aJ fun K hK=>?_;simp only[↓zP,zG,seval,zI];apply hK;clear hK K;refine aJ fun K hK=>?_;simp only[↓zP,zG,seval,zI,oL (aV a),oL (aV b)];refine bZ (Qq ha hb hs _) ?_;generalize hc:aP.aZ a b=c;simp only[↓zP,zG,seval,zI,oL (aV c)];apply hK;clear hK K;refine aJ fun K hK=>?_;refine aJ fun K2 bW=>?_;simp only[↓zP,zG,seval,zI,oL (aV n)];apply bW;clear bW K2;refine jI [] (fun i _ H=>(∀k,k<i->n.at k=0)/\H.get 3=some (.cells (cT c) false)) 3 (by decide) rfl (by decide) ?_ ?_ ?_ ?_
 . exact zq
 . refine⟨fun k hk=>absurd hk (An _),?_⟩;simp only[zI,seval]
 . rintro i f H hi hk e1 ⟨h0,g3⟩;refine aL ?_;have FB:i<=2:=by omega
   have DP:i+1<=3:=hi;by_cases hz:n.at i=0
   . have hb:(n.at i != 0)=false:=(by simp[hz]);simp only[↓zP,zG,seval,zI,e1,hk 13 rfl,aB,kJ n hi,aV,g3,hi,DP,hb];refine⟨fun k hk=>?_,trivial⟩;by_cases vq:k=i
     . subst vq;exact hz
     exact h0 k (by omega)
   have hb:(n.at i != 0)=true:=(by simp[hz]);simp only[↓zP,zG,seval,zI,e1,hk 13 rfl,hk 7 rfl,aB,kJ n hi,aV,g3,hi,DP,kJ c hi,hb];refine bZ (lJ (c.at i) 0 _) ?_;refine Tz ?_;refine bZ (lJ (n.at i) 0 _) ?_;rw[UF,UF]
   have w:IntKind.i64.wrap (uW (c.at i)*uW (n.at i))=uW (c.at i)*uW (n.at i):=fU (B:=1*1) (by rw[Ga];exact Bt (Mc _) (Mc _)) (by decide)
   simp only[↓zP,zG,seval,w];refine Rx ?_;rw[hc,cu n c hi h0 hz];rfl
 rintro f H hk ⟨h0,g3⟩;refine Tx ?_;apply hK;refine Tz ?_;refine Rx ?_;rw[hc,Re n c h0];rfl
def yR (on:List Nat):List (List AV):=on.map fun(k:Nat)=>[AV.int .i64 (k:Int)]
theorem eK (on:List Nat):(yR on).length=on.length:=by simp[yR]
theorem BA {on:List Nat} {i:Nat} (h:i<on.length):(yR on).getD i []=[AV.int .i64 (on[i]:Int)]:=gJ h
def bI:Option Nat->Int
 |none=> -1
 |some k=>k
structure aCe (H H':aA):Prop where
 free:cV H'
 le:H.next<=H'.next
 same:∀j,j<H.next->H'.get j=H.get j
theorem Qj {n:aP.V} {p:Nat->aP.V} {a:Nat} {on:List Nat}:∀(l:List Nat) (xK:Option Nat) {b:Nat},l.foldl (gV n p a) xK=some b->(∀k∈l,k∈on)->(∀c,xK=some c->c∈on)->b∈on
 |[],xK,b,h,_,hb=>hb b h
 |k::l,xK,b,h,hl,hb=>by
  refine Qj l _ h (fun x hx=>hl x (Aw _ hx)) fun c hc=>?_;have hk:=hl k Ar;unfold gV at hc;split at hc
  . exact hb c hc
  split at hc
  . cases hc;exact hk
  split at hc
  . cases hc;exact hk
  cases hc;exact hb _ rfl
theorem yz {n:aP.V} {p:Nat->aP.V} {a:Nat} {on l:List Nat} {b:Nat} (h:l.foldl (gV n p a) none=some b) (hl:∀k∈l,k∈on):b∈on:=
 Qj l none h hl fun c hc=>by cases hc
theorem au {tag t1:Nat} {o1 o2 o3:Bool} {l:List aP.V} {M:Nat} (hl:∀v∈l,cH M v) (hM:M<=2^18) (hlen:l.length<=64) {on:List Nat} (jw:∀k∈on,k<l.length) (hol:on.length<=64) {a:Nat} (ha:a<l.length) (q:aP.V×Int)
 {H:aA} (hf:cV H) {i1 i2 i3:Nat} (b1:i1<H.next) (b2:i2<H.next) (b3:i3<H.next) (g1:H.get i1=some (.cells [.bB t1 1 (yR on)] o1)) (g2:H.get i2=some (.cells [.bB tag 3 (cJ l)] o2)) (g3:H.get i3=some (.cells (lA q) o3)):
 ∃H',aCe H H'/\Sg 211 [.int .i64 a,.ref i1 0,.ref i2 0,.ref i3 0] H (.ret (.int .i64 (bI (LV q.1 (fun i=>l.getD i V0) on a)))) H':=by
 suffices h:∃out H',(out=.ret (.int .i64 (bI (LV q.1 (fun i=>l.getD i V0) on a)))/\aCe H H')/\Sg 211 [.int .i64 a,.ref i1 0,.ref i2 0,.ref i3 0] H out H' by obtain⟨_,H',⟨rfl,hm⟩,hS⟩:=h;exact⟨H',hm,hS⟩
 refine cY fit aYl (Ak rfl) ?_;unfold aNj;dsimp only;have cW:∀k (h:k<l.length),l.getD k V0=l[k]:=fun k h=>by simp[List.getD,h]
 refine aJ fun K hK=>?_;refine Tz ?_;apply hK;clear hK K;refine aJ fun K hK=>?_;refine Tz ?_;apply hK;clear hK K;refine aJ fun K hK=>?_;refine aJ fun K2 bW=>?_;simp only[↓zP,zG,seval,zI,g1];apply bW;clear bW K2;refine dD [6] (fun i vs H'=>vs=[.int .i64 (bI ((on.take i).foldl (gV q.1 (fun i=>l.getD i V0) a) none))]/\aCe H H') on.length (by omega) (by decide) ?_ ?_ ?_ ?_ ?_
 . exact zq
 . simp only[zB,seval,eK]
 . exact⟨by simp only[sm,zB,seval];rfl,hf,Ab _,fun j hj=>rfl⟩
 . rintro i f H1 hi hk e1 ⟨hv,hm⟩;simp only[zM] at hv
   have gP:(on.take (i+1)).foldl (gV q.1 (fun i=>l.getD i V0) a) none=gV q.1 (fun i=>l.getD i V0) a ((on.take i).foldl (gV q.1 (fun i=>l.getD i V0) a) none) on[i]:=by rw[Ao,Jh];simp[hi]
   have aUr:∀b,(on.take i).foldl (gV q.1 (fun i=>l.getD i V0) a) none=some b->b<l.length:=fun b hb=>jw b (yz hb (fun k hk=>Bz hk));have hg:=BA hi;have tQ:=jw _ (Ac hi);generalize on[i]=k at *;generalize (on.take i).foldl (gV q.1 (fun i=>l.getD i V0) a) none=xK at *;refine aL ?_;refine aJ fun K2 bW=>?_;simp only[↓zP,zG,seval,zI,e1,hk 12 rfl,aB,eK,hi,hg];apply bW;clear bW K2;refine aJ fun K2 bW=>?_;simp only[↓zP,zG,seval,zI,hk 0 rfl];rw[gP];by_cases LP:k=a
   . have hb:((k:Int)==(a:Int))=true:=(by simp[LP]);have hn:gV q.1 (fun i=>l.getD i V0) a xK k=xK:=if_pos LP;simp only[zG,seval,hb,hn,hv];exact⟨trivial,hm⟩
   have hb:((k:Int)==(a:Int))=false:=Zai;simp only[zG,seval,hb];apply bW;clear bW K2;refine aJ fun K2 bW=>?_
   cases xK with
   |none=>have hn:gV q.1 (fun i=>l.getD i V0) a none k=some k:=if_neg LP;have hd:decide (bI none<0)=true:=rfl;simp only[↓zP,zG,seval,hv,hd];rw[gP,hn];exact⟨by simp only[sm,zB,seval];rfl,hm⟩
   |some b=>
    have hn:gV q.1 (fun i=>l.getD i V0) a (some b) k=if better q.1 (fun i=>l.getD i V0) a b k then some k else some b:=if_neg LP
    have hd:decide (bI (some b)<0)=false:=Ag (show ¬((b:Int)<0) by omega);have Uk:=aUr b rfl;have hbv:bI (some b)=(b:Int):=rfl;simp only[↓zP,zG,seval,hv,hd];apply bW;clear bW K2;have gk:=dC tQ;have gb:=dC Uk;have ga:=dC ha;refine aJ fun K2 bW=>?_;refine oV 2 (by decide) hm.free.at2 fun H2 n2 e2=>?_;have h2:=(e2 i2).trans ((hm.same _ b2).trans g2);have h3:=(e2 i3).trans ((hm.same _ b3).trans g3);simp only[↓zP,zG,seval,zD,zI,hk 2 rfl,hk 0 rfl,hbv,h2,aB,aU,tQ,ha,gk,ga,oL (aV l[k]),oL (aV l[a])];have nk:=hl _ (Ac tQ);have nb:=hl _ (Ac Uk);have na:=hl _ (Ac ha);have vk:aP.sub l[k] l[a]=vec (fun i=>l.getD i V0) a k:=(by simp only[vec,cW k tQ,cW a ha]);have vb:aP.sub l[b] l[a]=vec (fun i=>l.getD i V0) a b:=(by simp only[vec,cW b Uk,cW a ha]);have nvk:=gL nk na;have nvb:=gL nb na;rw[vk] at nvk;rw[vb] at nvb;refine fH (Mg nk na (by omega) _) ?_;rw[vk];simp only[↓zP,zG,seval,zD,zI,hk 2 rfl,hk 0 rfl,hv,hbv,h2,aB,aU,ha,Uk,gb,ga,oL (aV l[a]),oL (aV l[b])];refine fH (Mg nb na (by omega) _) ?_;rw[vb];have ot:better q.1 (fun i=>l.getD i V0) a b k=(decide (aP.rV q.1 (aP.aZ (vec (fun i=>l.getD i V0) a b) (vec (fun i=>l.getD i V0) a k))<0)||(decide (aP.rV q.1 (aP.aZ (vec (fun i=>l.getD i V0) a b) (vec (fun i=>l.getD i V0) a k))=0)&&decide (aP.dot (vec (fun i=>l.getD i V0) a k) (vec (fun i=>l.getD i V0) a k)>aP.dot (vec (fun i=>l.getD i V0) a b) (vec (fun i=>l.getD i V0) a b)))):=rfl;generalize vec (fun i=>l.getD i V0) a k=to at *;generalize vec (fun i=>l.getD i V0) a b=wy at *;have hx1:¬(H1.next=H1.next+1):=(by omega);have hx2:¬(H1.next+1=H1.next):=(by omega);simp only[↓zP,zG,seval,zD,zI,oL (aV to),oL (aV wy),hx1,hx2,n2];apply bW;clear bW K2;generalize hX:(((H2.set H1.next _).set (H1.next+1) _).set H1.next _).set (H1.next+1) _=H3;have u1:H3.get H1.next=some (.cells (cT to) false):=(by subst hX;simp only[zI,seval,hx1]);have u2:H3.get (H1.next+1)=some (.cells (cT wy) false):=by subst hX;simp only[zI,seval]
    have hm3:aCe H H3:=by
     have AN:H3.next=H1.next+2:=(by subst hX;simp only[aA.bC,n2]);refine⟨fun j hj=>?_,by have :=hm.le;omega,fun j hj=>?_⟩
     . have :=hm.free j (by omega);subst hX;rw[aA.aD,if_neg (by omega),aA.aD,if_neg (by omega),aA.aD,if_neg (by omega),aA.aD,if_neg (by omega),e2];exact this
     have hle:=hm.le;have :=hm.same j hj;subst hX;rw[aA.aD,if_neg (by omega),aA.aD,if_neg (by omega),aA.aD,if_neg (by omega),aA.aD,if_neg (by omega),e2];exact this
    have u3:=(hm3.same _ b3).trans g3;generalize H1.next=r at *;clear hX h2 h3 e2 n2;have pl3:(lA q).take 3=cT q.1:=rfl;have pl4:(lA q).length=4:=rfl;have hB:(M+M)*(M+M)<=2^19*2^19:=Bt (by omega) (by omega);refine aJ fun K2 bW=>?_;simp only[↓zP,zG,seval,zI,hk 3 rfl,u1,u2,u3,pl3,pl4,oL (aV to),oL (aV wy)];refine bZ (aHp q.1 nvb nvk (by omega) _) ?_;generalize aP.rV q.1 (aP.aZ wy to)=tn at *;refine Tz ?_;apply bW;clear bW K2;refine aJ fun K2 bW=>?_;refine Dz ?_;by_cases c1:tn<0
    . have d1:=Aj c1;simp only[↓zP,zG,seval,zD,zI,d1,ur];apply bW;clear bW K2;simp only[↓zP,zG,seval,zI];rw[gP,hn,if_pos (by rw[ot,d1];rfl)];exact⟨rfl,hm3⟩
    have d1:=Ag c1;by_cases c2:tn=0
    . have d2:(tn==0)=true:=Ca.2 c2;simp only[↓zP,zG,seval,zD,zI,d1,d2,u1,oL (aV to)];refine fH (HP nvk nvk (by omega) _) ?_;simp only[↓zP,zG,seval,zD,zI,u2,oL (aV wy)];refine fH (HP nvb nvb (by omega) _) ?_;simp only[↓zP,zG,seval,zD,zI];apply bW;clear bW K2;have d3:decide (tn=0)=true:=Aj c2;by_cases c3:aP.dot wy wy<aP.dot to to
      . have d4:decide (aP.dot to to>aP.dot wy wy)=true:=Aj c3;simp only[↓zP,zG,seval,zI,d4];rw[gP,hn,if_pos (by rw[ot,d1,d3,d4];rfl)];exact⟨rfl,hm3⟩
      have d4:decide (aP.dot to to>aP.dot wy wy)=false:=Ag c3;simp only[↓zP,zG,seval,zI,d4,hv];rw[gP,hn,if_neg (by rw[ot,d1,d3,d4];decide)];exact⟨rfl,hm3⟩
    have d2:(tn==0)=false:=Bl.2 c2;have d3:decide (tn=0)=false:=Ag c2;simp only[↓zP,zG,seval,zD,zI,d1,d2];apply bW;clear bW K2;simp only[↓zP,zG,seval,zI,hv];rw[gP,hn,if_neg (by rw[ot,d1,d3];simp)];exact⟨rfl,hm3⟩
 rintro f H1 hk ⟨hv,hm⟩;simp only[zM] at hv;rw[Ay] at hv;refine Tx ?_;apply hK;simp only[↓zP,zG,seval,hv];refine Rx ?_;exact⟨rfl,hm⟩
theorem Rh {n:aP.V} {p:Nat->aP.V} {on:List Nat} {s m:Nat} (h:aP.Way n p on s m (uK n p on)) (i:Nat):LV n p on (iter (uK n p on) i s)=some (iter (uK n p on) (i+1) s):=by obtain⟨ho,hS⟩:=h.side i;obtain⟨b,hb,_⟩:=VJ h.H ho (hS.crn h.H ho) ⟨_,hS.1,hS.2.1⟩;show _=some ((aP.LV n p on _).getD 0);rw[hb];rfl
theorem aHx {n:aP.V} {p:Nat->aP.V} {on:List Nat} {s m:Nat} (h:aP.Way n p on s m (uK n p on)):2<=m:=by
 rcases Gp 1 m with h1|h1
 . exact h1
 have hm:m=1:=by have :=h.pos;omega
 have hb:=h.back;rw[hm] at hb;exact absurd hb (h.side 0).2.2.1
theorem Ob {H H':aA} {sz:Nat} {v:AV} {aY:List (List AV)} (h:Own H sz v aY) (hn:H.next<=H'.next) (hk:∀k,k<H.next->H.get k=some .tok->H'.get k=some .tok):Own H' sz v aY:=by
 rcases h with ⟨rfl,rfl⟩|⟨k,rfl,h1,h2⟩
 . exact .inl ⟨rfl,rfl⟩
 exact .inr ⟨k,rfl,by omega,hk k h1 h2⟩
theorem OU (a b:List Nat):yR (a++b)=yR a++yR b:=by simp[yR]
theorem EV (a:List Nat):dR (yR a)=true:=eJ (fun _=>by simp only[sf]) a
theorem Og {tag:Nat} (ht:Nat.blt tag 2=true) {l:List aP.V} {M:Nat} (hl:∀v∈l,cH M v) (hM:M<=2^18) (hlen:l.length<=64) {q:aP.V×Int} {B:Nat} (hq:cH B q.1) (hB:3*(B*M)<2^62)
 {L:List Nat} (hP:Poly (fun i=>l.getD i V0) l.length q.1 q.2 L) (H:aA):
 Sg 156 [.bB tag 3 (cJ l),.agg (lA q)] H (.ret (.bB 0 1 (yR L))) H:=by
 refine eQ fit fG aXd (Ak rfl) (by simp only[sf,dK ht,BC]) ?_ H;obtain⟨s0,r,m,jw,W,rfl⟩:=hP.ex;unfold aMb;dsimp only;have cW:∀k (h:k<l.length),l.getD k V0=l[k]:=fun k h=>by simp[List.getD,h]
 have p4:(lA q).length=4:=rfl;have p3:(lA q).take 3=cT q.1:=rfl;have p1:(lA q).getD 3 aC=.int .i64 q.2:=rfl;refine bQ ?_;refine Ty ?_;refine fD ?_;refine Ty ?_;refine bR ?_;refine aJ fun K hK=>?_;refine bQ ?_;refine Ty ?_;refine bR ?_;generalize Up:kC (fun i=>l.getD i V0) l.length q.1 q.2=on at *;have h0:cV (((aA.mk 0 .nil |>.alloc (.cells [.bB tag 3 (cJ l)] false)).alloc (.cells (lA q) false)).alloc (.cells [.aR] false)):=(((cV.nil 0).alloc _).alloc _).alloc _;refine dD [] (fun i vs H'=>∃v,H'.get 2=some (.cells [v] false)/\Own H' 1 v (yR ((List.range i).filter fun k=>decide (aP.dot q.1 (l.getD k V0)=q.2)))/\H'.get 0=some (.cells [.bB tag 3 (cJ l)] false)/\H'.get 1=some (.cells (lA q) false)/\3<=H'.next/\cV H') l.length (by omega) (by decide) ?_ ?_ ?_ ?_ ?_
 . exact zq
 . simp only[zB,seval,aU]
 . exact⟨.aR,by simp only[zI,seval],.nil _ _,by simp only[zI,seval],by simp only[zI,seval],by simp only[zI,seval],h0⟩
 . rintro i f H1 hi hk e1 ⟨v,g2,ho,g0,g1,hn,hf⟩;have hg:=dC hi;have FA:=cW i hi;have hx:=hl _ (Ac hi)
   have ve:(List.range (i+1)).filter (fun k=>decide (aP.dot q.1 (l.getD k V0)=q.2))=(List.range i).filter (fun k=>decide (aP.dot q.1 (l.getD k V0)=q.2))++(if aP.dot q.1 l[i]=q.2 then [i] else []):=by rw[Ff,Ja];congr 1;simp only[Jk,Jt,FA,Bd]
   have vI:((List.range i).filter fun k=>decide (aP.dot q.1 (l.getD k V0)=q.2)).length<=64:=by have :=Dh (fun k=>decide (aP.dot q.1 (l.getD k V0)=q.2)) (List.range i);rw[Bv] at this;omega
   rw[ve];generalize (List.range i).filter (fun k=>decide (aP.dot q.1 (l.getD k V0)=q.2))=on0 at *;generalize l[i]=x at *;have nx1:¬(1=H1.next):=(by omega);have nx2:¬(2=H1.next):=(by omega);have nx0:¬(0=H1.next):=(by omega);refine aL ?_;refine bQ ?_;simp only[↓zP,zJ,seval,e1,hk 11 rfl,aB,aU,hi,hg,oL (aV x)];refine fD ?_;refine Dz ?_;simp only[↓zP,zJ,seval,zD,hk 3 rfl,nx1,g1,p4,p3,oL (aV x)];refine fH (HP hq hx hB _) ?_;simp only[↓zP,zJ,seval,zD,hk 3 rfl,nx1,g1,p4,p1];refine bR ?_;generalize hX:(H1.alloc _).set H1.next _=H4;have y0:H4.get 0=some (.cells [.bB tag 3 (cJ l)] false):=(by subst hX;rw[aA.aD,if_neg nx0,aA.aG,if_neg nx0];exact g0);have y1:H4.get 1=some (.cells (lA q) false):=(by subst hX;rw[aA.aD,if_neg nx1,aA.aG,if_neg nx1];exact g1);have y2:H4.get 2=some (.cells [v] false):=(by subst hX;rw[aA.aD,if_neg nx2,aA.aG,if_neg nx2];exact g2);have yn:3<=H4.next:=Zay;have yf:cV H4:=by subst hX;exact(hf.alloc _).set (by simp) _
   have yo:Own H4 1 v (yR on0):=by refine Ob ho Zay fun k h1 h2=>?_;subst hX;rw[aA.aD,if_neg (by omega),aA.aG,if_neg (by omega)];exact h2
   by_cases hc:aP.dot q.1 x=q.2
   . have hb:(aP.dot q.1 x==q.2)=true:=Ca.2 hc;obtain⟨H5,z1,z2,z3,z4,z5⟩:=Has.push (.inr yo) (ys:=[[AV.int .i64 (i:Int)]]) (bytes:=8) rfl (by simp only[eK,Aq,Bm];omega);simp only[↓zP,zJ,seval,hb,hk 5 rfl,y2];rw[show cL H4 1 (.bB 1 1 [[.int .i64 (i:Int)]])=some [[.int .i64 (i:Int)]] from rfl];have w2:=(z4 2 (by omega) (by rw[y2];simp)).trans y2;simp only[z1,cF,zJ,seval,w2];rw[if_pos hc,OU];exact⟨_,rfl,.inr ⟨H4.next,rfl,by simp only[aA.bC];omega,by rw[aA.aD,if_neg (by omega)];exact z3⟩,(z4 0 (by omega) (by rw[y0];simp)).trans y0,(z4 1 (by omega) (by rw[y1];simp)).trans y1,by omega,(z5 yf).set (by omega) _⟩
   have hb:(aP.dot q.1 x==q.2)=false:=Bl.2 hc;simp only[↓zP,zG,seval,hb];rw[if_neg hc,Ch];exact⟨v,y2,yo,y0,y1,yn,yf⟩
 rintro f H1 hk ⟨v,g2,ho,g0,g1,hn,hf⟩;have e0:(List.range l.length).filter (fun k=>decide (aP.dot q.1 (l.getD k V0)=q.2))=on:=Up;rw[e0] at ho;refine Tx ?_;apply hK;clear hK K;have cP:yR on≠[]:=by rw[jw];simp[yR]
 rcases ho with ⟨_,h⟩|⟨tk,rfl,ht1,ht2⟩
 . exact absurd h cP
 have aIw:on.length<=64:=by have :=Dh (fun k=>decide (aP.dot q.1 (l.getD k V0)=q.2)) (List.range l.length);rw[e0,Bv] at this;omega
 have fF:∀k∈on,k<l.length:=fun k hk=>by rw[<-Up] at hk;exact(dW.1 hk).1
 have vl:(yR on).getD 0 []=[AV.int .i64 (s0:Int)]:=by rw[jw];rfl
 have a0:asNat (.int .i64 0)=some 0:=rfl;have Lr:0<(yR on).length:=by rw[jw];simp[yR]
 have nx:∀j,j<3->¬(j=H1.next):=fun j hj=>by omega
 have hs0:=fF _ W.hs;refine bQ ?_;simp only[↓zP,zJ,seval,hk 5 rfl,hk 2 rfl,hk 3 rfl];refine fD ?_;simp only[↓zP,zJ,seval,hk 5 rfl,g2,Lr,vl,a0];refine bR ?_;obtain⟨H2,hm,hS⟩:=au (tag:=tag) hl hM hlen fF aIw hs0 q hf (i1:=2) (i2:=0) (i3:=1) (by omega) (by omega) (by omega) g2 g0 g1;have e0':=Rh W 0;change aP.LV _ _ _ s0=_ at e0';rw[e0'] at hS;refine aJ fun K hK=>?_;refine bQ ?_;simp only[↓zP,zJ,seval,hk 5 rfl,g2,Lr,vl,a0];refine EE (fs:=[]) (cs:=[.ref 2 0,.ref 0 0,.ref 1 0]) (by decide) (by simp only[↓zP,zG,seval]) (by simp only[sm,zB,seval];rfl) hS ?_;refine Tz ?_;refine bR ?_;refine aL ?_
 refine iM [9,10] (fun M' vs H'=>∃i,i<m/\M'=m -i/\∃v,vs=[v,.int .i64 (iter (uK q.1 (fun i=>l.getD i V0) on) (i+1) s0:Nat)]/\Has H' 1 v (yR ((List.range (i+1)).map fun i=>iter (uK q.1 (fun i=>l.getD i V0) on) i s0))/\(0<i->v≠ .bB 1 1 (yR ((List.range (i+1)).map fun i=>iter (uK q.1 (fun i=>l.getD i V0) on) i s0)))/\
  H'.get 2=some (.cells [.bB (tk+2) 1 (yR on)] false)/\H'.get 0=some (.cells [.bB tag 3 (cJ l)] false)/\H'.get 1=some (.cells (lA q) false)/\3<=H'.next/\cV H') m (by rfl) ?_ ?_
 . refine⟨0,W.pos,rfl,_,by simp only[sm,zB,seval];rfl,.inl rfl,fun h=>absurd h (Ez 0),(hm.same 2 (by omega)).trans g2,(hm.same 0 (by omega)).trans g0,(hm.same 1 (by omega)).trans g1,by have :=hm.le;omega,hm.free⟩
 clear hS hm H2 g2 g0 g1 hf hn ht1 ht2;rintro M' f2 H2 eO ⟨i,hi,rfl,v,hv,ho,wg,g2,g0,g1,hn,hf⟩;simp only[zM] at hv;obtain⟨v9,v10⟩:=hv;refine aJ fun K2 bW=>?_;refine bQ ?_;simp only[↓zP,zJ,seval,eO 5 rfl,hk 5 rfl,g2,Lr,vl,a0,v10];refine bR ?_;by_cases xG:i+1=m
 . have hb:((iter (uK q.1 (fun i=>l.getD i V0) on) (i+1) s0:Int) != (s0:Int))=false:=by rw[xG,W.back];simp
   have h2:=aHx W;simp only[↓zP,zG,seval,hb];apply hK;clear hK K bW K2;simp only[↓zP,zG,seval,v9];refine Rx ?_;rw[<-xG];exact⟨v,0,rfl,fun nw=>ho.shut (by simp[yR]) (wg (by omega)) (EV _) nw⟩
 have hb:((iter (uK q.1 (fun i=>l.getD i V0) on) (i+1) s0:Int) != (s0:Int))=true:=by have :=W.first (i+1) (by omega) (by omega);simp only[De,ne_eq];omega
 simp only[↓zP,zG,seval,hb];apply bW;clear bW K2;obtain⟨ho1,hS1⟩:=W.side (i+1);have ML:=fF _ ho1;have hnp:=Rh W (i+1);have bIx:=W.le;have aVf:((List.range (i+1)).map fun i=>iter (uK q.1 (fun i=>l.getD i V0) on) i s0).length=i+1:=by simp
 have hrs:(List.range (i+1+1)).map (fun i=>iter (uK q.1 (fun i=>l.getD i V0) on) i s0)=(List.range (i+1)).map (fun i=>iter (uK q.1 (fun i=>l.getD i V0) on) i s0)++[iter (uK q.1 (fun i=>l.getD i V0) on) (i+1) s0]:=by rw[Ff (n:=i+1),Cx];rfl
 obtain⟨H5,z1,z2,z3,z4,z5⟩:=ho.push (ys:=[[AV.int .i64 (iter (uK q.1 (fun i=>l.getD i V0) on) (i+1) s0:Nat)]]) (bytes:=8) rfl (by rw[eK,aVf,Aq,Bm];omega);have w2:=(z4 2 (by omega) (by rw[g2];simp)).trans g2;have w0:=(z4 0 (by omega) (by rw[g0];simp)).trans g0;have w1:=(z4 1 (by omega) (by rw[g1];simp)).trans g1;obtain⟨H6,hm,hS⟩:=au (tag:=tag) hl hM hlen fF aIw ML q (z5 hf) (i1:=2) (i2:=0) (i3:=1) (by omega) (by omega) (by omega) w2 w0 w1;rw[hnp] at hS;refine bQ ?_;refine aL ?_;simp only[↓zP,zJ,seval,v9,v10];rw[show ∀x:AV,cL H2 1 (.bB 1 1 [[x]])=some [[x]] from fun _=>rfl];simp only[z1,cF,seval];refine bR ?_;simp only[↓zP,zJ,seval,eO 8 rfl,v10];refine EE (fs:=[]) (cs:=[.ref 2 0,.ref 0 0,.ref 1 0]) (by decide) (by rfl) (by rfl) hS ?_;refine Tz ?_;refine⟨m -(i+1),by omega,i+1,by omega,rfl,.bB (H2.next+2) 1 _,rfl,?_,fun _ h=>by injection h with h;omega,(hm.same 2 (by omega)).trans w2,(hm.same 0 (by omega)).trans w0,(hm.same 1 (by omega)).trans w1,by have :=hm.le;omega,hm.free⟩;rw[hrs,OU];exact .inr (.inr ⟨H2.next,rfl,by have :=hm.le;omega,(hm.same _ (by omega)).trans z3⟩)
def dU (L:aP.V×Int->List Nat) (q:aP.V×Int):List AV:=[.int .i64 q.1.x,.int .i64 q.1.y,.int .i64 q.1.z,.int .i64 q.2,.bB 0 1 (yR (L q))]
theorem pY (L:aP.V×Int->List Nat) (q:aP.V×Int):bO (dU L q)=true:=by simp only[dU,bO,AV.free,EV,Co];rfl
structure xJ (l:List aP.V) (S:List (aP.V×Int)) (L:aP.V×Int->List Nat):Prop where
 fl:oW (fun i=>l.getD i V0) l.length S
 po:∀q∈S,Poly (fun i=>l.getD i V0) l.length q.1 q.2 (L q)
theorem xP {l:List aP.V} {M:Nat} (hl:∀v∈l,cH M v) {q:aP.V×Int} (h:pP (fun i=>l.getD i V0) l.length q.1 q.2):cH (2*((M+M)*(M+M))) q.1:=by
 obtain⟨i,j,k,h1,h2,h3,hc⟩:=gC h
 have hn:∀k,k<l.length->cH M (l.getD k V0):=fun k hk=>by
  have :l.getD k V0=l[k]:=by simp[List.getD,hk]
  rw[this];exact hl _ (Ac hk)
 have key:cH (2*((M+M)*(M+M))) (eZ (fun i=>l.getD i V0) i j k).1:=
  sW (nO (gL (hn j (by omega)) (hn i (by omega))) (gL (hn k (by omega)) (hn i (by omega))))
 unfold iY at hc;split at hc
 . cases hc
 simp only[Am,Bg,Dd] at hc
 rcases hc with e|e
 . have e1:q.1=(eZ (fun i=>l.getD i V0) i j k).1:=Bn Prod.fst e;rw[e1];exact key
 have e1:q.1=aP.neg (eZ (fun i=>l.getD i V0) i j k).1:=Bn Prod.fst e;rw[e1];exact IK key
theorem Tq {p:Nat->aP.V} {N:Nat} {S:List (aP.V×Int)} (h:oW p N S):S.Nodup:=Ha (fun {a b} (h:iU a.1 b.1) (e:a=b)=>iU.j8 b.1 (by rw[e] at h;exact h)) h.Rb
theorem ei {tag:Nat} (ht:Nat.blt tag 2=true) {l:List aP.V} {M:Nat} (hl:∀v∈l,cH M v) (hM:M<=2^18) (hlen:l.length<=64) {S:List (aP.V×Int)} {L:aP.V×Int->List Nat} (hS:xJ l S L) (cP:S≠[]) (H:aA):
 Sg 158 [.agg [.bB tag 3 (cJ l)]] H (.ret (.bB (H.next+2) 5 (S.map (dU L)))) (H.alloc .tok):=by
 refine mD fG ZaJ (by simpa using cP) (eJ (pY L) S) ?_ H;refine cY fit aXe (Ak rfl) ?_;unfold aMc;dsimp only;refine bQ ?_;refine Ty ?_;refine fD ?_;refine Tz ?_;refine bR ?_
 have hSl:S.length<=2^20:=by have h1:=BV (N:=l.length) (p:=fun i=>l.getD i V0) (Tq hS.fl) (fun q hq=>(hS.fl.mem q).1 hq);have h2:l.length*(l.length*(l.length*2))<=64*(64*(64*2)):=Bt hlen (Bt hlen (Bt hlen (Ab _)));omega
 have qY:lB 4 (S.map lA)=.bB 0 4 (S.map lA):=if_neg (by simpa using cP);have mN:=RN ht hl hM hlen hS.fl;rw[qY] at mN;refine aJ fun K hK=>?_;refine bQ ?_;refine Ty ?_;refine bZ (mN _) ?_;refine Tz ?_;refine bR ?_;refine dD [3] (fun i vs H'=>∃v,vs=[v]/\Own H' 5 v ((S.take i).map (dU L))/\H'.get 0=some (.cells [.bB tag 3 (cJ l)] false)/\1<=H'.next) S.length (by omega) (by decide) ?_ ?_ ?_ ?_ ?_
 . exact zq
 . simp only[zB,seval,Af]
 . exact⟨.aR,by simp only[sm,zB,seval],.nil _ _,by simp only[zI,seval],by simp only[zI,seval]⟩
 . rintro i f H1 hi hk e1 ⟨v,hv,ho,g0,hn⟩;simp only[zM] at hv;have hg:(S.map lA).getD i []=lA S[i]:=gJ hi;have hqS:=Ac hi;have hq:=xP hl ((hS.fl.mem _).1 hqS);have jx:=hS.po _ hqS
   have rQ:(S.take (i+1)).map (dU L)=(S.take i).map (dU L)++[dU L S[i]]:=by rw[Ao,Cx];simp[hi]
   rw[rQ];have sJ:((S.take i).map (dU L)).length=i:=Zai;generalize S[i]=q at *;have hMM:(M+M)*(M+M)<=2^19*2^19:=Bt (by omega) (by omega);have aUp:2*((M+M)*(M+M))*M<=2^39*2^18:=Bt (by omega) (by omega);have p4:(lA q).length=4:=rfl;have p3:(lA q).take 3=cT q.1:=rfl;have p1:(lA q).getD 3 aC=.int .i64 q.2:=rfl;have nx0:¬(0=H1.next):=(by omega);have hpg:=Og ht hl hM hlen hq (by omega) jx;have o8:=ho;refine aL ?_;refine bQ ?_;simp only[↓zP,zJ,seval,e1,hk 8 rfl,aB,Af,hi,hg,oL p4];refine bR ?_;generalize hX:(H1.alloc _).set H1.next _=H4;have u0:H4.get 0=some (.cells [.bB tag 3 (cJ l)] false):=(by subst hX;rw[aA.aD,if_neg nx0,aA.aG,if_neg nx0];exact g0);have u1:H4.get H1.next=some (.cells (lA q) false):=Zal;have un:H4.next=H1.next+1:=by subst hX;simp only[aA.bC,aA.aS]
   have uo:Own H4 5 v ((S.take i).map (dU L)):=by refine Ob ho (by omega) fun k h1 h2=>?_;subst hX;rw[aA.aD,if_neg (by omega),aA.aG,if_neg (by omega)];exact h2
   clear hX;obtain⟨H5,z1,z2,z3,z4,z5⟩:=Has.push (.inr uo) (ys:=[dU L q]) (bytes:=56) rfl (by rw[sJ,Aq,Bm];omega);generalize H1.next=r1 at *;refine Dz ?_;simp only[↓zP,zJ,seval,zD,hk 1 rfl,hv,u0,u1,p4,p3,p1,oL p4];refine fH (hpg _) ?_;have bEm:[AV.int .i64 q.1.x,.int .i64 q.1.y,.int .i64 q.1.z,.int .i64 q.2,.bB 0 1 (yR (L q))]=dU L q:=rfl;have vI:(dU L q).length=5:=rfl;simp only[↓zP,zJ,seval,zD,u0,u1,cT,bEm,vI];rw[show ∀x:List AV,cL H4 5 (.bB 1 5 [x])=some [x] from fun _=>rfl];simp only[z1,cF,seval];exact⟨by omega,_,rfl,.inr ⟨H4.next,rfl,by omega,z3⟩,(z4 0 (by omega) (by rw[u0];simp)).trans u0,by omega⟩
 rintro f H1 hk ⟨v,hv,ho,g0,hn⟩;simp only[zM] at hv;rw[Ay] at ho;refine Tx ?_;apply hK;simp only[↓zP,zG,seval,hv];refine Rx ?_;exact⟨v,rfl,ho⟩
def Zt (v:aP.V):Bool:=(List.range 3).all fun i=>decide (¬(v.at i>262144)/\¬(v.at i< -262144))
theorem Nu {v:aP.V}:Zt v=true↔cH (2^18) v:=by
 unfold Zt cH;simp only[Ax,Au,Bd];constructor
 . intro h;have h0:=h 0 (by decide);have h1:=h 1 (by decide);have h2:=h 2 (by decide);simp only[V.at] at h0 h1 h2;omega
 intro h i hi
 match i,hi with
 |0,_=>simp only[V.at];omega
 |1,_=>simp only[V.at];omega
 |2,_=>simp only[V.at];omega
def mk (n:Nat) (P:Nat->Bool):List AV:=(List.range n).map fun k=>AV.bool (P k)
theorem OO (n:Nat) (P:Nat->Bool):(mk n P).length=n:=by simp[mk]
theorem aSu {n:Nat} (P:Nat->Bool) {k:Nat} (h:k<n):(mk n P).getD k aC=.bool (P k):=by simp[mk,List.getD,h]
theorem aSv {n:Nat} (P:Nat->Bool) {p:Nat} (h:p<n):(mk n P).take p++[AV.bool true]++(mk n P).drop (p+1)=mk n (fun k=>P k||k==p):=by
 refine Fs (by simp[mk];omega) fun k h1 h2=>?_;rw[OO] at h2;simp only[Eb,List.getElem_append,Db,OO,Aq,Bm];by_cases hk:k<p
 . rw[dif_pos (by omega)];simp[mk];omega
 rw[dif_neg (by omega)];by_cases eO:k=p
 . subst eO;rw[dif_pos (by omega)];simp[mk]
 rw[dif_neg (by omega)];simp only[mk,List.getElem_drop,Dq,Ho];have :p+1+(k -min p n -(0+1))=k:=by omega
 rw[this];simp[eO]
def gQ (S:List (aP.V×Int)) (L:aP.V×Int->List Nat) (k:Nat):Bool:=S.any fun q=>(L q).contains k
def iF (C:List aP.V) (S:List (aP.V×Int)) (L:aP.V×Int->List Nat):List aP.V:=((List.range C.length).filter (gQ S L)).map fun k=>C.getD k V0
def iZ (l C:List aP.V) (S:List (aP.V×Int)) (L:aP.V×Int->List Nat):AV×Int:=
 if 64<l.length then(.aR,2) else if l.all Zt=false then(.aR,1) else if S.length<4 then(.aR,120) else if 64<S.length then(.aR,2) else(lB 3 (cJ (iF C S L)),0)
theorem aCd {tag:Nat} (ht:Nat.blt tag 2=true) {l C:List aP.V} (hlen:l.length<2^30) (hC:Ord l C) {S:List (aP.V×Int)} {L:aP.V×Int->List Nat} (hS:xJ C S L) (H:aA):
 Sg 122 [.bB tag 3 (cJ l)] H (.ret (.iA [.agg [(iZ l C S L).1],.int .i64 (iZ l C S L).2])) H:=by
 refine eQ fit fG aJh (Ak rfl) ZaJ ?_ H;unfold aCk;dsimp only;refine bQ ?_;refine Tz ?_;refine bR ?_;refine aJ fun K hK=>?_;simp only[↓zP,zJ,seval,aU];refine⟨fun h=>?_,fun hle=>?_⟩
 . have SL:64<l.length:=by omega
   refine Rx ?_;rw[show iZ l C S L=(.aR,2) from if_pos SL];exact⟨_,2,rfl,fun nw=>rfl⟩
 have SL:¬(64<l.length):=by omega
 apply hK;clear hK K;refine aJ fun K hK=>?_;refine bQ ?_;refine Ty ?_;refine bR ?_;refine dD [] (fun i _ H=>(∀v∈l.take i,Zt v=true)/\H.get 0=some (.cells [.aR] false)/\1<=H.next) l.length (by omega) (by decide) ?_ ?_ ?_ ?_ ?_
 . exact zq
 . simp only[zB,seval,aU]
 . exact⟨fun v hv=>by simp at hv,by simp only[zI,seval],by simp only[zI,seval]⟩
 . rintro i f H1 hi hk e1 ⟨gR,g0,hn⟩;have hg:=dC hi;have FH:=Ac hi
   have hx:∀v,v∈l.take (i+1)->v∈l.take i\/v=l[i]:=fun v hv=>by
    exact Zar
   generalize l[i]=x at *;have nx:¬(0=H1.next):=(by omega);refine aL ?_;refine bQ ?_;simp only[↓zP,zJ,seval,e1,hk 22 rfl,aB,aU,hi,hg,oL (aV x)];refine fD ?_;simp only[↓zP,zJ,seval,oL (aV x)];refine bR ?_;refine jI [] (fun j _ H=>(∀c,c<j->¬(x.at c>262144)/\¬(x.at c< -262144))/\H.get 0=some (.cells [.aR] false)/\1<=H.next) 3 (by decide) rfl (by decide) ?_ ?_ ?_ ?_
   . exact zq
   . refine⟨fun c hc=>absurd hc (An _),?_,?_⟩
     . rw[aA.aD,if_neg nx,aA.aG,if_neg nx];exact g0
     simp only[aA.bC,aA.aS];omega
   . rintro j f2 H2 hj eO e2 ⟨hc,EW,JN⟩;have MM:j<=2:=by omega
     have Pg:(x.at j>262144\/x.at j< -262144)->l.all Zt=false:=fun h=>by rw[<-Eh,Ax];intro ha;have :=ha x FH;simp only[Zt,Ax,Au,Bd] at this;have :=this j hj;omega
     refine aL ?_;by_cases c1:x.at j>262144
     . have d1:=Aj c1;simp only[↓zP,zJ,seval,e2,eO 28 rfl,aB,kJ x hj,aV,hj,MM,d1,eO 2 rfl,hk 2 rfl,EW];refine⟨rfl,_,by simp only[↓zP,zR,seval,eO 2 rfl,hk 2 rfl];rfl,?_⟩;exact Zaw
     have d1:=Ag c1;by_cases c2:x.at j< -262144
     . have d2:=Aj c2;simp only[↓zP,zJ,seval,e2,eO 28 rfl,aB,kJ x hj,aV,hj,MM,d1,d2,eO 2 rfl,hk 2 rfl,EW];refine⟨rfl,_,by simp only[↓zP,zR,seval,eO 2 rfl,hk 2 rfl];rfl,?_⟩;exact Zaw
     have d2:=Ag c2;simp only[↓zP,zJ,seval,e2,eO 28 rfl,aB,kJ x hj,aV,hj,MM,d1,d2];refine⟨fun c h=>?_,EW,JN⟩;by_cases hcj:c=j
     . subst hcj;exact⟨c1,c2⟩
     exact hc c (by omega)
   rintro f2 H2 eO ⟨hc,EW,JN⟩;refine Tx ?_;refine⟨fun v hv=>?_,EW,JN⟩
   rcases hx v hv with h|rfl
   . exact gR v h
   simp only[Zt,Ax,Au,Bd];exact fun c h=>hc c h
 rintro f H1 hk ⟨gR,g0,hn⟩;rw[Ay] at gR;have bV:l.all Zt=true:=Ax.2 gR;refine Tx ?_;apply hK;clear hK K;have hNr:∀v∈C,cH (2^18) v:=fun v hv=>Nu.1 (gR v ((hC.mem v).1 hv))
 have hCl:C.length<=64:=by have :=tU C l (Ha (fun {a b} (h:iU a b) (e:a=b)=>iU.j8 b (by rw[e] at h;exact h)) hC.Rb) fun v hv=>(hC.mem v).1 hv;omega
 have mN:∀H,Sg 155 [lB 3 (cJ C)] H (.ret (lB 4 (S.map lA))) H:=fun H=>by
  by_cases hc:C=[]
  . subst hc
    have hSn:S=[]:=Ey.2 fun q hq=>by obtain⟨i,j,k,_,_,h,_⟩:=gC ((hS.fl.mem q).1 hq);exact absurd h (An _)
    subst hSn;exact Of H
  rw[show lB 3 (cJ C)=.bB 0 3 (cJ C) from if_neg (by simpa [cJ] using hc)];exact RN (by decide) hNr (Ab _) hCl hS.fl H
 have hsd:∀H,Sg 154 [.bB tag 3 (cJ l)] H (.ret (lB 3 (cJ C))) H:=nm ht (by omega) hC;refine bQ ?_;simp only[↓zP,zJ,seval,hk 0 rfl];refine bZ (hsd _) ?_;refine Tz ?_;refine fD ?_;refine Tz ?_;refine bZ (mN _) ?_;refine Tz ?_;refine bR ?_;by_cases hS4:S.length<4
 . have hO:iZ l C S L=(.aR,120):=(if_neg SL).trans ((if_neg (by rw[bV];decide)).trans (if_pos hS4));by_cases oo:S=[]
   . subst oo;rw[show lB 4 (List.map lA [])=.aR from rfl];refine aJ fun K hK=>?_;simp only[↓zP,zJ,seval,hk 2 rfl,g0];refine⟨fun _=>?_,fun h=>absurd (show((0:Int)<4) by decide) (by simp at h)⟩;refine⟨rfl,_,by simp only[↓zP,zR,seval,hk 2 rfl];rfl,?_⟩;rw[hO];exact⟨_,2,rfl,fun nw=>rfl⟩
   rw[show lB 4 (S.map lA)=.bB 0 4 (S.map lA) from if_neg (by simpa using oo)];refine aJ fun K hK=>?_;simp only[↓zP,zJ,seval,hk 2 rfl,g0,Af];refine⟨fun _=>?_,fun h=>absurd hS4 (by omega)⟩;refine⟨rfl,_,by simp only[↓zP,zR,seval,hk 2 rfl];rfl,?_⟩;rw[hO];exact⟨_,2,rfl,fun nw=>rfl⟩
 have oo:S≠[]:=fun h=>hS4 (by rw[h];decide);rw[show lB 4 (S.map lA)=.bB 0 4 (S.map lA) from if_neg (by simpa using oo)]
 have hCe:cJ C≠[]:=fun h=>oo (Ey.2 fun q hq=>by
  obtain⟨i,j,k,_,_,h',_⟩:=gC ((hS.fl.mem q).1 hq);have :C.length=0:=by rw[<-aU,h];rfl
  omega)
 rw[show lB 3 (cJ C)=.bB 0 3 (cJ C) from if_neg hCe];refine bQ ?_;simp only[↓zP,zJ,seval,Af];refine⟨fun h=>absurd h (by omega),fun _=>?_⟩;refine bR ?_;by_cases Pe:64<S.length
 . have hO:iZ l C S L=(.aR,2):=(if_neg SL).trans ((if_neg (by rw[bV];decide)).trans ((if_neg hS4).trans (if_pos Pe)));refine aJ fun K hK=>?_;simp only[↓zP,zJ,seval,hk 2 rfl,g0,Af];refine⟨fun _=>?_,fun h=>absurd Pe (by omega)⟩;refine⟨rfl,_,by simp only[↓zP,zR,seval,hk 2 rfl];rfl,?_⟩;rw[hO];exact⟨_,2,rfl,fun nw=>rfl⟩
 refine bQ ?_;simp only[↓zP,zJ,seval,Af];refine⟨fun h=>absurd h (by omega),fun _=>?_⟩;refine bR ?_;have hO:iZ l C S L=(lB 3 (cJ (iF C S L)),0):=(if_neg SL).trans ((if_neg (by rw[bV];decide)).trans ((if_neg hS4).trans (if_neg Pe)));rw[hO]
 have bFr:(List.replicate C.length [AV.bool false]).flatten=mk C.length (fun _=>false):=by
  have :∀n:Nat,(List.replicate n [AV.bool false]).flatten=List.replicate n (AV.bool false):=fun n=>by
   induction n with
   |zero=>rfl
   |succ n ih=>rw[Fk,Bp,ih];rfl
  rw[this];exact Fs (by simp[mk]) fun k h1 h2=>by simp[mk]
 have h40:C.length<=2^40:=by omega
 refine bQ ?_;simp only[↓zP,zJ,seval,aU,aB,h40,bFr];refine bR ?_;have nx0:¬(0=H1.next):=by omega
 refine aJ fun K hK=>?_;refine bQ ?_;simp only[↓zP,zG,seval,Af];refine bR ?_;generalize aSe:H1.next=sid at *;refine dD [] (fun i _ H'=>H'.get 0=some (.cells [.aR] false)/\H'.get sid=some (.cells (mk C.length (fun k=>(S.take i).any fun q=>(L q).contains k)) false)/\sid<H'.next) S.length (by omega) (by decide) ?_ ?_ ?_ ?_ ?_
 . exact zq
 . exact zq
 . refine⟨by rw[aA.aG,aSe,if_neg nx0];exact g0,by rw[aA.aG,aSe,if_pos rfl];rfl,by rw[aA.aS,aSe];omega⟩
 . rintro i f2 H2 hi eO e2 ⟨m0,ms,SQ⟩;have hg:(S.map lA).getD i []=lA S[i]:=gJ hi;have hqS:=Ac hi;have hq:=xP hNr ((hS.fl.mem _).1 hqS);have jx:=hS.po _ hqS
   have rQ:∀k,((S.take (i+1)).any fun q=>(L q).contains k)=(((S.take i).any fun q=>(L q).contains k)||(L S[i]).contains k):=fun k=>by rw[Ao,Iq];simp[hi]
   simp only[rQ];generalize S[i]=q at *;have p4:(lA q).length=4:=rfl;have hpg:=Og (tag:=0) (by decide) hNr (Ab _) hCl hq (by decide) jx;have hLl:∀k∈L q,k<C.length:=fun k hk=>(dW.1 (jx.aSt hk)).1
   have bIl:(L q).length<2^30:=by obtain⟨s,r,m,e,W,h⟩:=jx.ex;rw[h,Af,Bv];have h1:=W.le;have h2:=Dh (fun k=>decide (aP.dot q.1 (C.getD k V0)=q.2)) (List.range C.length);rw[Bv] at h2;have h3:(kC (fun i=>C.getD i V0) C.length q.1 q.2).length<=C.length:=h2;omega
   refine aL ?_;refine bQ ?_;simp only[↓zP,zJ,seval,e2,eO 56 rfl,aB,Af,hi,hg,oL p4];refine fD ?_;simp only[↓zP,zJ,seval,eO 8 rfl,oL p4];refine bZ (hpg _) ?_;simp only[↓zP,zG,seval,eK];refine bR ?_;have nx2:¬(0=H2.next):=(by omega);have nxs:¬(sid=H2.next):=(by omega);refine dD [] (fun j _ H'=>H'.get 0=some (.cells [.aR] false)/\H'.get sid=some (.cells (mk C.length (fun k=>((S.take i).any fun q=>(L q).contains k)||((L q).take j).contains k)) false)/\sid<H'.next) (L q).length (by omega) (by decide) ?_ ?_ ?_ ?_ ?_
   . exact zq
   . exact zq
   . refine⟨by rw[aA.aD,if_neg nx2,aA.aG,if_neg nx2];exact m0,?_,by simp only[aA.bC,aA.aS];omega⟩;rw[aA.aD,if_neg nxs,aA.aG,if_neg nxs,ms];simp
   . rintro j f3 H3 hj oO e3 ⟨m0',ms',hn3⟩;have jr:=BA hj;have mN:=hLl _ (Ac hj)
     have htj:∀k,((L q).take (j+1)).contains k=(((L q).take j).contains k||k==(L q)[j]):=fun k=>by rw[Cg];simp only[Dm,List.contains_iff_mem,Ca,Ao,Ad hj,Fu,Ap,Cb]
     simp only[htj];generalize (L q)[j]=p at *;have bFn:p+1<=C.length:=mN;have Lt:=aSv (fun k=>((S.take i).any fun q=>(L q).contains k)||((L q).take j).contains k) mN;refine aL ?_;simp only[↓zP,zJ,seval,e3,oO 64 rfl,oO 10 rfl,eO 10 rfl,aB,eK,hj,jr,mN,bFn,ms',OO];refine⟨(if_neg (by omega)).trans m0',?_,hn3⟩;rw[Lt];simp only[Bool.or_assoc]
   rintro f3 H3 oO ⟨m0',ms',hn3⟩;rw[Ay] at ms';refine Tx ?_;exact⟨m0',ms',hn3⟩
 rintro f2 H2 eO ⟨m0,ms,SQ⟩;rw[Ay] at ms;refine Tx ?_;apply hK;clear hK K;have hP:∀k,(S.any fun q=>(L q).contains k)=gQ S L k:=fun k=>rfl;simp only[hP] at ms;refine bQ ?_;refine Tz ?_;refine bR ?_;refine aJ fun K hK=>?_;refine bQ ?_;simp only[↓zP,zG,seval,eO 8 rfl,aU];refine bR ?_;have z0:¬(0=H2.next):=by omega
 have zs:¬(sid=H2.next):=by omega
 generalize ho:H2.next=ob at *;refine dD [] (fun i _ H'=>H'.get 0=some (.cells [.aR] false)/\H'.get sid=some (.cells (mk C.length (gQ S L)) false)/\ob<H'.next/\∃v,H'.get ob=some (.cells [v] false)/\Own H' 3 v (cJ (((List.range i).filter (gQ S L)).map fun k=>C.getD k V0))/\(((List.range i).filter (gQ S L)).map (fun k=>C.getD k V0)=[]->v=.aR)) C.length (by omega) (by decide) ?_ ?_ ?_ ?_ ?_
 . exact zq
 . exact zq
 . refine⟨by rw[aA.aG,ho,if_neg z0];exact m0,by rw[aA.aG,ho,if_neg zs];exact ms,by rw[aA.aS,ho];omega,.aR,by rw[aA.aG,ho,if_pos rfl],.nil _ _,fun _=>rfl⟩
 . rintro i f3 H3 hi oO e3 ⟨q0,qs,qn,v,qv,qo,qe⟩;have hg:=dC hi;have FA:C.getD i V0=C[i]:=by simp[List.getD,hi]
   have ve:((List.range (i+1)).filter (gQ S L)).map (fun k=>C.getD k V0)=((List.range i).filter (gQ S L)).map (fun k=>C.getD k V0)++(if gQ S L i then [C[i]] else []):=by
    rw[Ff,Ja,Cx];congr 1;simp only[Jk,Jt];split
    . rw[Cd,FA];rfl
    rfl
   have vI:(((List.range i).filter (gQ S L)).map fun k=>C.getD k V0).length<=64:=by rw[Af];have :=Dh (gQ S L) (List.range i);rw[Bv] at this;omega
   rw[ve];generalize ((List.range i).filter (gQ S L)).map (fun k=>C.getD k V0)=aY at *;generalize C[i]=x at *;have n0:¬(0=H3.next):=(by omega);have ns:¬(sid=H3.next):=(by omega);have nb:¬(ob=H3.next):=(by omega);have xG:i+1<=C.length:=hi;have hmg:=aSu (gQ S L) hi;refine aL ?_;refine bQ ?_;simp only[↓zP,zJ,seval,e3,oO 75 rfl,aB,aU,hi,hg,oL (aV x)];refine bR ?_;generalize hX:(H3.alloc _).set H3.next _=H4;have y0:H4.get 0=some (.cells [.aR] false):=(by subst hX;rw[aA.aD,if_neg n0,aA.aG,if_neg n0];exact q0);have ys:H4.get sid=some (.cells (mk C.length (gQ S L)) false):=(by subst hX;rw[aA.aD,if_neg ns,aA.aG,if_neg ns];exact qs);have yv:H4.get ob=some (.cells [v] false):=(by subst hX;rw[aA.aD,if_neg nb,aA.aG,if_neg nb];exact qv);have yx:H4.get H3.next=some (.cells (cT x) false):=Zal;have yn:H4.next=H3.next+1:=by subst hX;simp only[aA.bC,aA.aS]
   have yo:Own H4 3 v (cJ aY):=by refine Ob qo (by omega) fun k h1 h2=>?_;subst hX;rw[aA.aD,if_neg (by omega),aA.aG,if_neg (by omega)];exact h2
   clear hX;generalize H3.next=r3 at *
   cases hu:gQ S L i with
   |false=>rw[hu] at hmg;simp only[↓zP,zJ,seval,oO 10 rfl,eO 10 rfl,aB,hi,xG,ys,OO,hmg];exact⟨y0,trivial,by omega,v,yv,yo,qe⟩
   |true=>
    rw[hu] at hmg;simp only[↓zP,zJ,seval,oO 10 rfl,eO 10 rfl,aB,hi,xG,ys,OO,hmg,oO 15 rfl,yv,yx,oL (aV x)];obtain⟨H5,z1,z2,z3,z4,z5⟩:=Has.push (.inr yo) (ys:=[cT x]) (bytes:=24) rfl (by rw[aU,Aq,Bm];omega);rw[eL];have w2:=(z4 ob (by omega) (by rw[yv];simp)).trans yv;simp only[z1,cF,zJ,seval,w2];refine⟨(if_neg (by omega)).trans ((z4 0 (by omega) (by rw[y0];simp)).trans y0),(if_neg (by omega)).trans ((z4 sid (by omega) (by rw[ys];simp)).trans ys),by omega,_,rfl,?_,fun h=>?_⟩
    . rw[show cJ (aY++[x])=cJ aY++[cT x] from by simp[cJ]];exact .inr ⟨H4.next,rfl,by simp only[aA.bC];omega,by rw[aA.aD,if_neg (by omega)];exact z3⟩
    simp at h
 rintro f3 H3 oO ⟨q0,qs,qn,v,qv,qo,qe⟩;refine Tx ?_;apply hK;clear hK K;have hL:((List.range C.length).filter (gQ S L)).map (fun k=>C.getD k V0)=iF C S L:=rfl;rw[hL] at qo qe;simp only[↓zP,zJ,seval,oO 15 rfl,oO 2 rfl,eO 2 rfl,hk 2 rfl,qv,q0];refine⟨rfl,_,by simp only[↓zP,zR,seval,oO 2 rfl,eO 2 rfl,hk 2 rfl];rfl,?_⟩;exact Zau
theorem Nt {C:List aP.V} {S:List (aP.V×Int)} {L:aP.V×Int->List Nat} (hS:xJ C S L) (cP:S≠[]):iF C S L≠[]:=by
 obtain⟨q,r,rfl⟩:=Fy cP;obtain⟨s,r',m,e,W,h⟩:=(hS.po q Ar).ex;have hm:s∈L q:=by rw[h];exact Bj.2 ⟨0,Au.2 W.pos,rfl⟩
 have hs:s<C.length:=(dW.1 W.hs).1;intro hh;have :C.getD s V0∈iF C (q::r) L:=Bj.2 ⟨s,Fg.2 ⟨Au.2 hs,by simp[gQ,hm]⟩,rfl⟩;rw[hh] at this;cases this
def NJ (l C:List aP.V) (S:List (aP.V×Int)) (L:aP.V×Int->List Nat):Int:=
 if(iZ l C S L).2=0/\iF C S L≠l then 3 else(iZ l C S L).2
theorem Sb {l C:List aP.V} {S:List (aP.V×Int)} {L:aP.V×Int->List Nat} (h:(iZ l C S L).2=0):S≠[]/\(iZ l C S L).1=lB 3 (cJ (iF C S L))/\l.length<=64:=by
 unfold iZ at h ⊢;split at h
 . cases h
 split at h
 . cases h
 split at h
 . cases h
 split at h
 . cases h
 rename_i h1 h2 h3 h4;rw[if_neg h1,if_neg h2,if_neg h3,if_neg h4];exact⟨fun e=>h3 (by rw[e];decide),rfl,by omega⟩
theorem Sa {tag:Nat} (ht:Nat.blt tag 2=true) {l C:List aP.V} (hlen:l.length<2^30) (hC:Ord l C) {S:List (aP.V×Int)} {L:aP.V×Int->List Nat} (hS:xJ C S L) (H:aA):
 Sg 102 [.agg [.bB tag 3 (cJ l)]] H (.ret (.int .i64 (NJ l C S L))) H:=by
 refine So aJc ZaJ ?_ H;unfold aCf;dsimp only;have hH:=fun H=>aCd ht hlen hC hS H;unfold NJ;have h0:=Sb (l:=l) (C:=C) (S:=S) (L:=L);generalize iZ l C S L=o at *;obtain⟨ov,oc⟩:=o;dsimp only at hH h0 ⊢;refine bQ ?_;refine Ty ?_;refine fD ?_;refine Ty ?_;refine bZ (hH _) ?_;refine Ty ?_;refine bR ?_;by_cases hc:oc=0
 . subst hc;obtain⟨hSn,rfl,aVe⟩:=h0 rfl;have cP:=Nt hS hSn;have qY:lB 3 (cJ (iF C S L))=.bB 0 3 (cJ (iF C S L)):=if_neg (by simpa [cJ] using cP);rw[qY]
   have FF:(iF C S L).length<2^30:=by have hCl:C.length<=l.length:=tU C l (Ha (fun {a b} (h:iU a b) (e:a=b)=>iU.j8 b (by rw[e] at h;exact h)) hC.Rb) fun v hv=>(hC.mem v).1 hv;have :=Dh (gQ S L) (List.range C.length);rw[Bv] at this;simp only[iF,Af];omega
   have hb:((0:Int)==0)=true:=rfl;have hE:=fun H=>qg (t1:=0) (t2:=tag) rfl ht FF hlen H;refine aJ fun K hK=>?_;simp only[↓zP,zJ,seval,hb];refine bZ (hE _) ?_;by_cases he:iF C S L=l
   . have hd:=Aj he;simp only[↓zP,zJ,seval,hd];apply hK;clear hK K;refine Tz ?_;refine Rx ?_;rw[if_neg (fun h=>h.2 he)];rfl
   have hd:=Ag he;simp only[↓zP,zJ,seval,hd];refine Rx ?_;rw[if_pos ⟨trivial,he⟩];rfl
 have hb:(oc==0)=false:=Bl.2 hc;refine bQ ?_;simp only[↓zP,zG,seval,hb];refine bR ?_;refine Tz ?_;refine Rx ?_;rw[if_neg (fun h=>hc h.1)];rfl
theorem MC {id r:Nat} {o:Bool} {H:aA} (hr:H.get r=some (.cells [.aR] o)):Sg 272 [.yield id,.ref r 0] H (.ret (.iA [])) H:=by
 refine gH aKb (Ak rfl) ?_;unfold aDe;dsimp only;refine bQ ?_;simp only[↓zP,zJ,Nat.reduceLT,hr];refine bR ?_;refine dD [] (fun i vs H'=>H'=H) 0 (by decide) (by decide) ?_ ?_ ?_ ?_ ?_
 . simp only[zB]
 . simp only[zB,Nat.reduceEqDiff];rfl
 . rfl
 . rintro i f H1 hi;exact absurd hi (An _)
 rintro f H1 hk rfl;refine⟨rfl,_,by simp only[zR];rfl,?_⟩;exact⟨rfl,rfl⟩
theorem Wf (H:aA):Sg 201 [.aR] H (.ret (.func (.func 272) [] [.ref H.next 0])) (H.alloc (.cells [.aR] false)):=by refine gH aJv (Ak rfl) ?_;unfold aCy;dsimp only;simp only[↓zP,zJ,Nat.reduceLT,Nat.reduceEqDiff];refine⟨rfl,_,by simp only[↓zP,zR];rfl,?_⟩;exact⟨rfl,rfl⟩
theorem PQ {r:Nat} {o:Bool} {H:aA} (jz:r<H.next) (hr:H.get r=some (.cells [.aR] o)):
 ∃H',Sg 313 [.aR,.func (.func 272) [] [.ref r 0]] H (.ret .aR) H':=by
 suffices h:∃out H',out=.ret .aR/\Sg 313 [.aR,.func (.func 272) [] [.ref r 0]] H out H' by obtain⟨_,H',rfl,hS⟩:=h;exact⟨H',hS⟩
 refine GS fit aKc (Ak rfl) ?_;unfold aDf;dsimp only;refine bQ ?_;simp only[↓zP,zJ,Nat.reduceLT];refine bR ?_;refine aJ fun K hK=>?_;refine bQ ?_;simp only[↓zP,zJ,Nat.reduceLT,Nat.reduceEqDiff];refine bR ?_;have EZ:(kD (kD (kD (fK [.aR,.func (.func 272) [] [.ref r 0]]) 2 (.ref H.next 0)) 4 .aR) 6 (.func (.func 272) [] [.ref r 0])) 2=.ref H.next 0:=rfl;have hf6:(kD (kD (kD (fK [.aR,.func (.func 272) [] [.ref r 0]]) 2 (.ref H.next 0)) 4 .aR) 6 (.func (.func 272) [] [.ref r 0])) 6=.func (.func 272) [] [.ref r 0]:=rfl;generalize kD (kD (kD (fK [.aR,.func (.func 272) [] [.ref r 0]]) 2 (.ref H.next 0)) 4 .aR) 6 (.func (.func 272) [] [.ref r 0])=f at *;refine aL ?_;refine Ml (by rw[iV];exact hf6) ?_;simp only[aA.aS];generalize vo:Mo.mk [7] _ _=key
 refine⟨_,_,_,_,_,MC (o:=o) (by rw[aA.aG,if_neg Zai,aA.aG,if_neg Zai,aA.aG,if_neg (by omega)];exact hr),by rw[aA.aG];simp;exact⟨rfl,rfl,rfl⟩,fun Hf hf=>?_⟩
 obtain⟨f1,f2⟩:=hf;show K f [.mark (H.next+1)] Hf;apply hK;clear hK K;have b0:Hf.get H.next=some (.cells [.aR] false):=by rw[f2,if_neg (by omega)];simp[aA.aG];omega
 have b1:Hf.get (H.next+1)=some .SD:=by rw[f2,if_neg (by omega)];simp[aA.aG]
 simp only[↓zP,zJ,Nat.reduceLT,EZ,b0];exact⟨b1,[.aR],rfl,rfl⟩
theorem Tl {r:Nat} {o:Bool} {H:aA} (jz:r<H.next) (hr:H.get r=some (.cells [.aR] o)):
 ∃H',Sg 270 [.func (.func 272) [] [.ref r 0]] H (.ret .aR) H':=by
 obtain⟨H',hS⟩:=PQ jz hr;refine⟨H',?_⟩;refine gH aKa (Ak rfl) ?_;unfold aDd;dsimp only;simp only[↓zP,zJ,Nat.reduceLT,Nat.reduceEqDiff];refine bZ (hS) ?_;simp only[↓zP,zG,Nat.reduceLT];refine⟨rfl,_,by simp only[↓zP,zR];rfl,?_⟩;exact⟨rfl,rfl⟩
theorem Ms {r:Nat} {o:Bool} {H:aA} (jz:r<H.next) (hr:H.get r=some (.cells [.aR] o)):
 ∃H',Sg 200 [.func (.func 272) [] [.ref r 0],.func (.func 202) [] []] H (.ret .aR) H':=by
 obtain⟨H1,hS⟩:=Tl jz hr;refine⟨H1,?_⟩;refine gH xr (Ak rfl) ?_;unfold q9;dsimp only;simp only[↓zP,zJ,Nat.reduceLT,Nat.reduceEqDiff];refine bZ (hS) ?_;simp only[↓zP,zJ,Nat.reduceLT,Nat.reduceEqDiff];refine bZ (oY Tryz.aBk rfl TC 202 _) ?_;simp only[↓zP,zG,Nat.reduceEqDiff];refine⟨rfl,_,by simp only[↓zP,zR];rfl,?_⟩;exact⟨rfl,rfl⟩
theorem Yj (H:aA):Sg 154 [.aR] H (.ret .aR) H:=by refine eQ fit fG aJl (Ak rfl) Zah ?_ H;unfold aCo;dsimp only;obtain⟨H1,hS⟩:=Ms (r:=0) (o:=false) (H:=(aA.mk 0 .nil).alloc (.cells [.aR] false)) (by simp) rfl;simp only[↓zP,zJ,Nat.reduceLT,Nat.reduceEqDiff];refine bZ (Wf _) ?_;simp only[];refine bZ (hS) ?_;simp only[↓zP,zG,Nat.reduceLT];refine bZ (Kw _) ?_;simp only[↓zP,zG,Nat.reduceLT];refine⟨rfl,_,by simp only[↓zP,zR];rfl,?_⟩;exact⟨_,0,rfl,fun nw=>rfl⟩
theorem qp (H:aA):Sg 122 [.aR] H (.ret (.iA [.agg [.aR],.int .i64 120])) H:=by
 refine eQ fit fG aJh (Ak rfl) Zah ?_ H;unfold aCk;dsimp only;refine bQ ?_;simp only[↓zP,zG,Nat.reduceLT];refine fD ?_;simp only[↓zP,zJ,Nat.reduceLT,Nat.reduceEqDiff];refine⟨fun h=>absurd h (by decide),fun _=>?_⟩;refine bR ?_;refine aJ fun K hK=>?_;refine bQ ?_;simp only[↓zP,zJ,Nat.reduceLT,Nat.reduceEqDiff];refine bR ?_;refine dD [] (fun i _ H=>H.get 0=some (.cells [.aR] false)) 0 (by decide) (by decide) ?_ ?_ ?_ ?_ ?_
 . simp only[zB]
 . simp only[zB,Nat.reduceEqDiff];rfl
 . simp only[zI]
 . rintro i f H1 hi;exact absurd hi (An _)
 rintro f H1 hk g0;simp only[↓zP];apply hK;clear hK K;refine bQ ?_;simp only[↓zP,zJ,Nat.reduceLT,Nat.reduceEqDiff,hk 0 rfl];refine bZ (Yj _) ?_;simp only[↓zP,zG,Nat.reduceLT];refine fD ?_;simp only[↓zP,zG,Nat.reduceLT];refine bZ (Of _) ?_;simp only[↓zP,zG,Nat.reduceLT];refine bR ?_;refine aJ fun K hK=>?_;simp only[↓zP,zJ,Nat.reduceLT,Nat.reduceEqDiff,Int.reduceLT,hk 2 rfl,g0];refine⟨fun _=>?_,fun h=>absurd (show((0:Int)<4) by decide) (by simp at h)⟩;refine⟨rfl,_,by simp only[↓zP,zR,Nat.reduceEqDiff,hk 2 rfl,g0];rfl,?_⟩;exact⟨_,2,rfl,fun nw=>rfl⟩
theorem Pm (H:aA):Sg 102 [.agg [.aR]] H (.ret (.int .i64 120)) H:=by
 refine So aJc Zah ?_ H;unfold aCf;dsimp only;refine bQ ?_;simp only[↓zP,zJ,Nat.reduceLT];refine fD ?_;simp only[↓zP,zJ,Nat.reduceLT,Nat.reduceEqDiff];refine bZ (qp _) ?_;simp only[↓zP,zJ,Nat.reduceLT,Nat.reduceEqDiff,Nat.reduceAdd];refine bR ?_;have hb:((120:Int)==0)=false:=by decide
 refine bQ ?_;simp only[↓zP,zJ,Nat.reduceLT,Nat.reduceEqDiff,hb];refine bR ?_;simp only[↓zP,zG,Nat.reduceLT,Nat.reduceEqDiff];refine⟨rfl,_,by simp only[↓zP,zR];rfl,?_⟩;rfl
def pC (p:Int×Int):List AV:=[.int .i64 p.1,.int .i64 p.2]
theorem zp (p:Int×Int):(pC p).length=2:=rfl
theorem aGq (p:Int×Int):bO (pC p)=true:=by simp only[pC,sf]
def aKr (H:aA) (x:Nat) (v:AV) (l:List (Int×Int)):Prop:=
 (l=[]/\v=.aR)\/∃xH,l≠[]/\v=.sl xH 2 0 l.length l.length/\H.get xH=some (.cells (l.map pC).flatten true)/\¬(x=xH)/\xH<H.next
theorem aKr.push {H:aA} {x:Nat} {v:AV} {l:List (Int×Int)} (h:aKr H x v l) (Tb:x<H.next) (hlen:l.length<2^30) (p:Int×Int):
 ∃v' H',eB H 2 16 true v [pC p]=some (v',H')/\aKr H' x v' (l++[p])/\H'.next=H.next+1/\H'.get x=H.get x:=by
 rcases h with ⟨rfl,rfl⟩|⟨xH,cP,rfl,hg,h1,h2⟩
 . exact⟨_,_,zN rfl (by simp),.inr ⟨H.next,by simp,rfl,by rw[aA.aG,if_pos rfl];rfl,by omega,by simp⟩,by simp,by rw[aA.aG,if_neg (by omega)]⟩
 have Zl:(l.map pC).flatten.length=l.length*2:=by rw[oM (sz:=2) (fun e he=>?_),Af];obtain⟨x,_,rfl⟩:=Bj.1 he;rfl
 refine⟨_,_,zO hg Zl rfl (by simp only[Aq,Bm];omega) (by decide),.inr ⟨H.next,by simp,by simp,?_,by omega,by simp⟩,by simp,by rw[aA.aG,aA.bC,if_neg (by omega),aA.aD,if_neg (by omega)]⟩;rw[aA.aG,aA.bC,if_pos rfl];simp
def edN (l:List Nat) (j:Nat):List (Int×Int):=(List.range j).flatMap fun i=>if l.getD i 0<l.getD ((i+1)%l.length) 0 then [((l.getD i 0:Int),(l.getD ((i+1)%l.length) 0:Int))] else []
def edL (S:List (aP.V×Int)) (L:aP.V×Int->List Nat):List (Int×Int):=S.flatMap fun q=>edN (L q) (L q).length
def WE (l:List aP.V) (p:Nat×Nat):aP.V:=aP.sub (l.getD p.2 V0) (l.getD p.1 V0)
def pN (p:Nat×Nat):Int×Int:=(p.1,p.2)
end Go.Proofs.YtgggiembljfnhaaGreatDoor
namespace Go.Proofs.YtgggiembljfnhaaGreatDoor
open Go Go.Av Go.aP Go.uG

attribute [local congr] aT aI aM aH aW aQ aN aF aX
attribute [local irreducible] FC bS eG
def OG (n:aP.V) (m:Int) (l:List aP.V):Int:=l.foldl (fun m v=>if aP.dot n v<m then aP.dot n v else m) m
def Nq (n:aP.V) (m:Int) (l:List aP.V):Int:=l.foldl (fun m v=>if aP.dot n v>m then aP.dot n v else m) m
theorem aDm (z:Int):bO (cI z)=true:=dG z

def crs (U W:List aP.V):List aP.V:=U.flatMap fun u=>W.filterMap fun w=>if aP.aZ u w=V0 then none else some (aP.aZ u w)
def pre (D:List aP.V) (U W:List aP.V) (i j:Nat):List aP.V:=D++crs (U.take i) W++crs ((U.drop i).take 1) (W.take j)
def yF (a b:List aP.V) (n:aP.V):Bool:=decide (Nq n (aP.dot n (a.getD 0 V0)) a<=OG n (aP.dot n (b.getD 0 V0)) b)||decide (Nq n (aP.dot n (b.getD 0 V0)) b<=OG n (aP.dot n (a.getD 0 V0)) a)
theorem Ss {n:aP.V} {X:Nat}:∀{l:List aP.V} {m:Int},m.natAbs<=X->(∀v∈l,(aP.dot n v).natAbs<=X)->(OG n m l).natAbs<=X
 |[],_,h,_=>h
 |v::l,m,h,hl=>by have h1:=hl v Ar;have :=Ss (n:=n) (l:=l) (m:=if aP.dot n v<m then aP.dot n v else m) (by split<;>omega) (fun w hw=>hl w (Aw _ hw));exact this
theorem SP {n:aP.V} {X:Nat}:∀{l:List aP.V} {m:Int},m.natAbs<=X->(∀v∈l,(aP.dot n v).natAbs<=X)->(Nq n m l).natAbs<=X
 |[],_,h,_=>h
 |v::l,m,h,hl=>by have h1:=hl v Ar;have :=SP (n:=n) (l:=l) (m:=if aP.dot n v>m then aP.dot n v else m) (by split<;>omega) (fun w hw=>hl w (Aw _ hw));exact this
end Go.Proofs.YtgggiembljfnhaaGreatDoor
namespace Go.Proofs.YtgggiembljfnhaaGreatDoor
open Go Go.Av Go.aP
theorem OX (l:List aP.V):∃C,Ord l C:=by obtain⟨s,h1,h2⟩:=vH (fun a b:aP.V=>¬iU b a) (fun {a b c} h h'=>by unfold iU at *;omega) (fun a b=>by unfold iU;omega) l;exact⟨dd s s.length,Wy h2 _ (Ab _),fun v=>by rw[NR s v _ (Ab _),Ay];exact h1.mem_iff⟩
noncomputable def Px (l:List aP.V):List aP.V:=Classical.choose (OX l)
theorem xE (l:List aP.V):Ord l (Px l):=Ie (OX l)
noncomputable def nC (C:List aP.V):List (aP.V×Int):=Classical.choose (oW.exists (fun i=>C.getD i V0) C.length)
theorem BU (C:List aP.V):oW (fun i=>C.getD i V0) C.length (nC C):=Ie (oW.exists (fun i=>C.getD i V0) C.length)
open Classical in
noncomputable def pZ (C:List aP.V) (q:aP.V×Int):List Nat:=if h:∃L,Poly (fun i=>C.getD i V0) C.length q.1 q.2 L then Classical.choose h else []
theorem NA {C:List aP.V} (h:C.Pairwise iU):qd (fun i=>C.getD i V0) C.length:=fun i j yN hj=>by
 have h1:C.getD i V0=C[i]:=by simp[List.getD,Df yN hj]
 have h2:C.getD j V0=C[j]:=by simp[List.getD,hj]
 simp only[h1,h2];exact Gc.1 h i j (Df yN hj) hj yN
theorem uO {C:List aP.V} (h:C.Pairwise iU):xJ C (nC C) (pZ C) where
 fl:=BU C
 po q hq:=by have hF:=((BU C).mem q).1 hq;have hx:=Poly.exists (NA h) hF.ZS;unfold pZ;rw[dif_pos hx];exact Ie hx
noncomputable def vC (l:List aP.V):Int:=NJ l (Px l) (nC (Px l)) (pZ (Px l))
theorem OY {l:List aP.V} (h:l.Pairwise iU):Px l=l:=Ord.uniq (xE l) ⟨h,fun v=>Iff.rfl⟩
theorem NH {l:List aP.V} (h:vC l=0):l.Pairwise iU/\Px l=l/\nC l≠[]/\(nC l).length<=64/\l.length<=64/\l≠[]/\∀v∈l,cH (2^18) v:=by
 unfold vC NJ at h;split at h
 . cases h
 rename_i h1;have h2:iF (Px l) (nC (Px l)) (pZ (Px l))=l:=Cq fun hc=>h1 ⟨h,hc⟩;obtain⟨a1,a2,a3⟩:=Sb h;have hs:=(xE l).Rb
 have FK:l.Pairwise iU:=by rw[<-h2];unfold iF;rw[Jg];refine Ji (R:=fun a b=>a<b) ?_ (List.Pairwise.filter _ Jn);intro a b ha hb GC;exact NA hs a b GC (by simpa using(Fg.1 hb).1)
 have he:=OY FK;have cP:=Nt (uO hs) a1;rw[h2] at cP;rw[he] at a1;refine⟨FK,he,a1,?_,a3,cP,?_⟩
 . unfold iZ at h;rw[he] at h;split at h
   . cases h
   split at h
   . cases h
   split at h
   . cases h
   split at h
   . cases h
   omega
 unfold iZ at h;split at h
 . cases h
 split at h
 . cases h
 rename_i hb;intro v hv;have CV:l.all Zt=true:=by simpa using hb
 exact Nu.1 (Ax.1 CV v hv)
theorem NI:vC []=120:=by
 have h:Px []=[]:=OY .nil;unfold vC NJ;rw[h]
 have hS:nC []=[]:=by
  cases hf:nC [] with
  |nil=>rfl
  |cons q r=>have :=((BU []).mem q).1 (by rw[hf];simp);obtain⟨k,hk,_⟩:=this.lt;exact absurd hk (An _)
 rw[hS];rfl
def IsE (l:List aP.V) (v:aP.V):Prop:=∃q:aP.V×Int,pP (fun i=>l.getD i V0) l.length q.1 q.2/\∃a b,Sd q.1 (fun i=>l.getD i V0) (kC (fun i=>l.getD i V0) l.length q.1 q.2) a b/\a∈kC (fun i=>l.getD i V0) l.length q.1 q.2/\a<b/\v=aP.sub (l.getD b V0) (l.getD a V0)
def IsD (a b:List aP.V) (n:aP.V):Prop:=(∃d,pP (fun i=>a.getD i V0) a.length n d)\/(∃d,pP (fun i=>b.getD i V0) b.length n d)\/∃u w,IsE a u/\IsE b w/\n=aP.aZ u w/\n≠V0
open Classical in
noncomputable def vF (a b:List aP.V):Bool:=decide (∃n,IsD a b n/\yF a b n=true)
theorem tI {a b:List aP.V}:vF a b=true↔∃n,IsD a b n/\yF a b n=true:=by unfold vF;exact @decide_eq_true_iff _ (Classical.propDecidable _)
theorem aHw {l:List aP.V} {S:List (aP.V×Int)} {L:aP.V×Int->List Nat} (hS:xJ l S L) (hlen:l.length<=64):∀q∈S,(L q).length<=64:=fun q hq=>by obtain⟨s,r,m,e,W,h⟩:=(hS.po q hq).ex;rw[h,Af,Bv];have h1:=W.le;have h2:=Dh (fun k=>decide (aP.dot q.1 (l.getD k V0)=q.2)) (List.range l.length);rw[Bv] at h2;have h3:(kC (fun i=>l.getD i V0) l.length q.1 q.2).length<=l.length:=h2;omega
theorem Su {l:List aP.V} {S:List (aP.V×Int)} {L:aP.V×Int->List Nat} (hS:xJ l S L) {x:Int×Int}:
 x∈edL S L↔∃q∈S,∃a b:Nat,aP.Next (L q) a b/\a<b/\x=pN (a,b):=by
 simp only[edL,Fq];constructor
 . rintro⟨q,hq,hx⟩;simp only[edN,Fq,Au] at hx;obtain⟨i,hi,hx⟩:=hx;split at hx
   . rename_i h;rw[Cb] at hx;have FB:(i+1)%(L q).length<(L q).length:=Di _ (by omega);refine⟨q,hq,(L q).getD i 0,(L q).getD ((i+1)%(L q).length) 0,⟨i,hi,?_,?_⟩,h,hx⟩
     . simp[List.getD,hi]
     simp[List.getD,FB]
   cases hx
 rintro⟨q,hq,a,b,⟨i,hi,h1,h2⟩,GC,rfl⟩;refine⟨q,hq,?_⟩;simp only[edN,Fq,Au];refine⟨i,hi,?_⟩;have e1:(L q).getD i 0=a:=by simp[List.getD,h1]
 have e2:(L q).getD ((i+1)%(L q).length) 0=b:=by simp[List.getD,h2]
 rw[e1,e2,if_pos GC];simp[pN]
theorem XC {l:List aP.V} (hl:l.Pairwise iU) {S:List (aP.V×Int)} {L:aP.V×Int->List Nat} (hS:xJ l S L) (cP:S≠[]):edL S L≠[]:=by
 obtain⟨q,r,rfl⟩:=Fy cP;have hq:=Ar (a:=q) (l:=r);have hF:=(hS.fl.mem q).1 hq;have hP:=hS.po q hq
 have hlen:0<(L q).length:=by obtain⟨s,r',m,e,W,h⟩:=hP.ex;rw[h];simpa using W.pos
 have FB:(0+1)%(L q).length<(L q).length:=Di _ hlen;have hN:aP.Next (L q) (L q)[0] (L q)[(0+1)%(L q).length]:=⟨0,hlen,Ad hlen,Ad FB⟩;generalize (L q)[0]=a at *;generalize (L q)[(0+1)%(L q).length]=b at *;have hsd:=hP.wT.1 hN;have GC:b≠a:=hsd.2.2.1;intro he
 rcases Gp a b with h|h
 . have :pN (a,b)∈edL (q::r) L:=(Su hS).2 ⟨q,hq,a,b,hN,h,rfl⟩;rw[he] at this;cases this
 obtain⟨n',d',L',F',P',hN'⟩:=hP.back (NA hl) hF hN;have jy:=(hS.fl.mem (n',d')).2 F';have hL':=P'.uniq (hS.po _ jy);rw[hL'] at hN';have :pN (b,a)∈edL (q::r) L:=(Su hS).2 ⟨(n',d'),jy,b,a,hN',by omega,rfl⟩;rw[he] at this;cases this
attribute [local congr] aT aI aM aH aW aQ aN aF aX
attribute [local irreducible] FC bS eG
def vY (p:AV×List aP.V):Prop:=(p.1=.aR/\p.2=[])\/p.1=.bB 0 3 (cJ p.2)
def MZ (ps:List (AV×List aP.V)):List (List AV):=ps.map fun p=>[p.1]
def Mq (pv:AV) (ps:List (AV×List aP.V)):Prop:=(pv=.aR/\ps=[])\/pv=.bB 0 1 (MZ ps)
theorem vY.free {p:AV×List aP.V} (h:vY p):p.1.free=true:=by
 rcases h with ⟨h,_⟩|h
 . rw[h];rfl
 rw[h];exact dK rfl _
theorem VY {ps:List (AV×List aP.V)} (h:∀p∈ps,vY p):dR (MZ ps)=true:=by
 induction ps with
 |nil=>simp only[MZ,Fp,dR]
 |cons p ps ih=>have h1:=(h p Ar).free;have h2:=ih fun x hx=>h x (Aw _ hx);simp only[MZ] at h2;simp only[MZ,Cd,dR,bO,h1,h2,Cv]
theorem Mq.free {pv:AV} {ps:List (AV×List aP.V)} (h:Mq pv ps) (hp:∀p∈ps,vY p):pv.free=true:=by
 rcases h with ⟨h,_⟩|h
 . rw[h];rfl
 rw[h];simp only[AV.free,VY hp];rfl
def NV (v:aP.V):Bool:=(decide (v.x>4096)||decide (v.x< -4096))||((decide (v.y>4096)||decide (v.y< -4096))||(decide (v.z>4096)||decide (v.z< -4096)))
noncomputable def lS (l:List aP.V):Int:=if vC l≠0 then vC l else if l.any NV then 1 else 0
def aDh (m0 m1 r0 r1:Int):Bool:=decide (m0<1)||(decide (m1<m0)||(decide (m1>1099511627776)||(decide (r0<0)||(decide (r1<r0)||decide (r1>4000)))))
noncomputable def RK (ps:List (List aP.V)):Bool:=(List.range ps.length).any fun i=>(List.range i).any fun k=> !vF (ps.getD i []) (ps.getD k [])
noncomputable def Lc (ps:List (List aP.V)):Int:=match ps.find? fun l=> !decide (lS l=0) with
 |some l=>lS l
 |none=>if RK ps then 150 else 0
noncomputable def zX (name:List UInt8) (ps:List (List aP.V)) (m0 m1 r0 r1:Int):Int:=
 if yK name=false then 5 else if ps.length<1\/8<ps.length then 2 else if aDh m0 m1 r0 r1=true then 1 else Lc ps
theorem YT {ls:List (List aP.V)} {i:Nat} (hi:i<ls.length) (h:∀j (hj:j<i),lS (ls[j]'(Df hj hi))=0) (he:lS ls[i]≠0):Lc ls=lS ls[i]:=by
 have :ls.find? (fun l=> !decide (lS l=0))=some ls[i]:=by rw[List.find?_eq_some_iff_getElem];exact⟨by simp[he],i,hi,rfl,fun j hj=>by simp[h j hj]⟩
 unfold Lc;rw[this]
theorem YR {ls:List (List aP.V)} (h:∀l∈ls,lS l=0):Lc ls=if RK ls then 150 else 0:=by
 have :ls.find? (fun l=> !decide (lS l=0))=none:=by rw[Hr];exact fun l hl=>by simp[h l hl]
 unfold Lc;rw[this]
theorem aGr {l:List aP.V} (h:lS l=0):vC l=0/\∀v∈l,NV v=false:=by
 unfold lS at h;split at h
 . rename_i h1;exact absurd h h1
 rename_i h1;split at h
 . cases h
 rename_i h2
 exact⟨Ib.1 h1,fun v hv=>by
  cases hf:NV v with
  |false=>rfl
  |true=>exact absurd (Bw.2 ⟨v,hv,hf⟩) h2⟩
theorem YC {ls:List (List aP.V)} {i k:Nat} (hi:i<ls.length) (hk:k<i) (h:vF ls[i] (ls[k]'(Df hk hi))=false):RK ls=true:=by unfold RK;rw[Bw];refine⟨i,Au.2 hi,?_⟩;rw[Bw];refine⟨k,Au.2 hk,?_⟩;have rN:=Df hk hi;simp only[List.getD,Ad hi,Ad rN,Bi,h,Gb]
theorem VP {ls:List (List aP.V)} (h:∀i k (hi:i<ls.length) (hk:k<i),vF ls[i] (ls[k]'(Df hk hi))=true):RK ls=false:=by unfold RK;rw[Ct];intro i hi;rw[Au] at hi;simp only[Eh];rw[Ct];intro k hk;rw[Au] at hk;have rN:=Df hk hi;simp only[List.getD,Ad hi,Ad rN,Bi,h i k hi hk];decide
theorem Pk {p:AV×List aP.V} (h:vY p) (hlen:p.2.length<2^30) (H:aA):Sg 102 [.agg [p.1]] H (.ret (.int .i64 (vC p.2))) H:=by
 rcases h with ⟨h1,h2⟩|h1
 . rw[h1,h2,NI];exact Pm H
 rw[h1];exact Sa rfl hlen (xE _) (uO (xE _).Rb) H
def tF (name:List UInt8) (pv:AV) (m0 m1 r0 r1:Int):List AV:=[.str name,pv,.int .i64 m0,.int .i64 m1,.int .i64 r0,.int .i64 r1]
end Go.Proofs.YtgggiembljfnhaaGreatDoor
namespace Go.Proofs.YtgggiembljfnhaaGreatDoor
open Go Go.Av
def fI (v:AV) (sz:Nat) (aY:List (List AV)):Prop:=(v=.aR/\aY=[])\/v=.bB 0 sz aY
theorem fI.len {v:AV} {sz:Nat} {aY:List (List AV)} (h:fI v sz aY) (H:aA):dA (fun _=>v) H (.OD (.tmp 0))=some (.int .i64 aY.length,H):=by rcases h with ⟨rfl,rfl⟩|rfl<;>rfl
theorem fI.bB {v:AV} {sz:Nat} {aY:List (List AV)} (h:fI v sz aY) {i:Nat} (hi:i<aY.length):v=.bB 0 sz aY:=by
 rcases h with ⟨_,rfl⟩|h
 . exact absurd hi (An _)
 exact h
theorem tM {aY:List (List AV)} (h:∀e∈aY,bO e=true):dR aY=true:=by
 induction aY with
 |nil=>rfl
 |cons e aY ih=>simp only[dR,h e Ar,ih fun x hx=>h x (Aw _ hx),Cv]
theorem fI.free {v:AV} {sz:Nat} {aY:List (List AV)} (h:fI v sz aY) (hf:∀e∈aY,bO e=true):v.free=true:=by
 rcases h with ⟨rfl,_⟩|rfl
 . rfl
 simp only[AV.free,tM hf];rfl
structure Th where
 kind:Int
 name:List UInt8
 pv:AV
 ps:List (AV×List aP.V)
 m0:Int
 m1:Int
 r0:Int
 r1:Int
 store:List Int
def Th.cs (t:Th):List AV:=AV.int .i64 t.kind::(tF t.name t.pv t.m0 t.m1 t.r0 t.r1++iC t.store)
structure Th.OK (t:Th):Prop where
 name:t.name.length<2^63
 parts:Mq t.pv t.ps
 part:∀p∈t.ps,vY p
 store:t.store.length=7
 i64:kX t.store
def Th.Few (t:Th):Prop:=t.ps.length<2^30/\∀p∈t.ps,p.2.length<2^30
theorem Th.len {t:Th} (h:t.OK):t.cs.length=14:=by simp[Th.cs,tF,cC,h.store]
def vL (v:aP.V):List Int:=[v.x,v.y,v.z]
def inP (l:List aP.V):Bool:=(l.map vL).all (zA 4096)
noncomputable def WT (t:Th):Int:=
 if(decide (t.kind=1)||decide (t.kind=2))=false\/gW t.store≠0 then 1
 else if zX t.name (t.ps.map (·.2)) t.m0 t.m1 t.r0 t.r1≠0 then zX t.name (t.ps.map (·.2)) t.m0 t.m1 t.r0 t.r1
 else if t.ps.all (fun p=>inP p.2) then 0 else 1
noncomputable def MB:List (List UInt8)->List Th->Int
 |_,[]=>0
 |seen,t::ts=>if WT t≠0 then WT t else if t.name∈seen then 6 else MB (seen++[t.name]) ts
theorem nt {seen:List (List UInt8)} {ts:List Th} {i:Nat} (hi:i<ts.length):MB seen (ts.drop i)=if WT ts[i]≠0 then WT ts[i] else if ts[i].name∈seen then 6 else MB (seen++[ts[i].name]) (ts.drop (i+1)):=by rw[Dk hi];rfl
def PU (n:Int) (r:List Int):Bool:=decide (r.getD 0 0<0)||(decide (r.getD 0 0>n)||(decide (r.getD 1 0<0)||(decide (r.getD 1 0>n)||(r.getD 0 0==r.getD 1 0||(!zA (tZ (r.getD 0 0)) ((r.drop 2).take 3)|| !zA (tZ (r.getD 1 0)) ((r.drop 5).take 3))))))
def PT (n:Int) (p:List Int):Bool:=decide (p.getD 0 0<1)||(decide (p.getD 0 0>n)||(!zA 4096 ((p.drop 1).take 3)||(!zA 1099511627776 ((p.drop 4).take 3)|| !zA 1099511627776 ((p.drop 7).take 3))))
def LU (n r p:Nat):Bool:=decide ((n:Int)>64)||(decide ((r:Int)>16)||decide ((p:Int)>16))
def aDi (g r0 r1:Int):Bool:=decide (g<0)||(decide (g>1048576)||(decide (r0<0)||(decide (r0>r1)||decide (r1>4000))))
noncomputable def vE (g r0 r1:Int) (ts:List Th) (rs ps:List (List Int)):Int:=
 if LU ts.length rs.length ps.length then 2 else if aDi g r0 r1 then 1 else if MB [] ts≠0 then MB [] ts
 else if rs.any (PU ts.length) then 1 else if ps.any (PT ts.length) then 1 else 0
def yC (g r0 r1:Int) (tv rv pv:AV):List AV:=[.int .i64 g,.int .i64 r0,.int .i64 r1,tv,rv,pv]
def nG (ts:List Th):List (List AV):=ts.map Th.cs
theorem dL (ts:List Th):(nG ts).length=ts.length:=Af _
theorem oS {ts:List Th} {i:Nat} (hi:i<ts.length):(nG ts).getD i []=ts[i].cs:=by simp[nG,hi]
def bD (l:List (List Int)):List (List AV):=l.map iC
theorem aO (l:List (List Int)):(bD l).length=l.length:=Af _
theorem cD {l:List (List Int)} {i:Nat} (hi:i<l.length):(bD l).getD i []=iC l[i]:=by simp[bD,hi]
theorem fX {ts:List Th} (h:∀t∈ts,t.OK):∀e∈nG ts,bO e=true:=fun e he=>by obtain⟨t,ht,rfl⟩:=Bj.1 he;have :=h t ht;simp only[Th.cs,tF,gY,sf,jF,this.parts.free this.part]
theorem bF (l:List (List Int)):∀e∈bD l,bO e=true:=fun e he=>by obtain⟨w,_,rfl⟩:=Bj.1 he;exact jF w
def W27:CW Tryz.f27:=⟨_,uJ⟩
theorem bGq:Fi 27 W27:=cM Tryz.func27 W27
def W32:CW Tryz.f32:=⟨_,uJ⟩
theorem bBe:Fi 32 W32:=cM Tryz.func32 W32
def W14:CW Tryz.f14:=⟨_,cX⟩
theorem bGj:Fi 14 W14:=cM Tryz.func14 W14
def W11:CW Tryz.f11:=⟨_,uJ⟩
theorem aWb:Fi 11 W11:=cM Tryz.func11 W11
def W29:CW Tryz.f29:=⟨_,cX⟩
theorem bAl:Fi 29 W29:=cM Tryz.func29 W29
def W66:CW Tryz.f66:=⟨_,cX⟩
theorem bBz:Fi 66 W66:=cM Tryz.func66 W66
def W67:CW Tryz.f67:=⟨_,cX⟩
theorem bCa:Fi 67 W67:=cM Tryz.func67 W67
def aCg:CW Tryz.f105:=⟨_,cX⟩
theorem aJd:Fi 105 aCg:=cM Tryz.func105 aCg
def W28:CW Tryz.f28:=⟨_,cX⟩
theorem bGr:Fi 28 W28:=cM Tryz.func28 W28
def W41:CW Tryz.f41:=⟨_,cX⟩
theorem bGy:Fi 41 W41:=cM Tryz.func41 W41
def W13:CW Tryz.f13:=⟨_,uJ⟩
theorem bGi:Fi 13 W13:=cM Tryz.func13 W13
def W23:CW Tryz.f23:=⟨_,uJ⟩
theorem bGn:Fi 23 W23:=cM Tryz.func23 W23
def W36:CW Tryz.f36:=⟨_,cX⟩
theorem bGu:Fi 36 W36:=cM Tryz.func36 W36
def W12:CW Tryz.f12:=⟨_,cX⟩
theorem bGh:Fi 12 W12:=cM Tryz.func12 W12
def W31:CW Tryz.f31:=⟨_,cX⟩
theorem bGs:Fi 31 W31:=cM Tryz.func31 W31
attribute [local congr] aT aI aM aH aW aQ aN aF aX
attribute [local irreducible] FC bS eG
def YZ (sz:Nat) (aY:List (List AV)):AV:=if aY=[] then .aR else .bB 0 sz aY
theorem aAp (sz:Nat) (aY:List (List AV)):fI (YZ sz aY) sz aY:=by
 unfold YZ;split
 . rename_i h;exact .inl ⟨rfl,h⟩
 exact .inr rfl
theorem _root_.Go.Av.tA.shut {H:aA} {sz:Nat} {v:AV} {aY:List (List AV)} (h:tA H sz v aY) (hf:dR aY=true) (nw:Nat):fT H none nw 0 v=some (YZ sz aY):=by
 unfold YZ;split
 . rename_i he;rw[h.2 he];rfl
 rename_i cP;refine Has.shut (.inr h.1) cP (fun e=>?_) hf nw
 rcases h.1 with ⟨h1,h2⟩|⟨k,h1,_⟩
 . exact cP h2
 rw[h1] at e;cases e
def bE (l:List Bool):List (List AV):=l.map fun b=>[.bool b]
theorem bT (l:List Bool):(bE l).length=l.length:=Af _
theorem qK {l:List Bool} {i:Nat} (hi:i<l.length):(bE l).getD i []=[.bool l[i]]:=by simp[bE,hi]
theorem gX (l:List Bool):∀e∈bE l,bO e=true:=fun e he=>by obtain⟨w,_,rfl⟩:=Bj.1 he;rfl
theorem _root_.List.qR {α:Type} {l:List α} {i:Nat} (hi:i<l.length) {P:α->Prop} (h:∀x∈l.take i,P x) (h1:P l[i]):∀x∈l.take (i+1),P x:=fun x hx=>by
 rw[Ao,Ap] at hx
 rcases hx with hx|hx
 . exact h x hx
 simp[hi] at hx;subst hx;exact h1
structure Sc where
 sv:AV
 pv:AV
 vv:AV
 wv:AV
 tv:AV
 av:AV
 st:List Bool
 ps:List (List Int)
 vs:List (List Int)
 ws:List (List Int)
 ta:List Bool
 ac:List Bool
structure Sc.OK (s:Sc):Prop where
 st:fI s.sv 1 (bE s.st)
 ps:fI s.pv 7 (bD s.ps)
 vs:fI s.vv 3 (bD s.vs)
 ws:fI s.wv 3 (bD s.ws)
 ta:fI s.tv 1 (bE s.ta)
 ac:fI s.av 1 (bE s.ac)
 p7:∀p∈s.ps,p.length=7/\kX p
 v3:∀w∈s.vs,w.length=3/\kX w
 w3:∀w∈s.ws,w.length=3/\kX w
 bB:s.st.length<2^30
 lps:s.ps.length<2^30
 lvs:s.vs.length<2^30
 lws:s.ws.length<2^30
 lta:s.ta.length<2^30
 lac:s.ac.length<2^30
def Sc.cs (s:Sc):List AV:=[s.sv,s.pv,s.vv,s.wv,s.tv,s.av]
theorem Sc.free {s:Sc} (h:s.OK):bO s.cs=true:=by simp only[Sc.cs,sf,h.st.free (gX _),h.ps.free (bF _),h.vs.free (bF _),h.ws.free (bF _),h.ta.free (gX _),h.ac.free (gX _)]
def zV:List Int:=[0,0,0]
theorem xO {w:List Int} (h:w.length=3):cK [.i,.i,.i] (iC w) [.int .i64 0,.int .i64 0,.int .i64 0]=some (decide (w=zV)):=qL (n:=3) h (m:=zV) rfl
theorem yt {w:List Int} (h:w.length=3) (H:aA):Sg 66 [.agg (iC w)] H (.ret (.bool (!decide (w=zV)))) H:=by
 refine So bBz (by simp only[sf,jF]) ?_ H;unfold W66;dsimp only;have hl:(iC w).length=3:=by rw[cC,h]
 simp only[↓zP,zJ,seval,oL hl,xO h];refine Rx ?_;rfl
def IJ (l:List (List Int)):Bool:=l.any fun w=> !decide (w=zV)
def Ut:List (List Int)->Nat->Int
 |[],_=> -1
 |w::l,k=>if w=zV then Ut l (k+1) else k
theorem Uu:∀(l:List (List Int)) (k:Nat),decide (Ut l k≥0)=IJ l
 |[],_=>rfl
 |w::l,k=>by
  unfold Ut;have h:=Uu l (k+1);by_cases e:w=zV
  . rw[if_pos e,h];simp[IJ,e]
  rw[if_neg e,Aj (by omega)];simp[IJ,e]
theorem j7 {l:List (List Int)} {i:Nat} (hi:i<l.length):Ut (l.drop i) i=if l[i]=zV then Ut (l.drop (i+1)) (i+1) else i:=by rw[Dk hi];rfl
theorem aFb {v:AV} {l:List (List Int)} (hv:fI v 3 (bD l)) (h3:∀w∈l,w.length=3) (hl:l.length<2^63) (H:aA):
 Sg 105 [v,.func (.func 66) [] []] H (.ret (.int .i64 (Ut l 0))) H:=by
 have hln:=hv.len;simp only[dA] at hln;rw[aO] at hln;refine So aJd (by simp only[bO,AV.free,hv.free (bF _)];rfl) ?_ H;unfold aCg;dsimp only;refine bQ ?_;refine Tz ?_;refine bR ?_;refine aJ fun K hK=>?_;refine bQ ?_;simp only[↓zP,zJ,seval,hln];refine bR ?_;refine dD [] (fun i vs H'=>H'=⟨0,.nil⟩/\Ut l 0=Ut (l.drop i) i) l.length (by omega) (by decide) ?_ ?_ ?_ ?_ ?_
 . exact zq
 . exact zq
 . exact⟨rfl,rfl⟩
 . rintro i f H1 hi hk e1 ⟨rfl,hx⟩;have f0:f 0=.bB 0 3 (bD l):=by rw[hk 0 rfl];simp only[zB,seval,fK,Dw];exact hv.bB (i:=i) Zaz
   have f1:f 1=.func (.func 66) [] []:=(by rw[hk 1 rfl];rfl);have hg:=cD hi;have MP:=h3 _ (Ac hi);have Zm:=yt MP;rw[j7 hi] at hx;generalize l[i]=w at *;have TZ:(iC w).length=3:=(by rw[cC,MP]);refine aL ?_;refine bQ ?_;simp only[↓zP,zG,seval,e1];refine bR ?_;refine aJ fun K2 bW=>?_;simp only[↓zP,zG,seval,f0,f1,aB,aO,hi,hg,oL TZ];refine EE (args:=[.agg (iC w)]) (by decide) (by simp only[iV,zB,seval];rfl) (by simp only[sm,zB,seval];rfl) (Zm _) ?_;by_cases hz:w=zV
   . have d1:=Aj hz;rw[if_pos hz] at hx;simp only[↓zP,seval,zI,d1];apply bW;clear bW K2;refine Tz ?_;exact⟨trivial,hx⟩
   have d1:=Ag hz;rw[if_neg hz] at hx;simp only[↓zP,seval,zI,d1];apply bW;clear bW K2;refine Tz ?_;refine Rx ?_;rw[hx];rfl
 rintro f H1 hk ⟨rfl,hx⟩;rw[Hh] at hx;refine Tx ?_;apply hK;clear hK K;refine Tz ?_;refine Rx ?_;rw[hx];rfl
theorem ZH {v:AV} {l:List (List Int)} (hv:fI v 3 (bD l)) (h3:∀w∈l,w.length=3) (hl:l.length<2^63) (H:aA):
 Sg 67 [v,.func (.func 66) [] []] H (.ret (.bool (IJ l))) H:=by
 refine So bCa (by simp only[bO,AV.free,hv.free (bF _)];rfl) ?_ H;unfold W67;dsimp only;have h:=aFb hv h3 hl;have hm:=Uu l 0;refine Ty ?_;refine bZ (h _) ?_;simp only[↓zP,zG,seval,hm];refine Rx ?_;rfl
def lV (s:Sc):Bool:= !IJ s.vs&& !IJ s.ws
theorem aHe {s:Sc} (hs:s.OK) (H:aA):Sg 29 [.agg s.cs] H (.ret (.bool (lV s))) H:=by
 refine So bAl (by simp only[bO,AV.free,Sc.free hs];rfl) ?_ H;unfold W29;dsimp only;have h1:=ZH hs.vs (fun w hw=>(hs.v3 w hw).1) (by have :=hs.lvs;omega);have h2:=ZH hs.ws (fun w hw=>(hs.w3 w hw).1) (by have :=hs.lws;omega);have hR:lV s=(!IJ s.vs&& !IJ s.ws):=rfl;generalize IJ s.vs=b1 at *;generalize IJ s.ws=b2 at *;simp only[↓zP,zJ,seval,Sc.cs];refine bZ (h1 _) ?_;cases b1
 . refine Ty ?_;refine bZ (h2 _) ?_;refine Tz ?_;refine Rx ?_;rw[hR];rfl
 refine Ty ?_;refine Rx ?_;rw[hR];rfl
theorem aAs {s:Sc} (hs:s.OK) (H:aA):Sg 36 [.agg s.cs] H (.ret (.bool (lV s))) H:=by
 refine So bGu (by simp only[bO,AV.free,Sc.free hs];rfl) ?_ H;unfold W36;dsimp only;have l1:=hs.vs.len;have l2:=hs.ws.len;simp only[dA] at l1 l2;rw[aO] at l1 l2;have b1:=hs.lvs;have b2:=hs.lws;have eW:∀{l:List (List Int)} {i:Nat} (hi:i<l.length),l[i]≠zV->IJ l=true:=fun hi h=>Bw.2 ⟨_,Ac hi,by simp[h]⟩
 have xV:∀{l:List (List Int)},(∀w∈l,w=zV)->IJ l=false:=fun h=>by unfold IJ;rw[Ct];intro w hw;simp[h w hw]
 refine bQ ?_;simp only[↓zP,zJ,seval,Sc.cs];refine bR ?_;refine aJ fun K hK=>?_;refine Tz ?_;refine bP [] (fun i vs H'=>H'.get 0=some (.cells [s.sv,s.pv,s.vv,s.wv,s.tv,s.av] false)/\∀w∈s.vs.take i,w=zV) 0 s.vs.length (Az _) (by omega) (by decide) ?_ ?_ ?_ ?_ ?_
 . exact zq
 . exact⟨by simp only[zI,seval],fun p hp=>by simp at hp⟩
 . rintro i f H1 h0 hi hk e1 ⟨g0,_⟩;have f1:f 1=.ref 0 0:=hk 1 rfl;simp only[↓zP,zJ,seval,e1,f1,g0,l1];exact Zaf
 . rintro i f H1 h0 hi hk e1 ⟨g0,bV⟩;have f1:f 1=.ref 0 0:=hk 1 rfl;have Lu:s.vv=.bB 0 3 (bD s.vs):=hs.vs.bB (i:=i) Zaz;have hg:=cD hi;have MP:=(hs.v3 _ (Ac hi)).1;have fQ:=List.qR hi bV;have eW:=eW hi;generalize s.vs[i]=w at *;have TZ:(iC w).length=3:=by rw[cC,MP]
   have hez:=xO MP;refine aL ?_;refine aJ fun K2 bW=>?_;by_cases hz:w=zV
   . have d1:=Aj hz;rw[d1] at hez;simp only[↓zP,zJ,seval,e1,f1,g0,Lu,aB,aO,hi,hg,oL TZ,hez];apply bW;clear bW K2;refine Ty ?_;exact⟨g0,fQ hz⟩
   have d1:=Ag hz;rw[d1] at hez;simp only[↓zP,zJ,seval,e1,f1,g0,Lu,aB,aO,hi,hg,oL TZ,hez];apply bW;clear bW K2;refine Ty ?_;refine Rx ?_;unfold lV;rw[eW hz];rfl
 rintro f H1 hk ⟨g0,bV⟩;rw[Ay] at bV;have f1:f 1=.ref 0 0:=hk 1 rfl;refine Tx ?_;apply hK;clear hK K;refine aJ fun K hK=>?_;refine Tz ?_;refine bP [] (fun i vs H'=>H'=H1/\∀w∈s.ws.take i,w=zV) 0 s.ws.length (Az _) (by omega) (by decide) ?_ ?_ ?_ ?_ ?_
 . exact zq
 . exact⟨rfl,fun p hp=>by simp at hp⟩
 . rintro i f2 H2 h0 hi eO e1 ⟨rfl,_⟩;have u1:f2 1=.ref 0 0:=by rw[eO 1 rfl];simp only[zB,seval];exact f1
   simp only[↓zP,zJ,seval,e1,u1,g0,l2];exact Zaf
 . rintro i f2 H2 h0 hi eO e1 ⟨rfl,qX⟩;have u1:f2 1=.ref 0 0:=by rw[eO 1 rfl];simp only[zB,seval];exact f1
   have Lu:s.wv=.bB 0 3 (bD s.ws):=hs.ws.bB (i:=i) Zaz;have hg:=cD hi;have MP:=(hs.w3 _ (Ac hi)).1;have fQ:=List.qR hi qX;have eW:=eW hi;generalize s.ws[i]=w at *;have TZ:(iC w).length=3:=(by rw[cC,MP]);have hez:=xO MP;refine aL ?_;refine aJ fun K2 bW=>?_;by_cases hz:w=zV
   . have d1:=Aj hz;rw[d1] at hez;simp only[↓zP,zJ,seval,e1,u1,g0,Lu,aB,aO,hi,hg,oL TZ,hez];apply bW;clear bW K2;refine Ty ?_;exact⟨trivial,fQ hz⟩
   have d1:=Ag hz;rw[d1] at hez;simp only[↓zP,zJ,seval,e1,u1,g0,Lu,aB,aO,hi,hg,oL TZ,hez];apply bW;clear bW K2;refine Ty ?_;refine Rx ?_;unfold lV;rw[eW hz,xV bV];rfl
 rintro f2 H2 eO ⟨rfl,qX⟩;rw[Ay] at qX;refine Tx ?_;apply hK;clear hK K;refine Tz ?_;refine Rx ?_;unfold lV;rw[xV bV,xV qX];rfl
end Go.Proofs.YtgggiembljfnhaaGreatDoor
namespace Go.Proofs.YtgggiembljfnhaaGreatDoor
open Go Go.Av Go.aP
open Go.ChangeShapes Go.WideShapes Go.ChangeAt Go.RowKit
section
theorem UC {H:Type} (d:DataW H):1<=Rows.uptoBulk d:=by
 cases d with
 |lit l=>cases l<;>simp[Rows.uptoBulk]
 |_=>simp[Rows.uptoBulk]
theorem UB {H:Type}:∀l:List (DataW H),l.length<=Rows.uptoBulkAll l
 |[]=>Az _
 |d::l=>by have :=UC d;have :=UB l;simp only[Rows.uptoBulkAll,Aq];omega
def MS:Value->Int
 |.int _ n=>n
 |_=>0
section
variable {H:Type} {enc:TypeId×Value->H} {W:World} {base:Nat} {hd:Bool}
theorem tV {α:Type} [Inhabited α] {t e:TypeId} {n m:Nat} {v:Value} {y:DataW H×List MemPlace} (mo:Bool) (ht:Tryz.prog.underlying t=some (.slice e)) (hn:Tryz.prog.cellsOf e=n) (h0:0<n) (f:α->List AV) (Q:α->Prop)
 (hq:∀r,Q r->(f r).length=n/\∀c∈f r,c.one=true)
 (hx:∀(cs:List Value) (m:Nat) (y:DataW H×List MemPlace),cs.length=n->DataW.trod enc Tryz.prog W base (fun _=>true) hd m e cs=some y->∃r,Q r/\∀j,j<n->VR (mL mo W) W ((f r).getD j aC) (cs.getD j undef))
 (h:DataW.trod enc Tryz.prog W base (fun _=>true) hd m t [v]=some y):
 ∃(av:AV) (l:List α),fI av n (l.map f)/\(∀r∈l,Q r)/\VR (mL mo W) W av v/\l.length+1<=Rows.uptoBulk y.1/\l.length<2^63:=by
 rcases Go.Deep.open_slice ht h with ⟨h1,h2⟩|⟨a,len,cap,mm,k,D,Pl,hv,hb,hl,hm,hmm,rfl,hc⟩
 . obtain rfl:v=.slice none 0 0:=by simpa using h1
   exact⟨.aR,[],.inl ⟨rfl,rfl⟩,by simp,.aR,UC _,by simp⟩
 obtain rfl:v=.slice (some a) len cap:=by simpa using hv
 have hmc:mm=cap:=by simpa using hmm
 subst hmc
 obtain⟨g,hg⟩:=Go.Deep.choose_lt (α:=α×List Value) (n:=len) (p:=fun i r=>Q r.1/\r.2.length=n/\(∀j,j<n->W.cell? (a.add (i*n+j))=some (r.2.getD j undef))/\∀j,j<n->VR (mL mo W) W ((f r.1).getD j aC) (r.2.getD j undef)) (fun i hi=>by
  obtain⟨cs,h1,h2⟩:=hc i (by omega);rw[hn] at h1;obtain⟨_,hlen,kE⟩:=World.cells?_some h1;obtain⟨r,hr,hvr⟩:=hx cs _ _ hlen h2;refine⟨(r,cs),hr,hlen,fun j hj=>?_,hvr⟩;rw[<-Go.Deep.add_add,kE j hj,List.getD,Ad (by omega)]
  rfl)
 have aIq:((List.range len).map fun i=>(g i).1).length+1<=Rows.uptoBulk (DataW.slice ((List.range len).map D) ((List.range (mm -len)).map fun j=>D (len+j))):=by have :=UB ((List.range len).map D);simp only[Rows.uptoBulk,Af,Bv] at this ⊢;omega
 have pL:mm<=2^63 -1:=hm;have bEv:((List.range len).map fun i=>(g i).1).length<2^63:=by rw[Af,Bv];omega
 obtain⟨b,o,s⟩:=a
 cases s with
 |some s=>
  have MO:mm=0:=by
   rcases Hn mm with h|h
   . exact h
   obtain⟨cs,h1,_⟩:=hc 0 h;rw[hn] at h1;obtain⟨_,hlen,kE⟩:=World.cells?_some h1;have :=kE 0 h0;rw[Ad (by omega)] at this;have :=np this;simp[Addr.add] at this
  subst MO;obtain rfl:len=0:=by omega
  exact⟨.bB 0 n [],[],.inr rfl,by simp,.vK 0 n b o s (by decide),aIq,by simp⟩
 |none=>
  refine⟨.bB 0 n (((List.range len).map fun i=>(g i).1).map f),(List.range len).map fun i=>(g i).1,.inr rfl,fun r hr=>?_,?_,aIq,bEv⟩
  . obtain⟨i,hi,rfl⟩:=Bj.1 hr;exact(hg i (Au.1 hi)).1
  have hu:∀e∈((List.range len).map fun i=>(g i).1).map f,e.length=n:=fun e he=>by simp only[Gr,Bj,Au] at he;obtain⟨i,hi,rfl⟩:=he;exact(hq _ (hg i hi).1).1
  have WJ:(((List.range len).map fun i=>(g i).1).map f).length=len:=by simp
  have vI:(((List.range len).map fun i=>(g i).1).map f).flatten.length=len*n:=by
   have :∀(L:List (List AV)),(∀e∈L,e.length=n)->L.flatten.length=L.length*n:=by
    intro L
    induction L with
    |nil=>intro _;simp
    |cons x L ih=>intro hL;rw[Bp,Ba,hL x Ar,ih fun e he=>hL e (Aw _ he),Aq,Cr,Ht,Fo]
   rw[this _ hu,WJ]
  have at_:∀j,j<len*n->j / n<len/\j%n<n/\j / n*n+j%n=j/\(((List.range len).map fun i=>(g i).1).map f).flatten.getD j aC=(f (g (j / n)).1).getD (j%n) aC:=fun j hj=>by have h1:j / n<len:=Nat.div_lt_of_lt_mul (by rwa [Dg]);have h2:j%n<n:=Di _ h0;have h3:j / n*n+j%n=j:=(by rw[Dg];exact Fe j n);refine⟨h1,h2,h3,?_⟩;have :=xR hu (i:=j / n) (j:=j%n) (by rw[WJ];exact h1) h2;rw[h3] at this;rw[this];simp[List.getD,h1]
  have :=VR.bB (G:=mL mo W) (w:=W) 0 n (((List.range len).map fun i=>(g i).1).map f) b o mm (fun j=>(g (j / n)).2.getD (j%n) undef) hu
   (fun j hj=>by
     rw[vI] at hj;obtain⟨h1,h2,h3,h4⟩:=at_ j hj;obtain⟨q1,q2,q3,q4⟩:=hg _ h1;have kE:=q3 _ h2;rw[h3,rh] at kE;refine⟨⟨_,kE⟩,kE,?_⟩;rw[h4];have XZ:=(hq _ q1).1;refine(hq _ q1).2 _ ?_;rw[List.getD,Ad (by omega)]
     exact Ac _)
   (fun j hj=>by
     rw[vI] at hj;obtain⟨h1,h2,h3,h4⟩:=at_ j hj;rw[h4]
     exact(hg _ h1).2.2.2 _ h2)
   ⟨by rw[WJ];exact hl,trivial⟩
  rw[WJ] at this;exact this
theorem oI {G:Gh} {cs:List Value} {i:Nat} (h:∃n,cs[i]?=some (.int .i64 n)/\(Lit.int .i64 n).wf=true):VR G W (.int .i64 (MS (cs.getD i undef))) (cs.getD i undef):=by obtain⟨n,hn,_⟩:=h;rw[List.getD,hn];exact .int _ _
theorem Xh {cs:List Value} {i:Nat} (h:∃n,cs[i]?=some (.int .i64 n)/\(Lit.int .i64 n).wf=true): -2^63<=MS (cs.getD i undef)/\MS (cs.getD i undef)<2^63:=by obtain⟨n,hn,hw⟩:=h;rw[List.getD,hn];simp[Lit.wf,IntKind.min,IntKind.max,IntKind.signed,IntKind.bits] at hw;simp only[Bi,MS];omega
def ivL (cs:List Value) (o n:Nat):List Int:=(List.range n).map fun j=>MS (cs.getD (o+j) undef)
theorem Sn (cs:List Value) (o n:Nat):(ivL cs o n).length=n:=by simp[ivL]
theorem xu {cs:List Value} {o n j:Nat} (hj:j<n):(iC (ivL cs o n)).getD j aC=.int .i64 (MS (cs.getD (o+j) undef)):=by rw[dV (by rw[Sn];exact hj)];simp[ivL,hj]
theorem Zv {cs:List Value} {o n:Nat} (h:∀j,j<n->∃r,cs[o+j]?=some (.int .i64 r)/\(Lit.int .i64 r).wf=true):kX (ivL cs o n):=fun x hx=>by obtain⟨j,hj,rfl⟩:=Bj.1 hx;exact Xh (h j (Au.1 hj))
theorem sV {t e:TypeId} {n m:Nat} {v:Value} {y:DataW H×List MemPlace} (mo:Bool) (ht:Tryz.prog.underlying t=some (.slice e)) (hf:Ua Tryz.prog 8 e=some (List.replicate n 3)) (hn:Tryz.prog.cellsOf e=n) (h0:0<n)
 (h:DataW.trod enc Tryz.prog W base (fun _=>true) hd m t [v]=some y):
 ∃(av:AV) (l:List (List Int)),fI av n (bD l)/\(∀r∈l,r.length=n/\kX r)/\VR (mL mo W) W av v/\l.length+1<=Rows.uptoBulk y.1/\l.length<2^63:=
 tV mo ht hn h0 iC (fun r=>r.length=n/\kX r) (fun r hr=>⟨by rw[cC];exact hr.1,fun c hc=>by obtain⟨x,_,rfl⟩:=Bj.1 hc;rfl⟩)
  (fun cs m y hl hy=>by
    have R:=mJ 8 hf hy
    have hi:∀j,j<n->∃r,cs[0+j]?=some (.int .i64 r)/\(Lit.int .i64 r).wf=true:=fun j hj=>by rw[Cs];exact fA R (u:=3) (by simp[hj]) Tryz.underlying3
    refine⟨ivL cs 0 n,⟨Sn _ _ _,Zv hi⟩,fun j hj=>?_⟩;rw[xu hj,Cs];have :=hi j hj;rw[Cs] at this
    exact oI this) h
theorem FP {m:Nat} {v:Value} {y:DataW H×List MemPlace} (mo:Bool) (h:DataW.trod enc Tryz.prog W base (fun _=>true) hd m 28 [v]=some y):
 ∃(av:AV) (l:List Bool),fI av 1 (bE l)/\VR (mL mo W) W av v/\l.length+1<=Rows.uptoBulk y.1/\l.length<2^63:=by
 obtain⟨av,l,h1,_,h2,h3⟩:=tV (α:=Bool) mo Tryz.underlying28 (n:=1) (by kernel_rfl) (by decide) (fun b=>[.bool b]) (fun _=>True) (fun r _=>⟨rfl,fun c hc=>by rw[Cb] at hc;subst hc;rfl⟩)
  (fun cs m y hl hy=>by
    obtain⟨b,rfl,_⟩:=DataW.trod_bool Tryz.underlying4 hy;refine⟨b,trivial,fun j hj=>?_⟩;obtain rfl:j=0:=by omega
    exact .bool b) h
 exact⟨av,l,h1,h2,h3⟩
theorem Xz {v:Value} {m:Nat} {y:DataW H×List MemPlace} (mo:Bool) (h:DataW.trod enc Tryz.prog W base (fun _=>true) hd m 30 [v]=some y):∃p:AV×List aP.V,vY p/\VR (mL mo W) W p.1 v:=by
 obtain⟨av,l,h1,_,h2,_⟩:=tV (α:=aP.V) mo Tryz.underlying30 (n:=3) (by kernel_rfl) (by decide) cT (fun _=>True) (fun r _=>⟨rfl,fun c hc=>by
  simp only[cT,Am,Bg,Dd] at hc
  rcases hc with rfl|rfl|rfl<;>rfl⟩)
  (fun cs m y hl hy=>by
    have R:=mJ 8 (ts:=[3,3,3]) (by kernel_rfl) hy;refine⟨⟨MS (cs.getD 0 undef),MS (cs.getD 1 undef),MS (cs.getD 2 undef)⟩,trivial,fun j hj=>?_⟩
    exact match j,hj with
    |0,_=>oI (fA R (i:=0) (u:=3) rfl Tryz.underlying3)
    |1,_=>oI (fA R (i:=1) (u:=3) rfl Tryz.underlying3)
    |2,_=>oI (fA R (i:=2) (u:=3) rfl Tryz.underlying3)
    |n+3,h=>absurd h (by omega)) h
 refine⟨(av,l),?_,h2⟩
 rcases h1 with ⟨e1,e2⟩|e
 . exact .inl ⟨e1,by simpa using e2⟩
 exact .inr e
theorem Xx {v:Value} {m:Nat} {y:DataW H×List MemPlace} (mo:Bool) (h:DataW.trod enc Tryz.prog W base (fun _=>true) hd m 101 [v]=some y):
 ∃(pv:AV) (ps:List (AV×List aP.V)),Mq pv ps/\(∀p∈ps,vY p)/\VR (mL mo W) W pv v:=by
 obtain⟨av,l,h1,h4,h2,_⟩:=tV (α:=AV×List aP.V) mo Tryz.underlying101 (n:=1) (by kernel_rfl) (by decide) (fun p=>[p.1]) vY (fun r hr=>⟨rfl,fun c hc=>by
  rw[Cb] at hc;subst hc
  rcases hr with ⟨hr,_⟩|hr<;>rw[hr]<;>rfl⟩)
  (fun cs m y hl hy=>by
    obtain⟨u,mu,yu,hu,hyu⟩:=(mJ 8 (ts:=[30]) (by kernel_rfl) hy) 0 30 rfl;obtain⟨p,hp,hvp⟩:=Xz mo hyu;refine⟨p,hp,fun j hj=>?_⟩;obtain rfl:j=0:=by omega
    rw[Bf (l:=cs),hu]
    exact hvp) h
 refine⟨av,l,?_,h4,h2⟩
 rcases h1 with ⟨e1,e2⟩|e
 . exact .inl ⟨e1,by simpa using e2⟩
 exact .inr e
instance:Inhabited Th:=⟨⟨0,[],.aR,[],0,0,0,0,[]⟩⟩
theorem VO {v:Value} {m:Nat} {y:DataW H×List MemPlace} (mo:Bool) (h:DataW.trod enc Tryz.prog W base (fun _=>true) hd m 23 [v]=some y):
 ∃(tv:AV) (ts:List Th),fI tv 14 (nG ts)/\(∀t∈ts,t.OK)/\VR (mL mo W) W tv v:=by
 obtain⟨av,l,h1,h4,h2,_⟩:=tV (α:=Th) mo Tryz.underlying23 (n:=14) (by kernel_rfl) (by decide) Th.cs Th.OK (fun r hr=>⟨Th.len hr,fun c hc=>by
  simp only[Th.cs,tF,Ep,Dc,Am] at hc
  rcases hc with rfl|rfl|rfl|rfl|rfl|rfl|rfl|hc<;>first|rfl|skip
  . rcases hr.parts with ⟨hr,_⟩|hr<;>rw[hr]<;>rfl
  obtain⟨x,_,rfl⟩:=Bj.1 hc
  rfl⟩)
  (fun cs m y hl hy=>by
    have R:=mJ 8 (ts:=[3,9,101,3,3,3,3,3,3,3,3,3,3,3]) (by kernel_rfl) hy;obtain⟨z,hz,CE⟩:=YQ R (i:=1) (u:=9) rfl Tryz.underlying9;obtain⟨u,mu,yu,hu,hyu⟩:=R 2 101 rfl;obtain⟨pv,ps,uR,Ur,hvp⟩:=Xx mo hyu
    have hi:∀j,j<7->∃r,cs[7+j]?=some (.int .i64 r)/\(Lit.int .i64 r).wf=true:=fun j hj=>by
     refine fA R (i:=7+j) (u:=3) ?_ Tryz.underlying3
     exact match j,hj with
     |0,_=>rfl
     |1,_=>rfl
     |2,_=>rfl
     |3,_=>rfl
     |4,_=>rfl
     |5,_=>rfl
     |6,_=>rfl
     |n+7,h=>absurd h (by omega)
    refine⟨⟨MS (cs.getD 0 undef),z.data.toList,pv,ps,MS (cs.getD 3 undef),MS (cs.getD 4 undef),MS (cs.getD 5 undef),MS (cs.getD 6 undef),ivL cs 7 7⟩,⟨?_,uR,Ur,Sn _ _ _,Zv hi⟩,fun j hj=>?_⟩
    . have :z.data.toList.length=z.size:=Cu;have h63:maxLen=2^63 -1:=rfl;show z.data.toList.length<2^63;omega
    exact match j,hj with
    |0,_=>oI (fA R (i:=0) (u:=3) rfl Tryz.underlying3)
    |1,_=>by have :cs.getD 1 undef=.string z:=(by rw[List.getD,hz];rfl);rw[this];exact .str z
    |2,_=>by have :cs.getD 2 undef=u:=(by rw[List.getD,hu];rfl);rw[this];exact hvp
    |3,_=>oI (fA R (i:=3) (u:=3) rfl Tryz.underlying3)
    |4,_=>oI (fA R (i:=4) (u:=3) rfl Tryz.underlying3)
    |5,_=>oI (fA R (i:=5) (u:=3) rfl Tryz.underlying3)
    |6,_=>oI (fA R (i:=6) (u:=3) rfl Tryz.underlying3)
    |n+7,h=>by
     have e:(Th.cs ⟨MS (cs.getD 0 undef),z.data.toList,pv,ps,MS (cs.getD 3 undef),MS (cs.getD 4 undef),MS (cs.getD 5 undef),MS (cs.getD 6 undef),ivL cs 7 7⟩).getD (n+7) aC=(iC (ivL cs 7 7)).getD n aC:=rfl;rw[e,xu (by omega),Fo 7 n];have :=hi n (by omega);rw[Fo] at this
     exact oI this) h
 exact⟨av,l,h1,h4,h2⟩
end
end
end Go.Proofs.YtgggiembljfnhaaGreatDoor
namespace Go.Proofs.YtgggiembljfnhaaGreatDoor
open Go Go.Av
attribute [local congr] aT aI aM aH aW aQ aN aF aX
attribute [local irreducible] FC bS eG
def FL (n r u:Nat) (s:Sc):Bool:=(s.st.length:Int) != n||((s.ps.length:Int) != n||((s.vs.length:Int) != n||((s.ws.length:Int) != n||((s.ta.length:Int) != r||(s.ac.length:Int) != u))))
def Ry (p q v w:List Int) (b:Bool):Bool:=gW p != 0||((!(zA 1099511627775 v&&zA 1099511627775 w))||(!b&&(!decide (p=q)|| !(decide (v=zV)&&decide (w=zV)))))
def wA (ts:List Th) (s:Sc) (k:Nat):Bool:=Ry (s.ps.getD k []) ((ts.map (·.store)).getD k []) (s.vs.getD k []) (s.ws.getD k []) (s.st.getD k false)
def lC (ts:List Th) (r u:Nat) (s:Sc):Bool:= !FL ts.length r u s&& !(List.range ts.length).any (wA ts s)
theorem wH {ts:List Th} {r u:Nat} {s:Sc} (h:FL ts.length r u s=true):lC ts r u s=false:=by unfold lC;rw[h];rfl
theorem Na {ts:List Th} {r u:Nat} {s:Sc} {i:Nat} (hi:i<ts.length) (h:wA ts s i=true):lC ts r u s=false:=by unfold lC;rw[Bw.2 ⟨i,Au.2 hi,h⟩];simp
theorem KF {ts:List Th} {r u:Nat} {s:Sc} (h:FL ts.length r u s=false) (h2:∀i,i<ts.length->wA ts s i=false):lC ts r u s=true:=by
 have :(List.range ts.length).any (wA ts s)=false:=by rw[Ct];intro i hi;rw[h2 i (Au.1 hi)];decide
 unfold lC;rw[h,this];rfl
theorem MT {n r u:Nat} {s:Sc} (h:FL n r u s=false):s.st.length=n/\s.ps.length=n/\s.vs.length=n/\s.ws.length=n/\s.ta.length=r/\s.ac.length=u:=by simp only[FL,Da,bne_eq_false_iff_eq] at h;omega
theorem aEi {g r0 r1:Int} {ts:List Th} {rs us:List (List Int)} {tv rv uv:AV} {s:Sc} (mR:fI tv 14 (nG ts)) (lR:fI rv 8 (bD rs)) (mS:fI uv 10 (bD us)) (ht:∀t∈ts,t.OK) (hs:s.OK) (sJ:ts.length<2^30) (H:aA):
 Sg 11 [.agg (yC g r0 r1 tv rv uv),.agg s.cs] H (.ret (.bool (lC ts rs.length us.length s))) H:=by
 refine So aWb (by simp only[yC,bO,AV.free,Sc.free hs,mR.free (fX ht),lR.free (bF _),mS.free (bF _)];rfl) ?_ H;unfold W11;dsimp only;have lt:=mR.len;have lr:=lR.len;have lu:=mS.len;have q1:=hs.st.len;have q2:=hs.ps.len;have q3:=hs.vs.len;have q4:=hs.ws.len;have q5:=hs.ta.len;have q6:=hs.ac.len;simp only[dA] at lt lr lu q1 q2 q3 q4 q5 q6;rw[dL] at lt;rw[aO] at lr lu q2 q3 q4;rw[bT] at q1 q5 q6;have Uf:=wH (ts:=ts) (r:=rs.length) (u:=us.length) (s:=s);have hL2:=MT (n:=ts.length) (r:=rs.length) (u:=us.length) (s:=s);have ZZ:=KF (ts:=ts) (r:=rs.length) (u:=us.length) (s:=s);unfold FL at Uf hL2 ZZ;refine bQ ?_;simp only[↓zP,zJ,seval,yC,Sc.cs];refine bR ?_;generalize hX:((aA.mk 0 .nil).alloc _).alloc _=HA;have g0:HA.get 0=some (.cells [.int .i64 g,.int .i64 r0,.int .i64 r1,tv,rv,uv] false):=by subst hX;simp only[zI,seval]
 have g1:HA.get 1=some (.cells [s.sv,s.pv,s.vv,s.wv,s.tv,s.av] false):=by subst hX;simp only[zI,seval]
 have gn:2<=HA.next:=by subst hX;simp only[zI,seval]
 clear hX;refine bY fun f dQ=>?_;have f2:f 2=.ref 0 0:=by subst dQ;simp only[zB,seval]
 have f3:f 3=.ref 1 0:=by subst dQ;simp only[zB,seval]
 clear dQ;refine bQ ?_;simp only[↓zP,zJ,seval,f2,g0,lt];refine bR ?_;refine aJ fun K hK=>?_;generalize eC:((s.st.length:Int) != (ts.length:Nat))=b1 at *;generalize fV:((s.ps.length:Int) != (ts.length:Nat))=b2 at *;generalize CA:((s.vs.length:Int) != (ts.length:Nat))=b3 at *;generalize GD:((s.ws.length:Int) != (ts.length:Nat))=b4 at *;generalize PL:((s.ta.length:Int) != (rs.length:Nat))=b5 at *;generalize XT:((s.ac.length:Int) != (us.length:Nat))=b6 at *;cases b1;rotate_left
 . simp only[↓zP,zJ,seval,f3,g1,q1,eC];exact ZaQ
 cases b2;rotate_left
 . simp only[↓zP,zJ,seval,f3,g1,q1,q2,eC,fV];exact ZaQ
 cases b3;rotate_left
 . simp only[↓zP,zJ,seval,f3,g1,q1,q2,q3,eC,fV,CA];exact ZaQ
 cases b4;rotate_left
 . simp only[↓zP,zJ,seval,f3,g1,q1,q2,q3,q4,eC,fV,CA,GD];exact ZaQ
 cases b5;rotate_left
 . simp only[↓zP,zJ,seval,f2,f3,g0,g1,lr,q1,q2,q3,q4,q5,eC,fV,CA,GD,PL];exact ZaQ
 cases b6;rotate_left
 . simp only[↓zP,zJ,seval,f2,f3,g0,g1,lr,lu,q1,q2,q3,q4,q5,q6,eC,fV,CA,GD,PL,XT];exact ZaQ
 obtain⟨e1,e2,e3,e4,e5,e6⟩:=hL2 rfl;have ZZ:=ZZ rfl;simp only[↓zP,zJ,seval,f2,f3,g0,g1,lr,lu,q1,q2,q3,q4,q5,q6,eC,fV,CA,GD,PL,XT];apply hK;clear hK K Uf hL2 eC fV CA GD PL XT;refine aJ fun K hK=>?_;refine bQ ?_;simp only[↓zP,zJ,seval,f3,g1,q2];refine bR ?_;refine dD [] (fun i vs H'=>H'.get 0=some (.cells [.int .i64 g,.int .i64 r0,.int .i64 r1,tv,rv,uv] false)/\H'.get 1=some (.cells [s.sv,s.pv,s.vv,s.wv,s.tv,s.av] false)/\2<=H'.next/\∀k,k<i->wA ts s k=false) s.ps.length (by omega) (by decide) ?_ ?_ ?_ ?_ ?_
 . exact zq
 . exact zq
 . exact⟨g0,g1,gn,fun k hk=>absurd hk (An _)⟩
 . rintro i f4 H1 hi hk x1 ⟨m0,m1,mn,bV⟩;have u2:f4 2=.ref 0 0:=by rw[hk 2 rfl];simp only[zB,seval];exact f2
   have u3:f4 3=.ref 1 0:=(by rw[hk 3 rfl];simp only[zB,seval];exact f3);have xG:i<s.st.length:=(by omega);have DP:i<s.vs.length:=(by omega);have XX:i<s.ws.length:=(by omega);have gD:i<ts.length:=(by omega);have DS:s.sv=.bB 0 1 (bE s.st):=hs.st.bB (i:=i) (by rw[bT];exact xG);have mN:s.pv=.bB 0 7 (bD s.ps):=hs.ps.bB (i:=i) Zaz;have Lu:s.vv=.bB 0 3 (bD s.vs):=hs.vs.bB (i:=i) (by rw[aO];exact DP);have hwl:s.wv=.bB 0 3 (bD s.ws):=hs.ws.bB (i:=i) (by rw[aO];exact XX);have sJ:tv=.bB 0 14 (nG ts):=mR.bB (i:=i) (by rw[dL];exact gD);have u57:f4 57=.bB 0 7 (bD s.ps):=(by rw[hk 57 rfl];simp only[zB,seval];exact mN);have CZ:=qK xG;have Np:=cD hi;have hg3:=cD DP;have Zh:=cD XX;have vJ:=oS gD;obtain⟨p7,p64⟩:=hs.p7 _ (Ac hi);have v3:=(hs.v3 _ (Ac DP)).1;have w3:=(hs.w3 _ (Ac XX)).1;have rO:=ht _ (Ac gD);have jx:=VU p7 p64;have CX:wA ts s i=Ry s.ps[i] ts[i].store s.vs[i] s.ws[i] s.st[i]:=by unfold wA;simp[hi,gD,DP,XX,xG]
   have fQ:wA ts s i=false->∀k,k<i+1->wA ts s k=false:=fun h k hk=>by
    exact Zas
   have eW:=Na (s:=s) (r:=rs.length) (u:=us.length) gD;rw[CX] at fQ eW;have Ph:=Th.len rO;have q7:=rO.store
   have k7:(ts[i].cs.drop 7).take 7=iC ts[i].store:=by have :ts[i].cs.drop 7=iC ts[i].store:=rfl;rw[this,As (by rw[cC,q7];decide)]
   have k7':ts[i].cs.drop 7=iC ts[i].store:=rfl;have Un:(iC ts[i].store).length=7:=(by rw[cC,q7]);generalize ts[i].store=q at *;generalize ts[i]=t at *;generalize s.st[i]=sb at *;generalize s.ps[i]=p at *;generalize s.vs[i]=v at *;generalize s.ws[i]=w at *;have Ta:(iC p).length=7:=(by rw[cC,p7]);have TZ:(iC v).length=3:=(by rw[cC,v3]);have Zl:(iC w).length=3:=(by rw[cC,w3]);have xo:=xO v3;have hz2:=xO w3;have Td:cK [.i,.i,.i,.i,.i,.i,.i] (iC p) (iC q)=some (decide (p=q)):=qL (n:=7) p7 q7
   have hwi:=aBx (m:=1099511627775) (by decide) (L:=[v,w]) (by
    intro x hx;simp only[Am,Bg,Dd] at hx
    rcases hx with rfl|rfl<;>assumption) (by simp) (.inr ⟨1,rfl,rfl⟩)
   simp only[Cd,Fp,Ik,List.all_nil,Fa] at hwi;unfold Ry at fQ eW;generalize decide (v=zV)=z1 at *;generalize decide (w=zV)=z2 at *;generalize decide (p=q)=e at *;generalize (zA 1099511627775 v&&zA 1099511627775 w)=ib at *;refine aL ?_;refine bQ ?_;simp only[↓zP,zJ,seval,x1,u57,aB,aO,hi,Np,oL Ta];refine bR ?_;generalize hX:(H1.alloc _).set H1.next _=H3;have y0:H3.get 0=some (.cells [.int .i64 g,.int .i64 r0,.int .i64 r1,tv,rv,uv] false):=(by subst hX;rw[aA.aD,if_neg (by omega),aA.aG,if_neg (by omega)];exact m0);have y1:H3.get 1=some (.cells [s.sv,s.pv,s.vv,s.wv,s.tv,s.av] false):=(by subst hX;rw[aA.aD,if_neg (by omega),aA.aG,if_neg (by omega)];exact m1);have y7:H3.get H1.next=some (.cells (iC p) false):=Zal;have yn:2<=H3.next:=Zay;clear hX m0 m1 bV;generalize H1.next=r7 at *;refine bY fun f dQ=>?_;have v2:=Ks dQ u2;have Rf:=Ks dQ u3;have v6:f 6=.int .i64 i:=(by subst dQ;simp only[zB,seval]);have v7:f 7=.ref r7 0:=(by subst dQ;simp only[zB,seval]);clear dQ;refine aJ fun K2 bW=>?_
   have key:∀f:dE,f 2=.ref 0 0->f 3=.ref 1 0->f 6=.int .i64 i->f 7=.ref r7 0->f 8=.bool (z1&&z2)->K2 f [] H3:=by
    intro f v2 Rf v6 v7 v8;apply bW;clear bW K2;refine aJ fun K2 bW=>?_;refine Dz ?_;simp only[↓zP,zJ,seval,zD,v7,y7,oL Ta];refine fH (jx _) ?_
    cases eC:(gW p != 0) with
    |true=>rw[eC] at eW;simp only[↓zP,zJ,seval,zD,eC,gU];apply bW;clear bW K2;refine Tz ?_;refine Rx ?_;rw[eW rfl];rfl
    |false=>
    rw[eC] at eW fQ;simp only[↓zP,zJ,seval,zD,eC,Rf,v6,y1,Lu,hwl,aB,aO,DP,XX,hg3,Zh,oL TZ,oL Zl];refine fH (hwi _) ?_;cases ib
    . simp only[↓zP,zJ,seval,zD,gU];exact Zab
    cases sb;rotate_left
    . simp only[↓zP,zJ,seval,zD,Rf,v6,y1,DS,aB,bT,xG,CZ,gU];apply bW;clear bW K2;refine Tz ?_;exact⟨y0,y1,yn,fQ rfl⟩
    cases e
    . simp only[↓zP,zJ,seval,zD,v2,Rf,v6,v7,y0,y1,y7,DS,sJ,aB,bT,dL,xG,gD,CZ,vJ,k7',oL Ta,oL Un,Td];exact Zab
    generalize (z1&&z2)=z at *;cases z
    . simp only[↓zP,zJ,seval,zD,v2,Rf,v6,v7,v8,y0,y1,y7,DS,sJ,aB,bT,dL,xG,gD,CZ,vJ,k7',oL Ta,oL Un,Td];exact Zab
    simp only[↓zP,zJ,seval,zD,v2,Rf,v6,v7,v8,y0,y1,y7,DS,sJ,aB,bT,dL,xG,gD,CZ,vJ,k7',oL Ta,oL Un,Td];apply bW;clear bW K2;refine Tz ?_;exact⟨y0,y1,yn,fQ rfl⟩
   cases z1
   . simp only[↓zP,zJ,seval,Rf,v6,y1,Lu,aB,aO,DP,hg3,oL TZ,xo];exact key _ (by simp only[zB,seval];exact v2) (by simp only[zB,seval];exact Rf) (by simp only[zB,seval];exact v6) (by simp only[zB,seval];exact v7) rfl
   simp only[↓zP,zJ,seval,Rf,v6,y1,Lu,hwl,aB,aO,DP,XX,hg3,Zh,oL TZ,oL Zl,xo,hz2];exact key _ (by simp only[zB,seval];exact v2) (by simp only[zB,seval];exact Rf) (by simp only[zB,seval];exact v6) (by simp only[zB,seval];exact v7) rfl
 rintro f4 H1 hk ⟨m0,m1,mn,bV⟩;refine Tx ?_;apply hK;clear hK K;refine Tz ?_;refine Rx ?_;rw[ZZ fun k hk=>bV k (by omega)];rfl
structure Sc.OK1 (s:Sc):Prop where
 st:fI s.sv 1 (bE s.st)
 ps:fI s.pv 7 (bD s.ps)
 vs:fI s.vv 3 (bD s.vs)
 ws:fI s.wv 3 (bD s.ws)
 ta:fI s.tv 1 (bE s.ta)
 ac:fI s.av 1 (bE s.ac)
 p7:∀p∈s.ps,p.length=7/\kX p
 v3:∀w∈s.vs,w.length=3/\kX w
 w3:∀w∈s.ws,w.length=3/\kX w
theorem Sc.OK1.ok {s:Sc} (h:s.OK1) {ts:List Th} {r u:Nat} (hf:lC ts r u s=true) (h1:ts.length<2^30) (h2:r<2^30) (h3:u<2^30):s.OK:=by
 have hl:FL ts.length r u s=false:=by
  cases e:FL ts.length r u s with
  |false=>rfl
  |true=>rw[wH e] at hf;cases hf
 obtain⟨l1,l2,l3,l4,l5,l6⟩:=MT hl;exact⟨h.st,h.ps,h.vs,h.ws,h.ta,h.ac,h.p7,h.v3,h.w3,by omega,by omega,by omega,by omega,by omega,by omega⟩
theorem Sc.Uc {s:Sc} (h:s.OK1):bO s.cs=true:=by simp only[Sc.cs,sf,h.st.free (gX _),h.ps.free (bF _),h.vs.free (bF _),h.ws.free (bF _),h.ta.free (gX _),h.ac.free (gX _)]
theorem aAh {g r0 r1:Int} {ts:List Th} {rs us:List (List Int)} {tv rv uv:AV} {s:Sc} (mR:fI tv 14 (nG ts)) (lR:fI rv 8 (bD rs)) (mS:fI uv 10 (bD us)) (ht:∀t∈ts,t.OK) (hs:s.OK1) (sJ:ts.length<2^30) (H:aA):
 Sg 23 [.agg (yC g r0 r1 tv rv uv),.agg s.cs] H (.ret (.bool (lC ts rs.length us.length s))) H:=by
 refine So bGn (by simp only[yC,bO,AV.free,Sc.Uc hs,mR.free (fX ht),lR.free (bF _),mS.free (bF _)];rfl) ?_ H;unfold W23;dsimp only;have lt:=mR.len;have lr:=lR.len;have lu:=mS.len;have q1:=hs.st.len;have q2:=hs.ps.len;have q3:=hs.vs.len;have q4:=hs.ws.len;have q5:=hs.ta.len;have q6:=hs.ac.len;simp only[dA] at lt lr lu q1 q2 q3 q4 q5 q6;rw[dL] at lt;rw[aO] at lr lu q2 q3 q4;rw[bT] at q1 q5 q6;have Uf:=wH (ts:=ts) (r:=rs.length) (u:=us.length) (s:=s);have hL2:=MT (n:=ts.length) (r:=rs.length) (u:=us.length) (s:=s);have ZZ:=KF (ts:=ts) (r:=rs.length) (u:=us.length) (s:=s);unfold FL at Uf hL2 ZZ;refine bQ ?_;simp only[↓zP,zJ,seval,yC,Sc.cs];refine bR ?_;generalize hX:((aA.mk 0 .nil).alloc _).alloc _=HA;have g0:HA.get 0=some (.cells [.int .i64 g,.int .i64 r0,.int .i64 r1,tv,rv,uv] false):=by subst hX;simp only[zI,seval]
 have g1:HA.get 1=some (.cells [s.sv,s.pv,s.vv,s.wv,s.tv,s.av] false):=by subst hX;simp only[zI,seval]
 have gn:2<=HA.next:=by subst hX;simp only[zI,seval]
 clear hX;refine bY fun f dQ=>?_;have f2:f 2=.ref 0 0:=by subst dQ;simp only[zB,seval]
 have f3:f 3=.ref 1 0:=by subst dQ;simp only[zB,seval]
 clear dQ;refine bQ ?_;simp only[↓zP,zJ,seval,f2,g0,lt];refine bR ?_;refine aJ fun K hK=>?_;generalize eC:((s.st.length:Int) != (ts.length:Nat))=b1 at *;generalize fV:((s.ps.length:Int) != (ts.length:Nat))=b2 at *;generalize CA:((s.vs.length:Int) != (ts.length:Nat))=b3 at *;generalize GD:((s.ws.length:Int) != (ts.length:Nat))=b4 at *;generalize PL:((s.ta.length:Int) != (rs.length:Nat))=b5 at *;generalize XT:((s.ac.length:Int) != (us.length:Nat))=b6 at *;cases b1;rotate_left
 . simp only[↓zP,zJ,seval,f3,g1,q1,eC];exact ZaQ
 cases b2;rotate_left
 . simp only[↓zP,zJ,seval,f3,g1,q1,q2,eC,fV];exact ZaQ
 cases b3;rotate_left
 . simp only[↓zP,zJ,seval,f3,g1,q1,q2,q3,eC,fV,CA];exact ZaQ
 cases b4;rotate_left
 . simp only[↓zP,zJ,seval,f3,g1,q1,q2,q3,q4,eC,fV,CA,GD];exact ZaQ
 cases b5;rotate_left
 . simp only[↓zP,zJ,seval,f2,f3,g0,g1,lr,q1,q2,q3,q4,q5,eC,fV,CA,GD,PL];exact ZaQ
 cases b6;rotate_left
 . simp only[↓zP,zJ,seval,f2,f3,g0,g1,lr,lu,q1,q2,q3,q4,q5,q6,eC,fV,CA,GD,PL,XT];exact ZaQ
 obtain⟨e1,e2,e3,e4,e5,e6⟩:=hL2 rfl;have ZZ:=ZZ rfl;simp only[↓zP,zJ,seval,f2,f3,g0,g1,lr,lu,q1,q2,q3,q4,q5,q6,eC,fV,CA,GD,PL,XT];apply hK;clear hK K Uf hL2 eC fV CA GD PL XT;refine aJ fun K hK=>?_;refine Tz ?_;refine bP [] (fun i vs H'=>H'=HA/\∀k,k<i->wA ts s k=false) 0 ts.length (Az _) (by omega) (by decide) ?_ ?_ ?_ ?_ ?_
 . exact zq
 . exact⟨rfl,fun k hk=>absurd hk (An _)⟩
 . rintro i f4 H1 h0 hi hk x1 ⟨rfl,_⟩;have u5:f4 5=.int .i64 ts.length:=hk 5 rfl;simp only[↓zP,zG,seval,x1,u5];exact Zaf
 . rintro i f4 H1 h0 gD hk x1 ⟨rfl,bV⟩;have u2:f4 2=.ref 0 0:=by rw[hk 2 rfl];simp only[zB,seval];exact f2
   have u3:f4 3=.ref 1 0:=(by rw[hk 3 rfl];simp only[zB,seval];exact f3);have hi:i<s.ps.length:=(by omega);have xG:i<s.st.length:=(by omega);have DP:i<s.vs.length:=(by omega);have XX:i<s.ws.length:=(by omega);have DS:s.sv=.bB 0 1 (bE s.st):=hs.st.bB (i:=i) (by rw[bT];exact xG);have mN:s.pv=.bB 0 7 (bD s.ps):=hs.ps.bB (i:=i) Zaz;have Lu:s.vv=.bB 0 3 (bD s.vs):=hs.vs.bB (i:=i) (by rw[aO];exact DP);have hwl:s.wv=.bB 0 3 (bD s.ws):=hs.ws.bB (i:=i) (by rw[aO];exact XX);have sJ:tv=.bB 0 14 (nG ts):=mR.bB (i:=i) (by rw[dL];exact gD);have CZ:=qK xG;have Np:=cD hi;have hg3:=cD DP;have Zh:=cD XX;have vJ:=oS gD;obtain⟨p7,p64⟩:=hs.p7 _ (Ac hi);have v3:=(hs.v3 _ (Ac DP)).1;have w3:=(hs.w3 _ (Ac XX)).1;have rO:=ht _ (Ac gD);have jx:=Km p7;have CX:wA ts s i=Ry s.ps[i] ts[i].store s.vs[i] s.ws[i] s.st[i]:=by unfold wA;simp[hi,gD,DP,XX,xG]
   have fQ:wA ts s i=false->∀k,k<i+1->wA ts s k=false:=fun h k hk=>by
    exact Zas
   have eW:=Na (s:=s) (r:=rs.length) (u:=us.length) gD;rw[CX] at fQ eW;have Ph:=Th.len rO;have q7:=rO.store
   have k7:(ts[i].cs.drop 7).take 7=iC ts[i].store:=by have :ts[i].cs.drop 7=iC ts[i].store:=rfl;rw[this,As (by rw[cC,q7];decide)]
   have k7':ts[i].cs.drop 7=iC ts[i].store:=rfl;have Un:(iC ts[i].store).length=7:=(by rw[cC,q7]);generalize ts[i].store=q at *;generalize ts[i]=t at *;generalize s.st[i]=sb at *;generalize s.ps[i]=p at *;generalize s.vs[i]=v at *;generalize s.ws[i]=w at *;have Ta:(iC p).length=7:=(by rw[cC,p7]);have TZ:(iC v).length=3:=(by rw[cC,v3]);have Zl:(iC w).length=3:=(by rw[cC,w3]);have xo:=xO v3;have hz2:=xO w3;have Td:cK [.i,.i,.i,.i,.i,.i,.i] (iC p) (iC q)=some (decide (p=q)):=qL (n:=7) p7 q7;have hwv:=lX (m:=1099511627775) (by decide) v3;have hww:=lX (m:=1099511627775) (by decide) w3;unfold Ry at fQ eW;generalize decide (v=zV)=z1 at *;generalize decide (w=zV)=z2 at *;generalize decide (p=q)=e at *;generalize zA 1099511627775 v=b2 at *;generalize zA 1099511627775 w=b3 at *;refine aL ?_;refine bQ ?_;simp only[↓zP,zJ,seval,x1,u3,g1,mN,aB,aO,hi,Np,oL Ta];refine bZ (jx _) ?_
   cases eC:(gW p != 0) with
   |true=>rw[eC] at eW;simp only[↓zP,zG,seval,eC];refine Rx ?_;rw[eW rfl];rfl
   |false=>
   rw[eC] at eW fQ;simp only[↓zP,zJ,seval,eC,x1,u3,g1,Lu,aB,aO,DP,hg3,oL TZ];refine bZ (hwv _) ?_;cases b2
   . refine Ty ?_;refine Rx ?_;rw[eW (by cases b3<;>rfl)];rfl
   simp only[↓zP,zJ,seval,x1,u3,g1,hwl,aB,aO,XX,Zh,oL Zl];refine bZ (hww _) ?_;cases b3
   . refine Ty ?_;refine Rx ?_;rw[eW rfl];rfl
   refine Ty ?_;refine bR ?_;refine bY fun f dQ=>?_;have v2:=Ks dQ u2;have Rf:=Ks dQ u3;have v6:=Ks dQ x1;clear dQ;refine aJ fun K2 bW=>?_
   have key:∀f:dE,f 2=.ref 0 0->f 3=.ref 1 0->f 6=.int .i64 i->f 7=.bool (z1&&z2)->K2 f [] H1:=by
    intro f v2 Rf v6 v7;apply bW;clear bW K2;refine aJ fun K2 bW=>?_;refine Dz ?_;cases sb;rotate_left
    . simp only[↓zP,zJ,seval,zD,Rf,v6,g1,DS,aB,bT,xG,CZ,gU];exact ZaD
    generalize (z1&&z2)=z at *;cases z
    . simp only[↓zP,zJ,seval,zD,Rf,v6,v7,g1,DS,aB,bT,xG,CZ];apply bW;clear bW K2;refine Tz ?_;refine Rx ?_;rw[eW (by cases e<;>rfl)];rfl
    cases e
    . simp only[↓zP,zJ,seval,zD,v2,Rf,v6,v7,g0,g1,DS,mN,sJ,aB,bT,aO,dL,hi,xG,gD,CZ,Np,vJ,k7',oL Ta,oL Un,Td];exact Zab
    simp only[↓zP,zJ,seval,zD,v2,Rf,v6,v7,g0,g1,DS,mN,sJ,aB,bT,aO,dL,hi,xG,gD,CZ,Np,vJ,k7',oL Ta,oL Un,Td];exact ZaD
   cases z1
   . simp only[↓zP,zJ,seval,Rf,v6,g1,Lu,aB,aO,DP,hg3,oL TZ,xo];exact key _ (by simp only[zB,seval];exact v2) (by simp only[zB,seval];exact Rf) (by simp only[zB,seval];exact v6) rfl
   simp only[↓zP,zJ,seval,Rf,v6,g1,Lu,hwl,aB,aO,DP,XX,hg3,Zh,oL TZ,oL Zl,xo,hz2];exact key _ (by simp only[zB,seval];exact v2) (by simp only[zB,seval];exact Rf) (by simp only[zB,seval];exact v6) rfl
 rintro f4 H1 hk ⟨rfl,bV⟩;refine Tx ?_;apply hK;clear hK K;refine Tz ?_;refine Rx ?_;rw[ZZ fun k hk=>bV k (by omega)];rfl
def yW (k nT nR nP:Int):Option (Int×Int):=if k=1\/k=2 then some (1,nT) else if k=3\/k=4 then some (0,nR -1) else if k=5\/k=6 then some (0,nP -1) else if k=7 then some (0,0) else if k=8 then some (1,10000) else none
def mK (ps:List (List Int)) (i:Nat):Bool:=gW (ps.getD i []) != 0||(decide (0<i)&&decide (ps.getD i []=ps.getD (i -1) []))
def Sw (k:Int):Bool:=k==1||k==2
def Sr (k:Int) (m:Nat):Bool:=if Sw k then decide ((m:Int)<2)||decide ((m:Int)>32) else decide ((m:Int)>0)
def lN (nT nR nP k n:Int) (ps:List (List Int)):Int:=match yW k nT nR nP with
 |none=>1
 |some (lo,hi)=>if decide (n<lo)||decide (n>hi) then 1 else if(List.range ps.length).any (mK ps) then 1 else if Sr k ps.length then 2 else 0
def oC (k n:Int) (pv:AV):List AV:=[.int .i64 k,.int .i64 n,pv]
theorem QK {ps:List (List Int)} (h:∀i,i<ps.length->mK ps i=false):(List.range ps.length).any (mK ps)=false:=by rw[Ct];intro i hi;rw[h i (Au.1 hi)];decide
theorem NB {ps:List (List Int)} {i:Nat} (hi:i<ps.length) (h:mK ps i=true):(List.range ps.length).any (mK ps)=true:=Bw.2 ⟨i,Au.2 hi,h⟩
theorem aDr {g r0 r1:Int} {ts:List Th} {rs us ps:List (List Int)} {tv rv uv pv:AV} {k n:Int} (mR:fI tv 14 (nG ts)) (lR:fI rv 8 (bD rs)) (mS:fI uv 10 (bD us)) (uR:fI pv 7 (bD ps)) (ht:∀t∈ts,t.OK)
 (hp:∀p∈ps,p.length=7/\kX p) (FJ:rs.length<2^62) (ph:us.length<2^62) (mN:ps.length<2^63) (H:aA):
 Sg 32 [.agg (yC g r0 r1 tv rv uv),.agg (oC k n pv)] H (.ret (.int .i64 (lN ts.length rs.length us.length k n ps))) H:=by
 refine So bBe (by simp only[yC,oC,sf,mR.free (fX ht),lR.free (bF _),mS.free (bF _),uR.free (bF _)]) ?_ H;unfold W32;dsimp only;have lt:=mR.len;have lr:=lR.len;have lu:=mS.len;have lp:=uR.len;simp only[dA] at lt lr lu lp;rw[dL] at lt;rw[aO] at lr lu lp;have hwr:IntKind.i64.wrap ((rs.length:Int) -1)=rs.length -1:=wrap_i64 (by omega) (by omega);have hwu:IntKind.i64.wrap ((us.length:Int) -1)=us.length -1:=wrap_i64 (by omega) (by omega);generalize hnT:(ts.length:Int)=nT at *;generalize hnR:(rs.length:Int)=nR at *;generalize hnU:(us.length:Int)=nU at *;refine bQ ?_;simp only[↓zP,zJ,seval,yC,oC];refine bR ?_;generalize hX:((aA.mk 0 .nil).alloc _).alloc _=HA;have g0:HA.get 0=some (.cells [.int .i64 g,.int .i64 r0,.int .i64 r1,tv,rv,uv] false):=by subst hX;simp only[zI,seval]
 have g1:HA.get 1=some (.cells [.int .i64 k,.int .i64 n,pv] false):=by subst hX;simp only[zI,seval]
 have gn:2<=HA.next:=by subst hX;simp only[zI,seval]
 clear hX;refine bY fun f dQ=>?_;have f2:f 2=.ref 0 0:=by subst dQ;simp only[zB,seval]
 have f3:f 3=.ref 1 0:=by subst dQ;simp only[zB,seval]
 clear dQ;refine bQ ?_;refine Tz ?_;refine bR ?_;refine aJ fun K hK=>?_
 have key:∀(f:dE) (lo hi:Int),f 2=.ref 0 0->f 3=.ref 1 0->f 5=.int .i64 lo->f 6=.int .i64 hi->yW k nT nR nU=some (lo,hi)->K f [] HA:=by
  intro f lo hi f2 f3 f5 f6 hlh;apply hK;clear hK K
  have hC:lN nT nR nU k n ps=if decide (n<lo)||decide (n>hi) then 1 else if(List.range ps.length).any (mK ps) then 1 else if Sr k ps.length then 2 else 0:=by unfold lN;rw[hlh]
  rw[hC];clear hC hlh;refine aJ fun K hK=>?_;generalize eC:decide (n<lo)=b1 at *;generalize fV:decide (n>hi)=b2 at *;cases b1;rotate_left
  . simp only[↓zP,zJ,seval,f3,g1,f5,eC];refine Rx ?_;rfl
  cases b2;rotate_left
  . simp only[↓zP,zJ,seval,f3,g1,f5,f6,eC,fV];refine Rx ?_;rfl
  simp only[↓zP,zJ,seval,f3,g1,f5,f6,eC,fV];apply hK;clear hK K eC fV f5 f6;rw[show(false||false)=false from rfl,if_neg (by decide)];refine aJ fun K hK=>?_;refine bQ ?_;simp only[↓zP,zJ,seval,f3,g1,lp];refine bR ?_;refine dD [] (fun i vs H'=>H'.get 1=some (.cells [.int .i64 k,.int .i64 n,pv] false)/\2<=H'.next/\∀j,j<i->mK ps j=false) ps.length (by omega) (by decide) ?_ ?_ ?_ ?_ ?_
  . exact zq
  . exact zq
  . exact⟨g1,gn,fun j hj=>absurd hj (An _)⟩
  . rintro i f4 H1 hi hk e1 ⟨m1,mn,bV⟩;have u3:f4 3=.ref 1 0:=by rw[hk 3 rfl];simp only[zB,seval];exact f3
    have mN:pv=.bB 0 7 (bD ps):=uR.bB (i:=i) Zaz;have u47:f4 47=.bB 0 7 (bD ps):=(by rw[hk 47 rfl];simp only[zB,seval];exact mN);have hg:=cD hi;have hg':0<i->(bD ps).getD (i -1) []=iC ps[i -1]:=fun _=>cD (by omega);obtain⟨h7,SL⟩:=hp _ (Ac hi);have jx:=VU h7 SL
    have fQ:mK ps i=false->∀j,j<i+1->mK ps j=false:=fun h j hj=>by
     by_cases e:j=i
     . subst e;exact h
     exact bV j (by omega)
    have eW:mK ps i=true->(if(List.range ps.length).any (mK ps)=true then(1:Int) else if Sr k ps.length=true then 2 else 0)=1:=fun h=>if_pos (NB hi h);have CX:mK ps i=(gW ps[i] != 0||(decide (0<i)&&decide (ps[i]=ps.getD (i -1) []))):=(by unfold mK;rw[show ps.getD i []=ps[i] from by simp[hi]]);have HR:0<i->ps.getD (i -1) []=ps[i -1]:=fun h0=>by simp[show i -1<ps.length from by omega]
    have h7':0<i->ps[i -1].length=7:=fun _=>(hp _ (Ac (by omega))).1;have Ta:(iC ps[i]).length=7:=(by rw[cC,h7]);rw[CX] at fQ eW;refine aL ?_;refine bQ ?_;simp only[↓zP,zJ,seval,e1,u47,aB,aO,hi,hg,oL Ta];refine bR ?_;generalize hX:(H1.alloc _).set H1.next _=H3;have w1:H3.get 1=some (.cells [.int .i64 k,.int .i64 n,pv] false):=(by subst hX;rw[aA.aD,if_neg (by omega),aA.aG,if_neg (by omega)];exact m1);have w8:H3.get H1.next=some (.cells (iC ps[i]) false):=Zal;have wn:2<=H3.next:=Zay;clear hX;generalize H1.next=r8 at *;refine aJ fun K2 bW=>?_;refine Dz ?_;simp only[↓zP,zJ,seval,zD,w8,oL Ta];refine fH (jx _) ?_
    cases eC:(gW ps[i] != 0) with
    |true=>rw[eC] at eW;simp only[↓zP,zJ,seval,zD,eC,gU];apply bW;clear bW K2;refine Tz ?_;refine Rx ?_;rw[eW rfl];rfl
    |false=>
     rw[eC] at eW fQ;by_cases h0:0<i
     . have d0:=Aj (show(i:Int)>0 by omega);have hwi:IntKind.i64.wrap ((i:Int) -1)=((i -1:Nat):Int):=wI (by omega);have xG:i -1<ps.length:=(by omega);have XV:cK [.i,.i,.i,.i,.i,.i,.i] (iC ps[i]) (iC ps[i -1])=some (decide (ps[i]=ps[i -1])):=qL (n:=7) h7 (h7' h0);have aRx:(iC ps[i -1]).length=7:=(by rw[cC,h7' h0]);rw[Aj h0,HR h0] at eW fQ;simp only[↓zP,zJ,seval,zD,eC,d0,u3,w1,w8,mN,hwi,aB,aO,xG,hg' h0,oL Ta,oL aRx,XV];apply bW;clear bW K2
       cases fV:decide (ps[i]=ps[i -1]) with
       |true=>rw[fV] at eW;refine Tz ?_;refine Rx ?_;rw[eW rfl];rfl
       |false=>rw[fV] at fQ;refine Tz ?_;exact⟨w1,wn,fQ rfl⟩
     have d0:=Ag (show ¬(i:Int)>0 by omega);rw[Ag h0] at fQ;simp only[↓zP,zJ,seval,zD,eC,d0];apply bW;clear bW K2;refine Tz ?_;exact⟨w1,wn,fQ rfl⟩
  rintro f4 H1 hk ⟨m1,mn,bV⟩;have u3:f4 3=.ref 1 0:=by rw[hk 3 rfl];simp only[zB,seval];exact f3
  have hA:(if(List.range ps.length).any (mK ps)=true then(1:Int) else if Sr k ps.length=true then 2 else 0)=if Sr k ps.length=true then 2 else 0:=by rw[QK bV,if_neg (by decide)]
  refine Tx ?_;apply hK;clear hK K;clear hk bV
  have hB:Sr k ps.length=if Sw k then decide ((ps.length:Int)<2)||decide ((ps.length:Int)>32) else decide ((ps.length:Int)>0):=rfl
  have Zm:Sw k=(k==1||k==2):=rfl;refine aJ fun K hK=>?_
  have bCt:∀f:dE,f 3=.ref 1 0->f 9=.bool (Sw k)->K f [] H1:=by
   intro f f3 f9;apply hK;clear hK K Zm;generalize Sw k=mv at *;generalize SO:decide ((ps.length:Int)<2)=c1 at *;generalize AM:decide ((ps.length:Int)>32)=c2 at *;generalize hc3:decide ((ps.length:Int)>0)=c3 at *;cases mv
   . cases c3
     . simp only[↓zP,zJ,seval,f3,f9,m1,lp,hc3,gU];refine Rx ?_;rw[hA,hB];rfl
     simp only[↓zP,zJ,seval,f3,f9,m1,lp,hc3,gU];refine Rx ?_;rw[hA,hB];rfl
   cases c1<;>cases c2<;>
   . simp only[↓zP,zJ,seval,f3,f9,m1,lp,SO,AM,gU];refine Rx ?_;rw[hA,hB];rfl
  rw[Zm] at bCt;generalize JO:(k==1)=q1 at *;generalize SV:(k==2)=q2 at *;cases q1<;>cases q2<;>
  . simp only[↓zP,zJ,seval,u3,m1,JO,SV];exact bCt _ (by simp only[zB,seval];exact u3) rfl
 have hK8:∀j:Int,(k==j)=true->k=j:=fun j h=>Ca.1 h;have hN8:∀j:Int,(k==j)=false->k≠j:=fun j h=>Bl.1 h;generalize JO:(k==1)=q1 at *;generalize SV:(k==2)=q2 at *;generalize xh:(k==3)=q3 at *;generalize hq4:(k==4)=q4 at *;generalize hq5:(k==5)=q5 at *;generalize hq6:(k==6)=q6 at *;generalize xi:(k==7)=q7 at *;generalize hq8:(k==8)=q8 at *;simp only[↓zP,zJ,seval,f3,g1];refine aL ?_;cases q1;rotate_left
 . simp only[↓zP,zG,seval,JO];refine Dz ?_;simp only[↓zP,zJ,seval,zD,f2,g0,lt];exact key _ 1 nT ZaI ZaH zq zq (by rw[hK8 1 JO];rfl)
 cases q2;rotate_left
 . simp only[↓zP,zG,seval,JO,SV];refine Dz ?_;simp only[↓zP,zJ,seval,zD,f2,g0,lt];exact key _ 1 nT ZaI ZaH zq zq (by rw[hK8 2 SV];rfl)
 cases q3;rotate_left
 . simp only[↓zP,zJ,seval,f2,g0,lr,hwr,JO,SV,xh];exact key _ 0 (nR -1) ZaI ZaH zq zq (by rw[hK8 3 xh];rfl)
 cases q4;rotate_left
 . simp only[↓zP,zJ,seval,f2,g0,lr,hwr,JO,SV,xh,hq4];exact key _ 0 (nR -1) ZaI ZaH zq zq (by rw[hK8 4 hq4];rfl)
 cases q5;rotate_left
 . simp only[↓zP,zJ,seval,f2,g0,lu,hwu,JO,SV,xh,hq4,hq5];exact key _ 0 (nU -1) ZaI ZaH zq zq (by rw[hK8 5 hq5];rfl)
 cases q6;rotate_left
 . simp only[↓zP,zJ,seval,f2,g0,lu,hwu,JO,SV,xh,hq4,hq5,hq6];exact key _ 0 (nU -1) ZaI ZaH zq zq (by rw[hK8 6 hq6];rfl)
 cases q7;rotate_left
 . simp only[↓zP,zG,seval,JO,SV,xh,hq4,hq5,hq6,xi];exact key _ 0 0 ZaI ZaH zq zq (by rw[hK8 7 xi];rfl)
 cases q8;rotate_left
 . simp only[↓zP,zG,seval,JO,SV,xh,hq4,hq5,hq6,xi,hq8];exact key _ 1 10000 ZaI ZaH zq zq (by rw[hK8 8 hq8];rfl)
 simp only[↓zP,zG,seval,JO,SV,xh,hq4,hq5,hq6,xi,hq8];refine Rx ?_
 have :yW k nT nR nU=none:=by have h1:=hN8 1 JO;have h2:=hN8 2 SV;have h3:=hN8 3 xh;have h4:=hN8 4 hq4;have h5:=hN8 5 hq5;have h6:=hN8 6 hq6;have h7:=hN8 7 xi;have h8:=hN8 8 hq8;unfold yW;rw[if_neg (by omega),if_neg (by omega),if_neg (by omega),if_neg h7,if_neg h8]
 unfold lN;rw[this];rfl
end Go.Proofs.YtgggiembljfnhaaGreatDoor
namespace Go.Proofs.YtgggiembljfnhaaGreatDoor
open Go Go.Av Go.aP
open Go.ChangeShapes Go.WideShapes Go.ChangeAt Go.RowKit
section
theorem fI.aTe {v:AV} {sz:Nat} {aY:List (List AV)} (h:fI v sz aY):v.one=true:=by rcases h with ⟨rfl,_⟩|rfl<;>rfl
section
variable {H:Type} {enc:TypeId×Value->H} {W:World} {base:Nat} {hd:Bool}
theorem kl {c:Array Value} {m:Nat} {y:DataW H×List MemPlace} (mo:Bool) (hl:c.toList.length=6) (h:DataW.trod enc Tryz.prog W base (fun _=>true) hd m 27 c.toList=some y):
 ∃(g r0 r1:Int) (tv rv uv:AV) (ts:List Th) (rs us:List (List Int)),fI tv 14 (nG ts)/\fI rv 8 (bD rs)/\fI uv 10 (bD us)/\(∀t∈ts,t.OK)/\(∀r∈rs,r.length=8/\kX r)/\(∀r∈us,r.length=10/\kX r)/\
  VR (mL mo W) W (.agg (yC g r0 r1 tv rv uv)) (.agg c):=by
 have R:=mJ 8 (ts:=[3,3,3,23,24,25]) (by kernel_rfl) h;obtain⟨u3,m3,y3,e3,t3⟩:=R 3 23 rfl;obtain⟨u4,m4,y4,e4,t4⟩:=R 4 24 rfl;obtain⟨u5,m5,y5,e5,t5⟩:=R 5 25 rfl;obtain⟨tv,ts,mR,ht,vt⟩:=VO mo t3;obtain⟨rv,rs,lR,hr,vr,_⟩:=sV (n:=8) mo Tryz.underlying24 (by kernel_rfl) (by kernel_rfl) (by decide) t4;obtain⟨uv,us,mS,hu,vu,_⟩:=sV (n:=10) mo Tryz.underlying25 (by kernel_rfl) (by kernel_rfl) (by decide) t5;refine⟨MS (c.toList.getD 0 undef),MS (c.toList.getD 1 undef),MS (c.toList.getD 2 undef),tv,rv,uv,ts,rs,us,mR,lR,mS,ht,hr,hu,.agg _ c.toList hl ?_ ?_⟩
 . intro c hc;simp only[yC,Am,Bg,Dd] at hc
   rcases hc with rfl|rfl|rfl|rfl|rfl|rfl<;>first|rfl|exact fI.aTe (by assumption)
 intro j hj
 exact match j,hj with
 |0,_=>oI (fA R (i:=0) (u:=3) rfl Tryz.underlying3)
 |1,_=>oI (fA R (i:=1) (u:=3) rfl Tryz.underlying3)
 |2,_=>oI (fA R (i:=2) (u:=3) rfl Tryz.underlying3)
 |3,_=>by rw[show c.toList.getD 3 undef=u3 from by rw[List.getD,e3];rfl];exact vt
 |4,_=>by rw[show c.toList.getD 4 undef=u4 from by rw[List.getD,e4];rfl];exact vr
 |5,_=>by rw[show c.toList.getD 5 undef=u5 from by rw[List.getD,e5];rfl];exact vu
 |n+6,h=>absurd h (by simp only[yC,Aq,Bm];omega)
structure qu where
 k:Int
 n:Int
 pv:AV
 ps:List (List Int)
instance:Inhabited qu:=⟨⟨0,0,.aR,[]⟩⟩
def qu.cs (o:qu):List AV:=oC o.k o.n o.pv
structure qu.OK (o:qu):Prop where
 k:JJ o.k
 n:JJ o.n
 pv:fI o.pv 7 (bD o.ps)
 p7:∀p∈o.ps,p.length=7/\kX p
 len:o.ps.length<2^63
theorem zl {cs:List Value} {m:Nat} {y:DataW H×List MemPlace} (mo:Bool) (h:DataW.trod enc Tryz.prog W base (fun _=>true) hd m 34 cs=some y):
 ∃o:qu,o.OK/\∀j,j<3->VR (mL mo W) W (o.cs.getD j aC) (cs.getD j undef):=by
 have R:=mJ 8 (ts:=[3,3,29]) (by kernel_rfl) h;obtain⟨u2,m2,y2,e2,t2⟩:=R 2 29 rfl;obtain⟨pv,ps,uR,hp,vp,_,hl⟩:=sV (n:=7) mo Tryz.underlying29 (by kernel_rfl) (by kernel_rfl) (by decide) t2;have i0:=fA R (i:=0) (u:=3) rfl Tryz.underlying3;have i1:=fA R (i:=1) (u:=3) rfl Tryz.underlying3;refine⟨⟨MS (cs.getD 0 undef),MS (cs.getD 1 undef),pv,ps⟩,⟨Xh i0,Xh i1,uR,hp,hl⟩,fun j hj=>?_⟩
 exact match j,hj with
  |0,_=>oI i0
  |1,_=>oI i1
  |2,_=>by rw[show cs.getD 2 undef=u2 from by rw[List.getD,e2];rfl];exact vp
  |n+3,h=>absurd h (by omega)
theorem qu.bIa {o:qu} (h:o.OK):∀c∈o.cs,c.one=true:=by
 intro c hc;simp only[qu.cs,oC,Am,Bg,Dd] at hc
 rcases hc with rfl|rfl|rfl<;>first|rfl|exact fI.aTe h.pv
theorem aGj {c:Array Value} {m:Nat} {y:DataW H×List MemPlace} (mo:Bool) (hl:c.toList.length=3) (h:DataW.trod enc Tryz.prog W base (fun _=>true) hd m 34 c.toList=some y):
 ∃o:qu,o.OK/\VR (mL mo W) W (.agg o.cs) (.agg c):=by
 obtain⟨o,ho,hv⟩:=zl mo h;exact⟨o,ho,.agg _ c.toList hl (qu.bIa ho) hv⟩
theorem Xy {c:Array Value} {m:Nat} {y:DataW H×List MemPlace} (mo:Bool) (hl:c.toList.length=6) (h:DataW.trod enc Tryz.prog W base (fun _=>true) hd m 32 c.toList=some y):
 ∃s:Sc,s.OK1/\(s.st.length<2^63/\s.ps.length<2^63/\s.vs.length<2^63/\s.ws.length<2^63/\s.ta.length<2^63/\s.ac.length<2^63)/\VR (mL mo W) W (.agg s.cs) (.agg c):=by
 have R:=mJ 8 (ts:=[28,29,30,30,28,28]) (by kernel_rfl) h;obtain⟨a0,_,_,q0,r0⟩:=R 0 28 rfl;obtain⟨a1,_,_,q1,r1⟩:=R 1 29 rfl;obtain⟨a2,_,_,q2,r2⟩:=R 2 30 rfl;obtain⟨a3,_,_,q3,r3⟩:=R 3 30 rfl;obtain⟨a4,_,_,q4,r4⟩:=R 4 28 rfl;obtain⟨a5,_,_,q5,r5⟩:=R 5 28 rfl;obtain⟨sv,st,x0,y0,_,j0⟩:=FP mo r0;obtain⟨sp,sps,x1,k1,y1,_,j1⟩:=sV (n:=7) mo Tryz.underlying29 (by kernel_rfl) (by kernel_rfl) (by decide) r1;obtain⟨vv,vs,x2,k2,y2,_,j2⟩:=sV (n:=3) mo Tryz.underlying30 (by kernel_rfl) (by kernel_rfl) (by decide) r2;obtain⟨wv,ws,x3,k3,y3,_,j3⟩:=sV (n:=3) mo Tryz.underlying30 (by kernel_rfl) (by kernel_rfl) (by decide) r3;obtain⟨av,ta,x4,y4,_,j4⟩:=FP mo r4;obtain⟨cv,ac,x5,y5,_,j5⟩:=FP mo r5;refine⟨⟨sv,sp,vv,wv,av,cv,st,sps,vs,ws,ta,ac⟩,⟨x0,x1,x2,x3,x4,x5,k1,k2,k3⟩,⟨j0,j1,j2,j3,j4,j5⟩,.agg _ c.toList hl ?_ ?_⟩
 . intro c hc;simp only[Sc.cs,Am,Bg,Dd] at hc
   rcases hc with rfl|rfl|rfl|rfl|rfl|rfl<;>exact fI.aTe (by assumption)
 intro j hj
 exact match j,hj with
 |0,_=>by rw[show c.toList.getD 0 undef=a0 from by rw[List.getD,q0];rfl];exact y0
 |1,_=>by rw[show c.toList.getD 1 undef=a1 from by rw[List.getD,q1];rfl];exact y1
 |2,_=>by rw[show c.toList.getD 2 undef=a2 from by rw[List.getD,q2];rfl];exact y2
 |3,_=>by rw[show c.toList.getD 3 undef=a3 from by rw[List.getD,q3];rfl];exact y3
 |4,_=>by rw[show c.toList.getD 4 undef=a4 from by rw[List.getD,q4];rfl];exact y4
 |5,_=>by rw[show c.toList.getD 5 undef=a5 from by rw[List.getD,q5];rfl];exact y5
 |n+6,h=>absurd h (by simp only[Sc.cs,Aq,Bm];omega)
end
end
end Go.Proofs.YtgggiembljfnhaaGreatDoor
