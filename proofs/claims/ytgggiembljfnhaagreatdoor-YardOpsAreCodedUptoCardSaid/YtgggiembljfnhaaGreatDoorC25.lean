/-
  Part of the proof of statement 14
-/
import Derived.Test.YtgggiembljfnhaaGreatDoorC23
import Derived.Test.YtgggiembljfnhaaGreatDoorC18
import Derived.Test.YtgggiembljfnhaaGreatDoorC24
import Derived.Test.YtgggiembljfnhaaGreatDoorC17
import Derived.Test.YtgggiembljfnhaaGreatDoorC16
import Derived.Test.YtgggiembljfnhaaGreatDoorC06
import Derived.Test.YtgggiembljfnhaaGreatDoorC05
import Derived.Test.YtgggiembljfnhaaGreatDoorC07
import Derived.Test.YtgggiembljfnhaaGreatDoorC21
import Derived.Test.YtgggiembljfnhaaGreatDoorC22
import Derived.Test.YtgggiembljfnhaaGreatDoorC15
import Derived.Test.YtgggiembljfnhaaGreatDoorC19
import Derived.Test.YtgggiembljfnhaaGreatDoorRows
set_option linter.unusedVariables false
set_option linter.unusedSimpArgs false
set_option maxRecDepth 100000
set_option maxHeartbeats 16000000
namespace Go.Proofs.YtgggiembljfnhaaGreatDoor
open Go Go.Av Go.aY
attribute [local congr] aP aJ aK aH aU aM aL aD
attribute [local irreducible] FC bM dX
theorem XC {t1 t2:Nat} (h1:Nat.blt t1 2=true) (h2:Nat.blt t2 2=true) {a b:List aY.V} (ha:a.length<2^30) (hb:b.length<2^30) (H:aA):
 Sound Tryz.prog gv 123 [.bH t1 3 (gL a),.bH t2 3 (gL b)] H (.ret (.bool (decide (a=b)))) H:=by
 refine So aEw (by simp only[sf,kU h1,kU h2]) ?_ H;unfold uz;dsimp only;refine aB fun K hK=>?_;simp only[↓zP,zG,seval];apply hK;clear hK K;refine aB fun K hK=>?_;by_cases hl:a.length=b.length
 . have hn:((a.length:Int) != (b.length:Int))=false:=by simp[hl]
   simp only[↓zP,zG,seval,zI,bY,hn];apply hK;clear hK K;refine aB fun K hK=>?_;refine aB fun K2 bO=>?_;simp only[↓zP,zG,seval,zI];apply bO;clear bO K2;refine bV [] (fun i vs H=>a.take i=b.take i) a.length (by omega) (by decide) ?_ ?_ ?_ ?_ ?_
   . simp only[zB,seval]
   . simp only[zB,seval,bY]
   . rfl
   . rintro i f H1 hi hk e1 Qx;have hib:i<b.length:=(by omega);have ga:=hU hi;have gb:=hU hib;refine aS ?_;refine aB fun K2 bO=>?_;simp only[↓zP,zG,seval,e1];apply bO;clear bO K2;refine aB fun K2 bO=>?_;refine bK (by decide) ?_;simp only[↓zP,zG,seval,zD,reduceCtorEq,zI,hk 0 rfl,hk 1 rfl,aQ,bY,hi,hib,ga,gb,oL (bR a[i]),oL (bR b[i]),JP];apply bO;clear bO K2;by_cases he:a[i]=b[i]
     . have SC:(!decide (a[i]=b[i]))=false:=(by simp[he]);simp only[↓zP,zG,seval,SC];rw[Bv,Bv,Qx,Ac hi,Ac hib,he]
     have SC:(!decide (a[i]=b[i]))=true:=(by simp[he]);simp only[↓zP,zG,seval,SC];refine Rx ?_;rw[As]
     . rfl
     rintro rfl;exact he rfl
   rintro f H1 hk Qx;rw[Bm,hl,Bm] at Qx;simp only[↓zP,seval];apply hK;simp only[↓zP,zG,seval];refine Rx ?_;rw[Bk Qx];rfl
 have hn:((a.length:Int) != (b.length:Int))=true:=by simp;omega
 simp only[↓zP,zG,seval,zI,bY,hn];refine Rx ?_;rw[As]
 . rfl
 rintro rfl;exact hl rfl
theorem Kc (H:aA):Sound Tryz.prog gv 155 [.aF] H (.ret .aF) H:=by
 refine fV fit dZ rn (Ae rfl) (by simp only[sf]) ?_ H;unfold cj;dsimp only;refine aB fun K hK=>?_;simp only[↓zP,zG,seval];apply hK;clear hK K;refine aB fun K hK=>?_;simp only[↓zP,zG,seval,zI];apply hK;clear hK K;refine aB fun K hK=>?_;refine aB fun K2 bO=>?_;simp only[↓zP,zG,seval,zI];apply bO;clear bO K2;refine bV [] (fun i _ H=>H.get 0=some (.map [])/\1<=H.next) 0 (by decide) (by decide) ?_ ?_ ?_ ?_ ?_
 . simp only[zB,seval]
 . simp only[zB,seval]
 . exact⟨rfl,Ai _⟩
 . rintro i f H hi;exact absurd hi (Bh _)
 rintro f H hk ⟨hmp,xT⟩;simp only[↓zP,seval];apply hK;clear hK K;refine aB fun K hK=>?_;simp only[↓zP,zG,seval];apply hK;clear hK K;refine aB fun K hK=>?_;refine aB fun K2 bO=>?_;simp only[↓zP,zG,seval,hk 3 rfl];refine FE (by decide) (by simp only[↓zP,seval]) hmp fun bs c mb To hbn=>?_;simp only[↓zP,seval];apply bO;clear bO K2;obtain rfl:bs=[]:=Da To;generalize hit:H.next=it at *;refine aS ?_;refine jI [10] (fun m vs H'=>vs=[.aF]/\H'.get it=some (.iter 0 mb c [])/\H'.get 0=some (.pQ [] [] c mb)) 0 (by rfl) ?_ ?_
 . refine⟨by simp only[sm,zB,seval],by simp only[seval,zI,hit],?_⟩;simp only[seval,zI,hit];rw[if_neg (by omega)]
 rintro m f2 H2 kP ⟨hv,gi,g0⟩;simp only[sm,Am,Bs] at hv;refine aB fun K2 bO=>?_;simp only[↓zP,seval];refine IM (by decide) (by simp only[↓zP,seval,kP 73 rfl]) gi g0 (fun nQ=>?_) fun j hj hnj=>absurd hj (Bh _);simp only[↓zP,zG,seval];apply bO;clear bO K2;simp only[↓zP,zG,seval];apply hK;clear hK K;simp only[↓zP,zG,seval,hv];refine cT (mM Tryz.ZZ rfl Ns 209 _) ?_;simp only[↓zP,zG,seval,hv];refine Rx ?_;exact⟨_,0,rfl,fun nw=>rfl⟩
theorem YD (b:Bool) (A B:Prop):gS aC b A B=B:=dB id id
theorem PC (x:Int):vF x 0=uL x:=by unfold vF uL;split<;>(try split)<;>omega
theorem US (x:Int):(uL x).natAbs<=1:=by unfold uL;split<;>(try split)<;>decide
theorem mf (n c:aY.V) {i:Nat} (hi:i<3) (h0:∀k,k<i->n.at k=0) (h:n.at i≠0):aY.wN n c=uL (c.at i)*uL (n.at i):=by
 unfold aY.wN
 match i,hi with
 |0,_=>rw[if_pos (show n.x≠0 from h)];rfl
 |1,_=>rw[if_neg (show ¬n.x≠0 from fun e=>e (h0 0 (by decide))),if_pos (show n.y≠0 from h)];rfl
 |2,_=>rw[if_neg (show ¬n.x≠0 from fun e=>e (h0 0 (by decide))),if_neg (show ¬n.y≠0 from fun e=>e (h0 1 (by decide))),if_pos (show n.z≠0 from h)];rfl
theorem Wf (n c:aY.V) (h0:∀k,k<3->n.at k=0):aY.wN n c=0:=by unfold aY.wN;rw[if_neg (show ¬n.x≠0 from fun e=>e (h0 0 (by decide))),if_neg (show ¬n.y≠0 from fun e=>e (h0 1 (by decide))),if_neg (show ¬n.z≠0 from fun e=>e (h0 2 (by decide)))]
theorem mh {a b:aY.V} {A B:Nat} (n:aY.V) (ha:fI A a) (hb:fI B b) (hs:A*B<2^61) (H:aA):
 Sound Tryz.prog gv 213 [.agg (iB n),.agg (iB a),.agg (iB b)] H (.ret (.int .i64 (aY.wN n (aY.aV a b)))) H:=by
 refine So aGo (by simp only[sf,gZ]) ?_ H;unfold xm;dsimp only;refine aB fun K hK=>?_;simp only[↓zP,zG,seval,zI];apply hK;clear hK K;refine aB fun K hK=>?_;simp only[↓zP,zG,seval,zI,oL (bR a),oL (bR b)];refine cT (MN ha hb hs _) ?_;generalize hc:aY.aV a b=c;simp only[↓zP,zG,seval,zI,oL (bR c)];apply hK;clear hK K;refine aB fun K hK=>?_;refine aB fun K2 bO=>?_;simp only[↓zP,zG,seval,zI,oL (bR n)];apply bO;clear bO K2;refine lE [] (fun i _ H=>(∀k,k<i->n.at k=0)/\H.get 3=some (.cells (iB c) false)) 3 (by decide) rfl (by decide) ?_ ?_ ?_ ?_
 . simp only[zB,seval]
 . refine⟨fun k hk=>absurd hk (Bh _),?_⟩;simp only[zI,seval]
 . rintro i f H hi hk e1 ⟨h0,g3⟩;refine aS ?_;have gp:i<=2:=by omega
   have hi3:i+1<=3:=hi;by_cases hz:n.at i=0
   . have hb:(n.at i != 0)=false:=(by simp[hz]);simp only[↓zP,zG,seval,zI,e1,hk 13 rfl,aQ,tT n hi,bR,g3,hi,hi3,hb];refine⟨fun k hk=>?_,trivial⟩;by_cases hki:k=i
     . subst hki;exact hz
     exact h0 k (by omega)
   have hb:(n.at i != 0)=true:=(by simp[hz]);simp only[↓zP,zG,seval,zI,e1,hk 13 rfl,hk 7 rfl,aQ,tT n hi,bR,g3,hi,hi3,tT c hi,hb];refine cT (jH (c.at i) 0 _) ?_;simp only[↓zP,zG,seval];refine cT (jH (n.at i) 0 _) ?_;rw[PC,PC]
   have w:IntKind.i64.wrap (uL (c.at i)*uL (n.at i))=uL (c.at i)*uL (n.at i):=kG (B:=1*1) (by rw[Int.natAbs_mul];exact Ch (US _) (US _)) (by decide)
   simp only[↓zP,zG,seval,w];refine Rx ?_;rw[hc,mf n c hi h0 hz];rfl
 rintro f H hk ⟨h0,g3⟩;simp only[↓zP,seval];apply hK;simp only[↓zP,zG,seval];refine Rx ?_;rw[hc,Wf n c h0];rfl
def KQ (on:List Nat):List (List AV):=on.map fun(k:Nat)=>[AV.int .i64 (k:Int)]
theorem nS (on:List Nat):(KQ on).length=on.length:=by simp[KQ]
theorem QK {on:List Nat} {i:Nat} (h:i<on.length):(KQ on).getD i []=[AV.int .i64 (on[i]:Int)]:=sP h
def bI:Option Nat->Int
 |none=> -1
 |some k=>k
structure bx (H H':aA):Prop where
 free:eN H'
 le:H.next<=H'.next
 same:∀j,j<H.next->H'.get j=H.get j
theorem ME {n:aY.V} {p:Nat->aY.V} {a:Nat} {on:List Nat}:∀(l:List Nat) (tE:Option Nat) {b:Nat},l.foldl (eY n p a) tE=some b->(∀k∈l,k∈on)->(∀c,tE=some c->c∈on)->b∈on
 |[],tE,b,h,_,hb=>hb b h
 |k::l,tE,b,h,hl,hb=>by
  refine ME l _ h (fun x hx=>hl x (Ao _ hx)) fun c hc=>?_;have hk:=hl k Aq;unfold eY at hc;split at hc
  . exact hb c hc
  split at hc
  . cases hc;exact hk
  split at hc
  . cases hc;exact hk
  cases hc;exact hb _ rfl
theorem Ym {n:aY.V} {p:Nat->aY.V} {a:Nat} {on l:List Nat} {b:Nat} (h:l.foldl (eY n p a) none=some b) (hl:∀k∈l,k∈on):b∈on:=
 ME l none h hl fun c hc=>by cases hc
theorem UJ {tag t1:Nat} {o1 o2 o3:Bool} {l:List aY.V} {M:Nat} (hl:∀v∈l,fI M v) (hM:M<=2^18) (hlen:l.length<=64) {on:List Nat} (hon:∀k∈on,k<l.length) (hol:on.length<=64) {a:Nat} (ha:a<l.length) (q:aY.V×Int)
 {H:aA} (hf:eN H) {i1 i2 i3:Nat} (b1:i1<H.next) (b2:i2<H.next) (b3:i3<H.next) (g1:H.get i1=some (.cells [.bH t1 1 (KQ on)] o1)) (g2:H.get i2=some (.cells [.bH tag 3 (gL l)] o2)) (g3:H.get i3=some (.cells (iV q) o3)):
 ∃H',bx H H'/\Sound Tryz.prog gv 211 [.int .i64 a,.ref i1 0,.ref i2 0,.ref i3 0] H (.ret (.int .i64 (bI (GC q.1 (fun i=>l.getD i V0) on a)))) H':=by
 suffices h:∃out H',(out=.ret (.int .i64 (bI (GC q.1 (fun i=>l.getD i V0) on a)))/\bx H H')/\Sound Tryz.prog gv 211 [.int .i64 a,.ref i1 0,.ref i2 0,.ref i3 0] H out H' by obtain⟨_,H',⟨rfl,hm⟩,hS⟩:=h;exact⟨H',hm,hS⟩
 refine bL fit aGm (Ae rfl) ?_;unfold xk;dsimp only;have cJ:∀k (h:k<l.length),l.getD k V0=l[k]:=fun k h=>by simp[List.getD,h]
 refine aB fun K hK=>?_;simp only[↓zP,zG,seval];apply hK;clear hK K;refine aB fun K hK=>?_;simp only[↓zP,zG,seval];apply hK;clear hK K;refine aB fun K hK=>?_;refine aB fun K2 bO=>?_;simp only[↓zP,zG,seval,zI,g1];apply bO;clear bO K2;refine bV [6] (fun i vs H'=>vs=[.int .i64 (bI ((on.take i).foldl (eY q.1 (fun i=>l.getD i V0) a) none))]/\bx H H') on.length (by omega) (by decide) ?_ ?_ ?_ ?_ ?_
 . simp only[zB,seval]
 . simp only[zB,seval,nS]
 . exact⟨by simp only[sm,zB,seval];rfl,hf,Ai _,fun j hj=>rfl⟩
 . rintro i f H1 hi hk e1 ⟨hv,hm⟩;simp only[sm,Am,Bs] at hv
   have eP:(on.take (i+1)).foldl (eY q.1 (fun i=>l.getD i V0) a) none=eY q.1 (fun i=>l.getD i V0) a ((on.take i).foldl (eY q.1 (fun i=>l.getD i V0) a) none) on[i]:=by rw[Bv,List.foldl_append];simp[hi]
   have aDj:∀b,(on.take i).foldl (eY q.1 (fun i=>l.getD i V0) a) none=some b->b<l.length:=fun b hb=>hon b (Ym hb (fun k hk=>Bf hk));have hg:=QK hi;have Pc:=hon _ (Ap hi);generalize on[i]=k at *;generalize (on.take i).foldl (eY q.1 (fun i=>l.getD i V0) a) none=tE at *;refine aS ?_;refine aB fun K2 bO=>?_;simp only[↓zP,zG,seval,zI,e1,hk 12 rfl,aQ,nS,hi,hg];apply bO;clear bO K2;refine aB fun K2 bO=>?_;simp only[↓zP,zG,seval,zI,hk 0 rfl];rw[eP];by_cases LD:k=a
   . have hb:((k:Int)==(a:Int))=true:=(by simp[LD]);have hn:eY q.1 (fun i=>l.getD i V0) a tE k=tE:=if_pos LD;simp only[zG,seval,hb,hn,hv];exact⟨trivial,hm⟩
   have hb:((k:Int)==(a:Int))=false:=(by simp;omega);simp only[zG,seval,hb];apply bO;clear bO K2;refine aB fun K2 bO=>?_
   cases tE with
   |none=>have hn:eY q.1 (fun i=>l.getD i V0) a none k=some k:=if_neg LD;have hd:decide (bI none<0)=true:=rfl;simp only[↓zP,zG,seval,hv,hd];rw[eP,hn];exact⟨by simp only[sm,zB,seval];rfl,hm⟩
   |some b=>
    have hn:eY q.1 (fun i=>l.getD i V0) a (some b) k=if better q.1 (fun i=>l.getD i V0) a b k then some k else some b:=if_neg LD
    have hd:decide (bI (some b)<0)=false:=As (show ¬((b:Int)<0) by omega);have To:=aDj b rfl;have OS:bI (some b)=(b:Int):=rfl;simp only[↓zP,zG,seval,hv,hd];apply bO;clear bO K2;have gk:=hU Pc;have gb:=hU To;have ga:=hU ha;refine aB fun K2 bO=>?_;refine II 2 (by decide) hm.free.at2 fun H2 n2 e2=>?_;have h2:=(e2 i2).trans ((hm.same _ b2).trans g2);have h3:=(e2 i3).trans ((hm.same _ b3).trans g3);simp only[↓zP,zG,seval,zD,reduceCtorEq,zI,hk 2 rfl,hk 0 rfl,OS,h2,aQ,bY,Pc,ha,gk,ga,oL (bR l[k]),oL (bR l[a])];have nk:=hl _ (Ap Pc);have nb:=hl _ (Ap To);have na:=hl _ (Ap ha);have vk:aY.sub l[k] l[a]=vec (fun i=>l.getD i V0) a k:=(by simp only[vec,cJ k Pc,cJ a ha]);have vb:aY.sub l[b] l[a]=vec (fun i=>l.getD i V0) a b:=(by simp only[vec,cJ b To,cJ a ha]);have nvk:=kZ nk na;have nvb:=kZ nb na;rw[vk] at nvk;rw[vb] at nvb;refine rM (IC nk na (by omega) _) ?_;rw[vk];simp only[↓zP,zG,seval,zD,reduceCtorEq,zI,hk 2 rfl,hk 0 rfl,hv,OS,h2,aQ,bY,ha,To,gb,ga,oL (bR l[a]),oL (bR l[b])];refine rM (IC nb na (by omega) _) ?_;rw[vb];have Wq:better q.1 (fun i=>l.getD i V0) a b k=(decide (aY.wN q.1 (aY.aV (vec (fun i=>l.getD i V0) a b) (vec (fun i=>l.getD i V0) a k))<0)||(decide (aY.wN q.1 (aY.aV (vec (fun i=>l.getD i V0) a b) (vec (fun i=>l.getD i V0) a k))=0)&&decide (aY.dot (vec (fun i=>l.getD i V0) a k) (vec (fun i=>l.getD i V0) a k)>aY.dot (vec (fun i=>l.getD i V0) a b) (vec (fun i=>l.getD i V0) a b)))):=rfl;generalize vec (fun i=>l.getD i V0) a k=to at *;generalize vec (fun i=>l.getD i V0) a b=wy at *;have OX:¬(H1.next=H1.next+1):=(by omega);have hx2:¬(H1.next+1=H1.next):=(by omega);simp only[↓zP,zG,seval,zD,reduceCtorEq,zI,oL (bR to),oL (bR wy),OX,hx2,n2];apply bO;clear bO K2;generalize hX:(((H2.set H1.next _).set (H1.next+1) _).set H1.next _).set (H1.next+1) _=H3;have u1:H3.get H1.next=some (.cells (iB to) false):=(by subst hX;simp only[zI,seval,OX]);have u2:H3.get (H1.next+1)=some (.cells (iB wy) false):=by subst hX;simp only[zI,seval]
    have hm3:bx H H3:=by
     have xT:H3.next=H1.next+2:=(by subst hX;simp only[aA.bD,n2]);refine⟨fun j hj=>?_,by have :=hm.le;omega,fun j hj=>?_⟩
     . have :=hm.free j (by omega);subst hX;rw[aA.aI,if_neg (by omega),aA.aI,if_neg (by omega),aA.aI,if_neg (by omega),aA.aI,if_neg (by omega),e2];exact this
     have hle:=hm.le;have :=hm.same j hj;subst hX;rw[aA.aI,if_neg (by omega),aA.aI,if_neg (by omega),aA.aI,if_neg (by omega),aA.aI,if_neg (by omega),e2];exact this
    have u3:=(hm3.same _ b3).trans g3;generalize H1.next=r at *;clear hX h2 h3 e2 n2;have pl3:(iV q).take 3=iB q.1:=rfl;have pl4:(iV q).length=4:=rfl;have hB:(M+M)*(M+M)<=2^19*2^19:=Ch (by omega) (by omega);refine aB fun K2 bO=>?_;simp only[↓zP,zG,seval,zI,hk 3 rfl,u1,u2,u3,pl3,pl4,oL (bR to),oL (bR wy)];refine cT (mh q.1 nvb nvk (by omega) _) ?_;generalize aY.wN q.1 (aY.aV wy to)=tn at *;simp only[↓zP,zG,seval];apply bO;clear bO K2;refine aB fun K2 bO=>?_;refine bK (by decide) ?_;by_cases c1:tn<0
    . have d1:=Bk c1;simp only[↓zP,zG,seval,zD,reduceCtorEq,zI,d1,YD];apply bO;clear bO K2;simp only[↓zP,zG,seval,zI];rw[eP,hn,if_pos (by rw[Wq,d1];rfl)];exact⟨rfl,hm3⟩
    have d1:=As c1;by_cases c2:tn=0
    . have d2:(tn==0)=true:=Dr.2 c2;simp only[↓zP,zG,seval,zD,reduceCtorEq,zI,d1,d2,u1,oL (bR to)];refine rM (BQ nvk nvk (by omega) _) ?_;simp only[↓zP,zG,seval,zD,zI,u2,oL (bR wy)];refine rM (BQ nvb nvb (by omega) _) ?_;simp only[↓zP,zG,seval,zD,reduceCtorEq,zI];apply bO;clear bO K2;have d3:decide (tn=0)=true:=Bk c2;by_cases c3:aY.dot wy wy<aY.dot to to
      . have d4:decide (aY.dot to to>aY.dot wy wy)=true:=Bk c3;simp only[↓zP,zG,seval,zI,d4];rw[eP,hn,if_pos (by rw[Wq,d1,d3,d4];rfl)];exact⟨rfl,hm3⟩
      have d4:decide (aY.dot to to>aY.dot wy wy)=false:=As c3;simp only[↓zP,zG,seval,zI,d4,hv];rw[eP,hn,if_neg (by rw[Wq,d1,d3,d4];decide)];exact⟨rfl,hm3⟩
    have d2:(tn==0)=false:=Gg.2 c2;have d3:decide (tn=0)=false:=As c2;simp only[↓zP,zG,seval,zD,reduceCtorEq,zI,d1,d2];apply bO;clear bO K2;simp only[↓zP,zG,seval,zI,hv];rw[eP,hn,if_neg (by rw[Wq,d1,d3];simp)];exact⟨rfl,hm3⟩
 rintro f H1 hk ⟨hv,hm⟩;simp only[sm,Am,Bs] at hv;rw[Bm] at hv;simp only[↓zP,seval];apply hK;simp only[↓zP,zG,seval,hv];refine Rx ?_;exact⟨rfl,hm⟩
theorem Mp {n:aY.V} {p:Nat->aY.V} {on:List Nat} {s m:Nat} (h:aY.Way n p on s m (tA n p on)) (i:Nat):GC n p on (iter (tA n p on) i s)=some (iter (tA n p on) (i+1) s):=by obtain⟨ho,hS⟩:=h.side i;obtain⟨b,hb,_⟩:=QE h.H ho (hS.crn h.H ho) ⟨_,hS.1,hS.2.1⟩;show _=some ((aY.GC n p on _).getD 0);rw[hb];rfl
theorem mw {n:aY.V} {p:Nat->aY.V} {on:List Nat} {s m:Nat} (h:aY.Way n p on s m (tA n p on)):2<=m:=by
 rcases Dt 1 m with h1|h1
 . exact h1
 have hm:m=1:=by have :=h.pos;omega
 have hb:=h.back;rw[hm] at hb;exact absurd hb (h.side 0).2.2.1
theorem KY {H H':aA} {sz:Nat} {v:AV} {els:List (List AV)} (h:Own H sz v els) (hn:H.next<=H'.next) (hk:∀k,k<H.next->H.get k=some .tok->H'.get k=some .tok):Own H' sz v els:=by
 rcases h with ⟨rfl,rfl⟩|⟨k,rfl,h1,h2⟩
 . exact .inl ⟨rfl,rfl⟩
 exact .inr ⟨k,rfl,by omega,hk k h1 h2⟩
theorem KR (a b:List Nat):KQ (a++b)=KQ a++KQ b:=by simp[KQ]
theorem JW (a:List Nat):dS (KQ a)=true:=jS (fun _=>by simp only[sf]) a
theorem Kd {tag:Nat} (ht:Nat.blt tag 2=true) {l:List aY.V} {M:Nat} (hl:∀v∈l,fI M v) (hM:M<=2^18) (hlen:l.length<=64) {q:aY.V×Int} {B:Nat} (hq:fI B q.1) (hB:3*(B*M)<2^62)
 {L:List Nat} (hP:Poly (fun i=>l.getD i V0) l.length q.1 q.2 L) (H:aA):
 Sound Tryz.prog gv 156 [.bH tag 3 (gL l),.agg (iV q)] H (.ret (.bH 0 1 (KQ L))) H:=by
 refine fV fit dZ aFk (Ae rfl) (by simp only[sf,kU ht,wG]) ?_ H;obtain⟨s0,r,m,hon,W,rfl⟩:=hP.ex;unfold vw;dsimp only;have cJ:∀k (h:k<l.length),l.getD k V0=l[k]:=fun k h=>by simp[List.getD,h]
 have p4:(iV q).length=4:=rfl;have p3:(iV q).take 3=iB q.1:=rfl;have p1:(iV q).getD 3 aC=.int .i64 q.2:=rfl;refine aB fun K hK=>?_;simp only[↓zP,zG,seval,zI];apply hK;clear hK K;refine aB fun K hK=>?_;simp only[↓zP,zG,seval,zI];apply hK;clear hK K;refine aB fun K hK=>?_;refine aB fun K2 bO=>?_;simp only[↓zP,zG,seval,zI];apply bO;clear bO K2;generalize aDz:nT (fun i=>l.getD i V0) l.length q.1 q.2=on at *;have h0:eN (((aA.mk 0 .nil |>.alloc (.cells [.bH tag 3 (gL l)] false)).alloc (.cells (iV q) false)).alloc (.cells [.aF] false)):=(((eN.nil 0).alloc _).alloc _).alloc _;refine bV [] (fun i vs H'=>∃v,H'.get 2=some (.cells [v] false)/\Own H' 1 v (KQ ((List.range i).filter fun k=>decide (aY.dot q.1 (l.getD k V0)=q.2)))/\H'.get 0=some (.cells [.bH tag 3 (gL l)] false)/\H'.get 1=some (.cells (iV q) false)/\3<=H'.next/\eN H') l.length (by omega) (by decide) ?_ ?_ ?_ ?_ ?_
 . simp only[zB,seval]
 . simp only[zB,seval,bY]
 . exact⟨.aF,by simp only[zI,seval],.nil _ _,by simp only[zI,seval],by simp only[zI,seval],by simp only[zI,seval],h0⟩
 . rintro i f H1 hi hk e1 ⟨v,g2,ho,g0,g1,hn,hf⟩;have hg:=hU hi;have Jn:=cJ i hi;have hx:=hl _ (Ap hi)
   have aAu:(List.range (i+1)).filter (fun k=>decide (aY.dot q.1 (l.getD k V0)=q.2))=(List.range i).filter (fun k=>decide (aY.dot q.1 (l.getD k V0)=q.2))++(if aY.dot q.1 l[i]=q.2 then [i] else []):=by rw[List.range_succ,List.filter_append];congr 1;simp only[List.filter_cons,List.filter_nil,Jn,Bj]
   have pI:((List.range i).filter fun k=>decide (aY.dot q.1 (l.getD k V0)=q.2)).length<=64:=by have :=Fs (fun k=>decide (aY.dot q.1 (l.getD k V0)=q.2)) (List.range i);rw[Cl] at this;omega
   rw[aAu];generalize (List.range i).filter (fun k=>decide (aY.dot q.1 (l.getD k V0)=q.2))=on0 at *;generalize l[i]=x at *;have nx1:¬(1=H1.next):=(by omega);have nx2:¬(2=H1.next):=(by omega);have nx0:¬(0=H1.next):=(by omega);refine aS ?_;refine aB fun K2 bO=>?_;simp only[↓zP,zG,seval,zI,e1,hk 11 rfl,aQ,bY,hi,hg,oL (bR x)];apply bO;clear bO K2;refine aB fun K2 bO=>?_;refine bK (by decide) ?_;simp only[↓zP,zG,seval,zD,reduceCtorEq,zI,hk 3 rfl,nx1,g1,p4,p3,oL (bR x)];refine rM (BQ hq hx hB _) ?_;simp only[↓zP,zG,seval,zD,reduceCtorEq,zI,hk 3 rfl,nx1,g1,p4,p1];apply bO;clear bO K2;generalize hX:(H1.alloc _).set H1.next _=H4;have y0:H4.get 0=some (.cells [.bH tag 3 (gL l)] false):=(by subst hX;rw[aA.aI,if_neg nx0,aA.aG,if_neg nx0];exact g0);have y1:H4.get 1=some (.cells (iV q) false):=(by subst hX;rw[aA.aI,if_neg nx1,aA.aG,if_neg nx1];exact g1);have y2:H4.get 2=some (.cells [v] false):=(by subst hX;rw[aA.aI,if_neg nx2,aA.aG,if_neg nx2];exact g2);have yn:3<=H4.next:=(by subst hX;simp only[aA.bD,aA.aR];omega);have yf:eN H4:=by subst hX;exact(hf.alloc _).set (by simp) _
   have yo:Own H4 1 v (KQ on0):=by refine KY ho (by subst hX;simp only[aA.bD,aA.aR];omega) fun k h1 h2=>?_;subst hX;rw[aA.aI,if_neg (by omega),aA.aG,if_neg (by omega)];exact h2
   by_cases hc:aY.dot q.1 x=q.2
   . have hb:(aY.dot q.1 x==q.2)=true:=Dr.2 hc;obtain⟨H5,z1,z2,z3,z4,z5⟩:=Has.push (.inr yo) (ys:=[[AV.int .i64 (i:Int)]]) (bytes:=8) rfl (by simp only[nS,Ak,Ar];omega);simp only[↓zP,zG,seval,zI,hb,hk 5 rfl,y2];rw[show bJ H4 1 (.bH 1 1 [[.int .i64 (i:Int)]])=some [[.int .i64 (i:Int)]] from rfl];have w2:=(z4 2 (by omega) (by rw[y2];simp)).trans y2;simp only[z1,dI,zG,seval,zI,w2];rw[if_pos hc,KR];exact⟨_,rfl,.inr ⟨H4.next,rfl,by simp only[aA.bD];omega,by rw[aA.aI,if_neg (by omega)];exact z3⟩,(z4 0 (by omega) (by rw[y0];simp)).trans y0,(z4 1 (by omega) (by rw[y1];simp)).trans y1,by omega,(z5 yf).set (by omega) _⟩
   have hb:(aY.dot q.1 x==q.2)=false:=Gg.2 hc;simp only[↓zP,zG,seval,hb];rw[if_neg hc,Cf];exact⟨v,y2,yo,y0,y1,yn,yf⟩
 rintro f H1 hk ⟨v,g2,ho,g0,g1,hn,hf⟩;have e0:(List.range l.length).filter (fun k=>decide (aY.dot q.1 (l.getD k V0)=q.2))=on:=aDz;rw[e0] at ho;simp only[↓zP,seval];apply hK;clear hK K;have cF:KQ on≠[]:=by rw[hon];simp[KQ]
 rcases ho with ⟨_,h⟩|⟨tk,rfl,ht1,ht2⟩
 . exact absurd h cF
 have qh:on.length<=64:=by have :=Fs (fun k=>decide (aY.dot q.1 (l.getD k V0)=q.2)) (List.range l.length);rw[e0,Cl] at this;omega
 have eW:∀k∈on,k<l.length:=fun k hk=>by rw[<-aDz] at hk;exact(fT.1 hk).1
 have xS:(KQ on).getD 0 []=[AV.int .i64 (s0:Int)]:=by rw[hon];rfl
 have a0:asNat (.int .i64 0)=some 0:=rfl;have EG:0<(KQ on).length:=by rw[hon];simp[KQ]
 have nx:∀j,j<3->¬(j=H1.next):=fun j hj=>by omega
 have hs0:=eW _ W.hs;refine aB fun K hK=>?_;simp only[↓zP,zG,seval,zI,hk 5 rfl,hk 2 rfl,hk 3 rfl];apply hK;clear hK K;refine aB fun K hK=>?_;simp only[↓zP,zG,seval,zI,hk 5 rfl,g2,EG,xS,a0];apply hK;clear hK K;obtain⟨H2,hm,hS⟩:=UJ (tag:=tag) hl hM hlen eW qh hs0 q hf (i1:=2) (i2:=0) (i3:=1) (by omega) (by omega) (by omega) g2 g0 g1;have e0':=Mp W 0;change aY.GC _ _ _ s0=_ at e0';rw[e0'] at hS;refine aB fun K hK=>?_;refine aB fun K2 bO=>?_;simp only[↓zP,zG,seval,zI,hk 5 rfl,g2,EG,xS,a0];refine lF (fs:=[]) (cs:=[.ref 2 0,.ref 0 0,.ref 1 0]) (by decide) (by simp only[↓zP,zG,seval]) (by simp only[sm,zB,seval];rfl) hS ?_;simp only[↓zP,zG,seval];apply bO;clear bO K2;refine aS ?_
 refine jI [9,10] (fun M' vs H'=>∃i,i<m/\M'=m -i/\∃v,vs=[v,.int .i64 (iter (tA q.1 (fun i=>l.getD i V0) on) (i+1) s0:Nat)]/\Has H' 1 v (KQ ((List.range (i+1)).map fun i=>iter (tA q.1 (fun i=>l.getD i V0) on) i s0))/\(0<i->v≠ .bH 1 1 (KQ ((List.range (i+1)).map fun i=>iter (tA q.1 (fun i=>l.getD i V0) on) i s0)))/\
  H'.get 2=some (.cells [.bH (tk+2) 1 (KQ on)] false)/\H'.get 0=some (.cells [.bH tag 3 (gL l)] false)/\H'.get 1=some (.cells (iV q) false)/\3<=H'.next/\eN H') m (by rfl) ?_ ?_
 . refine⟨0,W.pos,rfl,_,by simp only[sm,zB,seval];rfl,.inl rfl,fun h=>absurd h (Ee 0),(hm.same 2 (by omega)).trans g2,(hm.same 0 (by omega)).trans g0,(hm.same 1 (by omega)).trans g1,by have :=hm.le;omega,hm.free⟩
 clear hS hm H2 g2 g0 g1 hf hn ht1 ht2;rintro M' f2 H2 kP ⟨i,hi,rfl,v,hv,ho,YQ,g2,g0,g1,hn,hf⟩;simp only[sm,Am,Bs] at hv;obtain⟨v9,v10⟩:=hv;refine aB fun K2 bO=>?_;refine aB fun K3 HP=>?_;simp only[↓zP,zG,seval,zI,kP 5 rfl,hk 5 rfl,g2,EG,xS,a0,v10];apply HP;clear HP K3;by_cases Qz:i+1=m
 . have hb:((iter (tA q.1 (fun i=>l.getD i V0) on) (i+1) s0:Int) != (s0:Int))=false:=by rw[Qz,W.back];simp
   have h2:=mw W;simp only[↓zP,zG,seval,hb];apply hK;clear hK K bO K2;simp only[↓zP,zG,seval,v9];refine Rx ?_;rw[<-Qz];exact⟨v,0,rfl,fun nw=>ho.shut (by simp[KQ]) (YQ (by omega)) (JW _) nw⟩
 have hb:((iter (tA q.1 (fun i=>l.getD i V0) on) (i+1) s0:Int) != (s0:Int))=true:=by have :=W.first (i+1) (by omega) (by omega);simp only[El,ne_eq];omega
 simp only[↓zP,zG,seval,hb];apply bO;clear bO K2;obtain⟨ho1,hS1⟩:=W.side (i+1);have YM:=eW _ ho1;have hnp:=Mp W (i+1);have aOv:=W.le;have aDu:((List.range (i+1)).map fun i=>iter (tA q.1 (fun i=>l.getD i V0) on) i s0).length=i+1:=by simp
 have qk:(List.range (i+1+1)).map (fun i=>iter (tA q.1 (fun i=>l.getD i V0) on) i s0)=(List.range (i+1)).map (fun i=>iter (tA q.1 (fun i=>l.getD i V0) on) i s0)++[iter (tA q.1 (fun i=>l.getD i V0) on) (i+1) s0]:=by rw[List.range_succ (n:=i+1),Dx];rfl
 obtain⟨H5,z1,z2,z3,z4,z5⟩:=ho.push (ys:=[[AV.int .i64 (iter (tA q.1 (fun i=>l.getD i V0) on) (i+1) s0:Nat)]]) (bytes:=8) rfl (by rw[nS,aDu,Ak,Ar];omega);have w2:=(z4 2 (by omega) (by rw[g2];simp)).trans g2;have w0:=(z4 0 (by omega) (by rw[g0];simp)).trans g0;have w1:=(z4 1 (by omega) (by rw[g1];simp)).trans g1;obtain⟨H6,hm,hS⟩:=UJ (tag:=tag) hl hM hlen eW qh YM q (z5 hf) (i1:=2) (i2:=0) (i3:=1) (by omega) (by omega) (by omega) w2 w0 w1;rw[hnp] at hS;refine aB fun K2 bO=>?_;refine aS ?_;simp only[↓zP,zG,seval,zI,v9,v10];rw[show ∀x:AV,bJ H2 1 (.bH 1 1 [[x]])=some [[x]] from fun _=>rfl];simp only[z1,dI,seval];apply bO;clear bO K2;simp only[↓zP,zG,seval,zI,kP 8 rfl,v10];refine lF (fs:=[]) (cs:=[.ref 2 0,.ref 0 0,.ref 1 0]) (by decide) (by rfl) (by rfl) hS ?_;simp only[↓zP,zG,seval];refine⟨m -(i+1),by omega,i+1,by omega,rfl,.bH (H2.next+2) 1 _,rfl,?_,fun _ h=>by injection h with h;omega,(hm.same 2 (by omega)).trans w2,(hm.same 0 (by omega)).trans w0,(hm.same 1 (by omega)).trans w1,by have :=hm.le;omega,hm.free⟩;rw[qk,KR];exact .inr (.inr ⟨H2.next,rfl,by have :=hm.le;omega,(hm.same _ (by omega)).trans z3⟩)
def BD (L:aY.V×Int->List Nat) (q:aY.V×Int):List AV:=[.int .i64 q.1.x,.int .i64 q.1.y,.int .i64 q.1.z,.int .i64 q.2,.bH 0 1 (KQ (L q))]
theorem VY (L:aY.V×Int->List Nat) (q:aY.V×Int):bN (BD L q)=true:=by simp only[BD,bN,AV.free,JW,Cu];rfl
structure Ur (l:List aY.V) (S:List (aY.V×Int)) (L:aY.V×Int->List Nat):Prop where
 fl:pE (fun i=>l.getD i V0) l.length S
 po:∀q∈S,Poly (fun i=>l.getD i V0) l.length q.1 q.2 (L q)
theorem JQ {l:List aY.V} {M:Nat} (hl:∀v∈l,fI M v) {q:aY.V×Int} (h:uN (fun i=>l.getD i V0) l.length q.1 q.2):fI (2*((M+M)*(M+M))) q.1:=by
 obtain⟨i,j,k,h1,h2,h3,hc⟩:=fX h
 have hn:∀k,k<l.length->fI M (l.getD k V0):=fun k hk=>by
  have :l.getD k V0=l[k]:=by simp[List.getD,hk]
  rw[this];exact hl _ (Ap hk)
 have key:fI (2*((M+M)*(M+M))) (fD (fun i=>l.getD i V0) i j k).1:=
  xG (tH (kZ (hn j (by omega)) (hn i (by omega))) (kZ (hn k (by omega)) (hn i (by omega))))
 unfold gP at hc;split at hc
 . cases hc
 simp only[Ah,Al,Bx] at hc
 rcases hc with e|e
 . have e1:q.1=(fD (fun i=>l.getD i V0) i j k).1:=Bt Prod.fst e;rw[e1];exact key
 have e1:q.1=aY.neg (fD (fun i=>l.getD i V0) i j k).1:=Bt Prod.fst e;rw[e1];exact KL key
theorem Ol {p:Nat->aY.V} {N:Nat} {S:List (aY.V×Int)} (h:pE p N S):S.Nodup:=List.Pairwise.imp (fun {a b} (h:kO a.1 b.1) (e:a=b)=>kO.irr b.1 (by rw[e] at h;exact h)) h.Zd
theorem Uq {tag:Nat} (ht:Nat.blt tag 2=true) {l:List aY.V} {M:Nat} (hl:∀v∈l,fI M v) (hM:M<=2^18) (hlen:l.length<=64) {S:List (aY.V×Int)} {L:aY.V×Int->List Nat} (hS:Ur l S L) (cF:S≠[]) (H:aA):
 Sound Tryz.prog gv 158 [.agg [.bH tag 3 (gL l)]] H (.ret (.bH (H.next+2) 5 (S.map (BD L)))) (H.alloc .tok):=by
 refine fW dZ (by simp only[sf,kU ht]) (by simpa using cF) (jS (VY L) S) ?_ H;refine bL fit aFl (Ae rfl) ?_;unfold vz;dsimp only;refine aB fun K hK=>?_;simp only[↓zP,zG,seval,zI];apply hK;clear hK K;refine aB fun K hK=>?_;simp only[↓zP,zG,seval];apply hK;clear hK K
 have hSl:S.length<=2^20:=by have h1:=DY (N:=l.length) (p:=fun i=>l.getD i V0) (Ol hS.fl) (fun q hq=>(hS.fl.mem q).1 hq);have h2:l.length*(l.length*(l.length*2))<=64*(64*(64*2)):=Ch hlen (Ch hlen (Ch hlen (Ai _)));omega
 have tQ:uR 4 (S.map iV)=.bH 0 4 (S.map iV):=if_neg (by simpa using cF);have BS:=Ma ht hl hM hlen hS.fl;rw[tQ] at BS;refine aB fun K hK=>?_;refine aB fun K2 bO=>?_;simp only[↓zP,zG,seval,zI];refine cT (BS _) ?_;simp only[↓zP,zG,seval];apply bO;clear bO K2;refine bV [3] (fun i vs H'=>∃v,vs=[v]/\Own H' 5 v ((S.take i).map (BD L))/\H'.get 0=some (.cells [.bH tag 3 (gL l)] false)/\1<=H'.next) S.length (by omega) (by decide) ?_ ?_ ?_ ?_ ?_
 . simp only[zB,seval]
 . simp only[zB,seval,Ax]
 . exact⟨.aF,by simp only[sm,zB,seval],.nil _ _,by simp only[zI,seval],by simp only[zI,seval]⟩
 . rintro i f H1 hi hk e1 ⟨v,hv,ho,g0,hn⟩;simp only[sm,Am,Bs] at hv;have hg:(S.map iV).getD i []=iV S[i]:=sP hi;have hqS:=Ap hi;have hq:=JQ hl ((hS.fl.mem _).1 hqS);have hpo:=hS.po _ hqS
   have zS:(S.take (i+1)).map (BD L)=(S.take i).map (BD L)++[BD L S[i]]:=by rw[Bv,Dx];simp[hi]
   rw[zS];have htl:((S.take i).map (BD L)).length=i:=(by simp;omega);generalize S[i]=q at *;have hMM:(M+M)*(M+M)<=2^19*2^19:=Ch (by omega) (by omega);have aDh:2*((M+M)*(M+M))*M<=2^39*2^18:=Ch (by omega) (by omega);have p4:(iV q).length=4:=rfl;have p3:(iV q).take 3=iB q.1:=rfl;have p1:(iV q).getD 3 aC=.int .i64 q.2:=rfl;have nx0:¬(0=H1.next):=(by omega);have hpg:=Kd ht hl hM hlen hq (by omega) hpo;have ho':=ho;refine aS ?_;refine aB fun K2 bO=>?_;simp only[↓zP,zG,seval,zI,e1,hk 8 rfl,aQ,Ax,hi,hg,oL p4];apply bO;clear bO K2;generalize hX:(H1.alloc _).set H1.next _=H4;have u0:H4.get 0=some (.cells [.bH tag 3 (gL l)] false):=(by subst hX;rw[aA.aI,if_neg nx0,aA.aG,if_neg nx0];exact g0);have u1:H4.get H1.next=some (.cells (iV q) false):=(by subst hX;rw[aA.aI,if_pos rfl]);have un:H4.next=H1.next+1:=by subst hX;simp only[aA.bD,aA.aR]
   have uo:Own H4 5 v ((S.take i).map (BD L)):=by refine KY ho (by omega) fun k h1 h2=>?_;subst hX;rw[aA.aI,if_neg (by omega),aA.aG,if_neg (by omega)];exact h2
   clear hX;obtain⟨H5,z1,z2,z3,z4,z5⟩:=Has.push (.inr uo) (ys:=[BD L q]) (bytes:=56) rfl (by rw[htl,Ak,Ar];omega);generalize H1.next=r1 at *;refine bK (by decide) ?_;simp only[↓zP,zG,seval,zD,reduceCtorEq,zI,hk 1 rfl,hv,u0,u1,p4,p3,p1,oL p4];refine rM (hpg _) ?_;have aKo:[AV.int .i64 q.1.x,.int .i64 q.1.y,.int .i64 q.1.z,.int .i64 q.2,.bH 0 1 (KQ (L q))]=BD L q:=rfl;have pI:(BD L q).length=5:=rfl;simp only[↓zP,zG,seval,zD,reduceCtorEq,zI,u0,u1,iB,aKo,pI];rw[show ∀x:List AV,bJ H4 5 (.bH 1 5 [x])=some [x] from fun _=>rfl];simp only[z1,dI,seval];exact⟨by omega,_,rfl,.inr ⟨H4.next,rfl,by omega,z3⟩,(z4 0 (by omega) (by rw[u0];simp)).trans u0,by omega⟩
 rintro f H1 hk ⟨v,hv,ho,g0,hn⟩;simp only[sm,Am,Bs] at hv;rw[Bm] at ho;simp only[↓zP,seval];apply hK;simp only[↓zP,zG,seval,hv];refine Rx ?_;exact⟨v,rfl,ho⟩
def jc (v:aY.V):Bool:=(List.range 3).all fun i=>decide (¬(v.at i>262144)/\¬(v.at i< -262144))
theorem Po {v:aY.V}:jc v=true↔fI (2^18) v:=by
 unfold jc fI;simp only[Bc,Bn,Bj];constructor
 . intro h;have h0:=h 0 (by decide);have h1:=h 1 (by decide);have h2:=h 2 (by decide);simp only[V.at] at h0 h1 h2;omega
 intro h i hi
 match i,hi with
 |0,_=>simp only[V.at];omega
 |1,_=>simp only[V.at];omega
 |2,_=>simp only[V.at];omega
def mk (n:Nat) (P:Nat->Bool):List AV:=(List.range n).map fun k=>AV.bool (P k)
theorem KJ (n:Nat) (P:Nat->Bool):(mk n P).length=n:=by simp[mk]
theorem aBu {n:Nat} (P:Nat->Bool) {k:Nat} (h:k<n):(mk n P).getD k aC=.bool (P k):=by simp[mk,List.getD,h]
theorem aBv {n:Nat} (P:Nat->Bool) {p:Nat} (h:p<n):(mk n P).take p++[AV.bool true]++(mk n P).drop (p+1)=mk n (fun k=>P k||k==p):=by
 refine Fk (by simp[mk];omega) fun k h1 h2=>?_;rw[KJ] at h2;simp only[Bg,List.getElem_append,Cb,KJ,Ak,Ar];by_cases hk:k<p
 . rw[dif_pos (by omega)];simp[mk];omega
 rw[dif_neg (by omega)];by_cases kP:k=p
 . subst kP;rw[dif_pos (by omega)];simp[mk]
 rw[dif_neg (by omega)];simp only[mk,List.getElem_drop,Ha,Gl];have :p+1+(k -min p n -(0+1))=k:=by omega
 rw[this];simp[kP]
def kF (S:List (aY.V×Int)) (L:aY.V×Int->List Nat) (k:Nat):Bool:=S.any fun q=>(L q).contains k
def kW (C:List aY.V) (S:List (aY.V×Int)) (L:aY.V×Int->List Nat):List aY.V:=((List.range C.length).filter (kF S L)).map fun k=>C.getD k V0
def mT (l C:List aY.V) (S:List (aY.V×Int)) (L:aY.V×Int->List Nat):AV×Int:=
 if 64<l.length then(.aF,2) else if l.all jc=false then(.aF,1) else if S.length<4 then(.aF,120) else if 64<S.length then(.aF,2) else(uR 3 (gL (kW C S L)),0)
theorem bt {tag:Nat} (ht:Nat.blt tag 2=true) {l C:List aY.V} (hlen:l.length<2^30) (hC:Ord l C) {S:List (aY.V×Int)} {L:aY.V×Int->List Nat} (hS:Ur C S L) (H:aA):
 Sound Tryz.prog gv 122 [.bH tag 3 (gL l)] H (.ret (.eZ [.agg [(mT l C S L).1],.int .i64 (mT l C S L).2])) H:=by
 refine fV fit dZ q9 (Ae rfl) (by simp only[sf,kU ht]) ?_ H;unfold cb;dsimp only;refine aB fun K hK=>?_;simp only[↓zP,zG,seval];apply hK;clear hK K;refine aB fun K hK=>?_;simp only[↓zP,zG,seval,zI,bY];refine⟨fun h=>?_,fun hle=>?_⟩
 . have fw:64<l.length:=by omega
   refine Rx ?_;rw[show mT l C S L=(.aF,2) from if_pos fw];exact⟨_,2,rfl,fun nw=>rfl⟩
 have fw:¬(64<l.length):=by omega
 apply hK;clear hK K;refine aB fun K hK=>?_;refine aB fun K2 bO=>?_;simp only[↓zP,zG,seval,zI];apply bO;clear bO K2;refine bV [] (fun i _ H=>(∀v∈l.take i,jc v=true)/\H.get 0=some (.cells [.aF] false)/\1<=H.next) l.length (by omega) (by decide) ?_ ?_ ?_ ?_ ?_
 . simp only[zB,seval]
 . simp only[zB,seval,bY]
 . exact⟨fun v hv=>by simp at hv,by simp only[zI,seval],by simp only[zI,seval]⟩
 . rintro i f H1 hi hk e1 ⟨gU,g0,hn⟩;have hg:=hU hi;have Pe:=Ap hi
   have hx:∀v,v∈l.take (i+1)->v∈l.take i\/v=l[i]:=fun v hv=>by
    rw[Bv,Az] at hv
    rcases hv with h|h
    . exact .inl h
    simp[hi] at h;exact .inr h
   generalize l[i]=x at *;have nx:¬(0=H1.next):=(by omega);refine aS ?_;refine aB fun K2 bO=>?_;simp only[↓zP,zG,seval,zI,e1,hk 22 rfl,aQ,bY,hi,hg,oL (bR x)];apply bO;clear bO K2;refine aB fun K2 bO=>?_;simp only[↓zP,zG,seval,zI,oL (bR x)];apply bO;clear bO K2;refine lE [] (fun j _ H=>(∀c,c<j->¬(x.at c>262144)/\¬(x.at c< -262144))/\H.get 0=some (.cells [.aF] false)/\1<=H.next) 3 (by decide) rfl (by decide) ?_ ?_ ?_ ?_
   . simp only[zB,seval]
   . refine⟨fun c hc=>absurd hc (Bh _),?_,?_⟩
     . rw[aA.aI,if_neg nx,aA.aG,if_neg nx];exact g0
     simp only[aA.bD,aA.aR];omega
   . rintro j f2 H2 hj kP e2 ⟨hc,ai,LX⟩;have Jo:j<=2:=by omega
     have fx:(x.at j>262144\/x.at j< -262144)->l.all jc=false:=fun h=>by rw[<-Ik,Bc];intro ha;have :=ha x Pe;simp only[jc,Bc,Bn,Bj] at this;have :=this j hj;omega
     refine aS ?_;by_cases c1:x.at j>262144
     . have d1:=Bk c1;simp only[↓zP,zG,seval,zI,e2,kP 28 rfl,aQ,tT x hj,bR,hj,Jo,d1,kP 2 rfl,hk 2 rfl,ai];refine⟨rfl,_,by simp only[↓zP,zR,seval,kP 2 rfl,hk 2 rfl];rfl,?_⟩;rw[show mT l C S L=(.aF,1) from (if_neg fw).trans (if_pos (fx (by omega)))];exact⟨_,2,rfl,fun nw=>rfl⟩
     have d1:=As c1;by_cases c2:x.at j< -262144
     . have d2:=Bk c2;simp only[↓zP,zG,seval,zI,e2,kP 28 rfl,aQ,tT x hj,bR,hj,Jo,d1,d2,kP 2 rfl,hk 2 rfl,ai];refine⟨rfl,_,by simp only[↓zP,zR,seval,kP 2 rfl,hk 2 rfl];rfl,?_⟩;rw[show mT l C S L=(.aF,1) from (if_neg fw).trans (if_pos (fx (by omega)))];exact⟨_,2,rfl,fun nw=>rfl⟩
     have d2:=As c2;simp only[↓zP,zG,seval,zI,e2,kP 28 rfl,aQ,tT x hj,bR,hj,Jo,d1,d2];refine⟨fun c h=>?_,ai,LX⟩;by_cases hcj:c=j
     . subst hcj;exact⟨c1,c2⟩
     exact hc c (by omega)
   rintro f2 H2 kP ⟨hc,ai,LX⟩;simp only[↓zP,seval];refine⟨fun v hv=>?_,ai,LX⟩
   rcases hx v hv with h|rfl
   . exact gU v h
   simp only[jc,Bc,Bn,Bj];exact fun c h=>hc c h
 rintro f H1 hk ⟨gU,g0,hn⟩;rw[Bm] at gU;have nQ:l.all jc=true:=Bc.2 gU;simp only[↓zP,seval];apply hK;clear hK K;have hNr:∀v∈C,fI (2^18) v:=fun v hv=>Po.1 (gU v ((hC.mem v).1 hv))
 have hCl:C.length<=64:=by have :=wD C l (List.Pairwise.imp (fun {a b} (h:kO a b) (e:a=b)=>kO.irr b (by rw[e] at h;exact h)) hC.Zd) fun v hv=>(hC.mem v).1 hv;omega
 have BS:∀H,Sound Tryz.prog gv 155 [uR 3 (gL C)] H (.ret (uR 4 (S.map iV))) H:=fun H=>by
  by_cases hc:C=[]
  . subst hc
    have hSn:S=[]:=Hb.2 fun q hq=>by obtain⟨i,j,k,_,_,h,_⟩:=fX ((hS.fl.mem q).1 hq);exact absurd h (Bh _)
    subst hSn;exact Kc H
  rw[show uR 3 (gL C)=.bH 0 3 (gL C) from if_neg (by simpa [gL] using hc)];exact Ma (by decide) hNr (Ai _) hCl hS.fl H
 have hsd:∀H,Sound Tryz.prog gv 154 [.bH tag 3 (gL l)] H (.ret (uR 3 (gL C))) H:=WX ht (by omega) hC;refine aB fun K hK=>?_;simp only[↓zP,zG,seval,zI,hk 0 rfl];refine cT (hsd _) ?_;simp only[↓zP,zG,seval];apply hK;clear hK K;refine aB fun K hK=>?_;simp only[↓zP,zG,seval];refine cT (BS _) ?_;simp only[↓zP,zG,seval];apply hK;clear hK K;by_cases hS4:S.length<4
 . have hO:mT l C S L=(.aF,120):=(if_neg fw).trans ((if_neg (by rw[nQ];decide)).trans (if_pos hS4));by_cases hSe:S=[]
   . subst hSe;rw[show uR 4 (List.map iV [])=.aF from rfl];refine aB fun K hK=>?_;simp only[↓zP,zG,seval,zI,hk 2 rfl,g0];refine⟨fun _=>?_,fun h=>absurd (show((0:Int)<4) by decide) (by simp at h)⟩;refine⟨rfl,_,by simp only[↓zP,zR,seval,hk 2 rfl];rfl,?_⟩;rw[hO];exact⟨_,2,rfl,fun nw=>rfl⟩
   rw[show uR 4 (S.map iV)=.bH 0 4 (S.map iV) from if_neg (by simpa using hSe)];refine aB fun K hK=>?_;simp only[↓zP,zG,seval,zI,hk 2 rfl,g0,Ax];refine⟨fun _=>?_,fun h=>absurd hS4 (by omega)⟩;refine⟨rfl,_,by simp only[↓zP,zR,seval,hk 2 rfl];rfl,?_⟩;rw[hO];exact⟨_,2,rfl,fun nw=>rfl⟩
 have hSe:S≠[]:=fun h=>hS4 (by rw[h];decide);rw[show uR 4 (S.map iV)=.bH 0 4 (S.map iV) from if_neg (by simpa using hSe)]
 have hCe:gL C≠[]:=fun h=>hSe (Hb.2 fun q hq=>by
  obtain⟨i,j,k,_,_,h',_⟩:=fX ((hS.fl.mem q).1 hq);have :C.length=0:=by rw[<-bY,h];rfl
  omega)
 rw[show uR 3 (gL C)=.bH 0 3 (gL C) from if_neg hCe];refine aB fun K hK=>?_;simp only[↓zP,zG,seval,zI,Ax];refine⟨fun h=>absurd h (by omega),fun _=>?_⟩;apply hK;clear hK K;by_cases aAl:64<S.length
 . have hO:mT l C S L=(.aF,2):=(if_neg fw).trans ((if_neg (by rw[nQ];decide)).trans ((if_neg hS4).trans (if_pos aAl)));refine aB fun K hK=>?_;simp only[↓zP,zG,seval,zI,hk 2 rfl,g0,Ax];refine⟨fun _=>?_,fun h=>absurd aAl (by omega)⟩;refine⟨rfl,_,by simp only[↓zP,zR,seval,hk 2 rfl];rfl,?_⟩;rw[hO];exact⟨_,2,rfl,fun nw=>rfl⟩
 refine aB fun K hK=>?_;simp only[↓zP,zG,seval,zI,Ax];refine⟨fun h=>absurd h (by omega),fun _=>?_⟩;apply hK;clear hK K;have hO:mT l C S L=(uR 3 (gL (kW C S L)),0):=(if_neg fw).trans ((if_neg (by rw[nQ];decide)).trans ((if_neg hS4).trans (if_neg aAl)));rw[hO]
 have aLf:(List.replicate C.length [AV.bool false]).flatten=mk C.length (fun _=>false):=by
  have :∀n:Nat,(List.replicate n [AV.bool false]).flatten=List.replicate n (AV.bool false):=fun n=>by
   induction n with
   |zero=>rfl
   |succ n ih=>rw[Ep,Bo,ih];rfl
  rw[this];exact Fk (by simp[mk]) fun k h1 h2=>by simp[mk]
 have h40:C.length<=2^40:=by omega
 refine aB fun K hK=>?_;simp only[↓zP,zG,seval,zI,bY,aQ,h40,aLf];apply hK;clear hK K;have nx0:¬(0=H1.next):=by omega
 refine aB fun K hK=>?_;refine aB fun K2 bO=>?_;simp only[↓zP,zG,seval,Ax];apply bO;clear bO K2;generalize aBd:H1.next=bh at *;refine bV [] (fun i _ H'=>H'.get 0=some (.cells [.aF] false)/\H'.get bh=some (.cells (mk C.length (fun k=>(S.take i).any fun q=>(L q).contains k)) false)/\bh<H'.next) S.length (by omega) (by decide) ?_ ?_ ?_ ?_ ?_
 . simp only[zB,seval]
 . simp only[zB,seval]
 . refine⟨by rw[aA.aG,aBd,if_neg nx0];exact g0,by rw[aA.aG,aBd,if_pos rfl];rfl,by rw[aA.aR,aBd];omega⟩
 . rintro i f2 H2 hi kP e2 ⟨m0,ms,SE⟩;have hg:(S.map iV).getD i []=iV S[i]:=sP hi;have hqS:=Ap hi;have hq:=JQ hNr ((hS.fl.mem _).1 hqS);have hpo:=hS.po _ hqS
   have zS:∀k,((S.take (i+1)).any fun q=>(L q).contains k)=(((S.take i).any fun q=>(L q).contains k)||(L S[i]).contains k):=fun k=>by rw[Bv,List.any_append];simp[hi]
   simp only[zS];generalize S[i]=q at *;have p4:(iV q).length=4:=rfl;have hpg:=Kd (tag:=0) (by decide) hNr (Ai _) hCl hq (by decide) hpo;have hLl:∀k∈L q,k<C.length:=fun k hk=>(fT.1 (hpo.aBt hk)).1
   have aOl:(L q).length<2^30:=by obtain⟨s,r,m,e,W,h⟩:=hpo.ex;rw[h,Ax,Cl];have h1:=W.le;have h2:=Fs (fun k=>decide (aY.dot q.1 (C.getD k V0)=q.2)) (List.range C.length);rw[Cl] at h2;have h3:(nT (fun i=>C.getD i V0) C.length q.1 q.2).length<=C.length:=h2;omega
   refine aS ?_;refine aB fun K2 bO=>?_;simp only[↓zP,zG,seval,zI,e2,kP 56 rfl,aQ,Ax,hi,hg,oL p4];apply bO;clear bO K2;refine aB fun K2 bO=>?_;simp only[↓zP,zG,seval,zI,kP 8 rfl,oL p4];refine cT (hpg _) ?_;simp only[↓zP,zG,seval,nS];apply bO;clear bO K2;have nx2:¬(0=H2.next):=(by omega);have nxs:¬(bh=H2.next):=(by omega);refine bV [] (fun j _ H'=>H'.get 0=some (.cells [.aF] false)/\H'.get bh=some (.cells (mk C.length (fun k=>((S.take i).any fun q=>(L q).contains k)||((L q).take j).contains k)) false)/\bh<H'.next) (L q).length (by omega) (by decide) ?_ ?_ ?_ ?_ ?_
   . simp only[zB,seval]
   . simp only[zB,seval]
   . refine⟨by rw[aA.aI,if_neg nx2,aA.aG,if_neg nx2];exact m0,?_,by simp only[aA.bD,aA.aR];omega⟩;rw[aA.aI,if_neg nxs,aA.aG,if_neg nxs,ms];simp
   . rintro j f3 H3 hj LV e3 ⟨m0',ms',ib⟩;have hgp:=QK hj;have BS:=hLl _ (Ap hj)
     have htj:∀k,((L q).take (j+1)).contains k=(((L q).take j).contains k||k==(L q)[j]):=fun k=>by rw[Gk];simp only[Dg,List.contains_iff_mem,Dr,Bv,Ac hj,Option.toList_some,Az,Dc]
     simp only[htj];generalize (L q)[j]=p at *;have aLd:p+1<=C.length:=BS;have sK:=aBv (fun k=>((S.take i).any fun q=>(L q).contains k)||((L q).take j).contains k) BS;refine aS ?_;simp only[↓zP,zG,seval,zI,e3,LV 64 rfl,LV 10 rfl,kP 10 rfl,aQ,nS,hj,hgp,BS,aLd,ms',KJ];refine⟨(if_neg (by omega)).trans m0',?_,ib⟩;rw[sK];simp only[Bool.or_assoc]
   rintro f3 H3 LV ⟨m0',ms',ib⟩;rw[Bm] at ms';simp only[↓zP,seval];exact⟨m0',ms',ib⟩
 rintro f2 H2 kP ⟨m0,ms,SE⟩;rw[Bm] at ms;simp only[↓zP,seval];apply hK;clear hK K;have hP:∀k,(S.any fun q=>(L q).contains k)=kF S L k:=fun k=>rfl;simp only[hP] at ms;refine aB fun K hK=>?_;simp only[↓zP,zG,seval];apply hK;clear hK K;refine aB fun K hK=>?_;refine aB fun K2 bO=>?_;simp only[↓zP,zG,seval,kP 8 rfl,bY];apply bO;clear bO K2;have z0:¬(0=H2.next):=by omega
 have zs:¬(bh=H2.next):=by omega
 generalize ho:H2.next=ob at *;refine bV [] (fun i _ H'=>H'.get 0=some (.cells [.aF] false)/\H'.get bh=some (.cells (mk C.length (kF S L)) false)/\ob<H'.next/\∃v,H'.get ob=some (.cells [v] false)/\Own H' 3 v (gL (((List.range i).filter (kF S L)).map fun k=>C.getD k V0))/\(((List.range i).filter (kF S L)).map (fun k=>C.getD k V0)=[]->v=.aF)) C.length (by omega) (by decide) ?_ ?_ ?_ ?_ ?_
 . simp only[zB,seval]
 . simp only[zB,seval]
 . refine⟨by rw[aA.aG,ho,if_neg z0];exact m0,by rw[aA.aG,ho,if_neg zs];exact ms,by rw[aA.aR,ho];omega,.aF,by rw[aA.aG,ho,if_pos rfl],.nil _ _,fun _=>rfl⟩
 . rintro i f3 H3 hi LV e3 ⟨q0,qs,qn,v,qv,qo,qe⟩;have hg:=hU hi;have Jn:C.getD i V0=C[i]:=by simp[List.getD,hi]
   have aAu:((List.range (i+1)).filter (kF S L)).map (fun k=>C.getD k V0)=((List.range i).filter (kF S L)).map (fun k=>C.getD k V0)++(if kF S L i then [C[i]] else []):=by
    rw[List.range_succ,List.filter_append,Dx];congr 1;simp only[List.filter_cons,List.filter_nil];split
    . rw[Be,Jn];rfl
    rfl
   have pI:(((List.range i).filter (kF S L)).map fun k=>C.getD k V0).length<=64:=by rw[Ax];have :=Fs (kF S L) (List.range i);rw[Cl] at this;omega
   rw[aAu];generalize ((List.range i).filter (kF S L)).map (fun k=>C.getD k V0)=els at *;generalize C[i]=x at *;have n0:¬(0=H3.next):=(by omega);have ns:¬(bh=H3.next):=(by omega);have nb:¬(ob=H3.next):=(by omega);have Qz:i+1<=C.length:=hi;have hmg:=aBu (kF S L) hi;refine aS ?_;refine aB fun K2 bO=>?_;simp only[↓zP,zG,seval,zI,e3,LV 75 rfl,aQ,bY,hi,hg,oL (bR x)];apply bO;clear bO K2;generalize hX:(H3.alloc _).set H3.next _=H4;have y0:H4.get 0=some (.cells [.aF] false):=(by subst hX;rw[aA.aI,if_neg n0,aA.aG,if_neg n0];exact q0);have ys:H4.get bh=some (.cells (mk C.length (kF S L)) false):=(by subst hX;rw[aA.aI,if_neg ns,aA.aG,if_neg ns];exact qs);have yv:H4.get ob=some (.cells [v] false):=(by subst hX;rw[aA.aI,if_neg nb,aA.aG,if_neg nb];exact qv);have yx:H4.get H3.next=some (.cells (iB x) false):=(by subst hX;rw[aA.aI,if_pos rfl]);have yn:H4.next=H3.next+1:=by subst hX;simp only[aA.bD,aA.aR]
   have yo:Own H4 3 v (gL els):=by refine KY qo (by omega) fun k h1 h2=>?_;subst hX;rw[aA.aI,if_neg (by omega),aA.aG,if_neg (by omega)];exact h2
   clear hX;generalize H3.next=r3 at *
   cases hu:kF S L i with
   |false=>rw[hu] at hmg;simp only[↓zP,zG,seval,zI,LV 10 rfl,kP 10 rfl,aQ,hi,Qz,ys,KJ,hmg];exact⟨y0,trivial,by omega,v,yv,yo,qe⟩
   |true=>
    rw[hu] at hmg;simp only[↓zP,zG,seval,zI,LV 10 rfl,kP 10 rfl,aQ,hi,Qz,ys,KJ,hmg,LV 15 rfl,yv,yx,oL (bR x)];obtain⟨H5,z1,z2,z3,z4,z5⟩:=Has.push (.inr yo) (ys:=[iB x]) (bytes:=24) rfl (by rw[bY,Ak,Ar];omega);rw[show ∀(h:aA) (x:List AV),bJ h 3 (.bH 1 3 [x])=some [x] from fun _ _=>rfl];have w2:=(z4 ob (by omega) (by rw[yv];simp)).trans yv;simp only[z1,dI,zG,seval,zI,w2];refine⟨(if_neg (by omega)).trans ((z4 0 (by omega) (by rw[y0];simp)).trans y0),(if_neg (by omega)).trans ((z4 bh (by omega) (by rw[ys];simp)).trans ys),by omega,_,rfl,?_,fun h=>?_⟩
    . rw[show gL (els++[x])=gL els++[iB x] from by simp[gL]];exact .inr ⟨H4.next,rfl,by simp only[aA.bD];omega,by rw[aA.aI,if_neg (by omega)];exact z3⟩
    simp at h
 rintro f3 H3 LV ⟨q0,qs,qn,v,qv,qo,qe⟩;simp only[↓zP,seval];apply hK;clear hK K;have hL:((List.range C.length).filter (kF S L)).map (fun k=>C.getD k V0)=kW C S L:=rfl;rw[hL] at qo qe;simp only[↓zP,zG,seval,zI,LV 15 rfl,LV 2 rfl,kP 2 rfl,hk 2 rfl,qv,q0];refine⟨rfl,_,by simp only[↓zP,zR,seval,LV 2 rfl,kP 2 rfl,hk 2 rfl];rfl,?_⟩;refine⟨_,2,rfl,fun nw=>?_⟩
 rcases qo with ⟨rfl,h⟩|⟨k,rfl,h1,h2⟩
 . rw[h];rfl
 have cF:¬gL (kW C S L)=[]:=fun h=>by have :=qe (by simpa [gL] using h);cases this
 rw[show uR 3 (gL (kW C S L))=.bH 0 3 (gL (kW C S L)) from if_neg cF];have al:dS (gL (kW C S L))=true:=jS gZ _;simp[fG,uQ,hY,al,OI,iW,AV.free]
theorem Pn {C:List aY.V} {S:List (aY.V×Int)} {L:aY.V×Int->List Nat} (hS:Ur C S L) (cF:S≠[]):kW C S L≠[]:=by
 obtain⟨q,r,rfl⟩:=List.exists_cons_of_ne_nil cF;obtain⟨s,r',m,e,W,h⟩:=(hS.po q Aq).ex;have hm:s∈L q:=by rw[h];exact Bq.2 ⟨0,Bn.2 W.pos,rfl⟩
 have hs:s<C.length:=(fT.1 W.hs).1;intro hh;have :C.getD s V0∈kW C (q::r) L:=Bq.2 ⟨s,Dn.2 ⟨Bn.2 hs,by simp[kF,hm]⟩,rfl⟩;rw[hh] at this;cases this
def NN (l C:List aY.V) (S:List (aY.V×Int)) (L:aY.V×Int->List Nat):Int:=
 if(mT l C S L).2=0/\kW C S L≠l then 3 else(mT l C S L).2
theorem UA {l C:List aY.V} {S:List (aY.V×Int)} {L:aY.V×Int->List Nat} (h:(mT l C S L).2=0):S≠[]/\(mT l C S L).1=uR 3 (gL (kW C S L))/\l.length<=64:=by
 unfold mT at h ⊢;split at h
 . cases h
 split at h
 . cases h
 split at h
 . cases h
 split at h
 . cases h
 rename_i h1 h2 h3 h4;rw[if_neg h1,if_neg h2,if_neg h3,if_neg h4];exact⟨fun e=>h3 (by rw[e];decide),rfl,by omega⟩
theorem Nj {tag:Nat} (ht:Nat.blt tag 2=true) {l C:List aY.V} (hlen:l.length<2^30) (hC:Ord l C) {S:List (aY.V×Int)} {L:aY.V×Int->List Nat} (hS:Ur C S L) (H:aA):
 Sound Tryz.prog gv 102 [.agg [.bH tag 3 (gL l)]] H (.ret (.int .i64 (NN l C S L))) H:=by
 refine So qy (by simp only[sf,kU ht]) ?_ H;unfold b9;dsimp only;have hH:=fun H=>bt ht hlen hC hS H;unfold NN;have h0:=UA (l:=l) (C:=C) (S:=S) (L:=L);generalize mT l C S L=o at *;obtain⟨ov,oc⟩:=o;dsimp only at hH h0 ⊢;refine aB fun K hK=>?_;simp only[↓zP,zG,seval,zI];apply hK;clear hK K;refine aB fun K hK=>?_;simp only[↓zP,zG,seval,zI];refine cT (hH _) ?_;simp only[↓zP,zG,seval,zI];apply hK;clear hK K;by_cases hc:oc=0
 . subst hc;obtain⟨hSn,rfl,aOu⟩:=h0 rfl;have cF:=Pn hS hSn;have tQ:uR 3 (gL (kW C S L))=.bH 0 3 (gL (kW C S L)):=if_neg (by simpa [gL] using cF);rw[tQ]
   have hll:(kW C S L).length<2^30:=by have hCl:C.length<=l.length:=wD C l (List.Pairwise.imp (fun {a b} (h:kO a b) (e:a=b)=>kO.irr b (by rw[e] at h;exact h)) hC.Zd) fun v hv=>(hC.mem v).1 hv;have :=Fs (kF S L) (List.range C.length);rw[Cl] at this;simp only[kW,Ax];omega
   have hb:((0:Int)==0)=true:=rfl;have hE:=fun H=>XC (t1:=0) (t2:=tag) rfl ht hll hlen H;refine aB fun K hK=>?_;simp only[↓zP,zG,seval,zI,hb];refine cT (hE _) ?_;by_cases he:kW C S L=l
   . have hd:=Bk he;simp only[↓zP,zG,seval,zI,hd];apply hK;clear hK K;simp only[↓zP,zG,seval];refine Rx ?_;rw[if_neg (fun h=>h.2 he)];rfl
   have hd:=As he;simp only[↓zP,zG,seval,zI,hd];refine Rx ?_;rw[if_pos ⟨trivial,he⟩];rfl
 have hb:(oc==0)=false:=Gg.2 hc;refine aB fun K hK=>?_;simp only[↓zP,zG,seval,hb];apply hK;clear hK K;simp only[↓zP,zG,seval];refine Rx ?_;rw[if_neg (fun h=>hc h.1)];rfl
theorem HG {id r:Nat} {o:Bool} {H:aA} (hr:H.get r=some (.cells [.aF] o)):Sound Tryz.prog gv 272 [.yield id,.ref r 0] H (.ret (.eZ [])) H:=by
 refine dY su (Ae rfl) ?_;unfold de;dsimp only;refine aB fun K hK=>?_;simp only[↓zP,zG,Nat.reduceLT,zI,hr];apply hK;clear hK K;refine bV [] (fun i vs H'=>H'=H) 0 (by decide) (by decide) ?_ ?_ ?_ ?_ ?_
 . simp only[zB]
 . simp only[zB,Nat.reduceEqDiff];rfl
 . rfl
 . rintro i f H1 hi;exact absurd hi (Bh _)
 rintro f H1 hk rfl;refine⟨rfl,_,by simp only[zR];rfl,?_⟩;exact⟨rfl,rfl⟩
theorem RR (H:aA):Sound Tryz.prog gv 201 [.aF] H (.ret (.func (.func 272) [] [.ref H.next 0])) (H.alloc (.cells [.aF] false)):=by refine dY si (Ae rfl) ?_;unfold cw;dsimp only;simp only[↓zP,zG,Nat.reduceLT,Nat.reduceEqDiff,zI];refine⟨rfl,_,by simp only[↓zP,zR];rfl,?_⟩;exact⟨rfl,rfl⟩
theorem LI {r:Nat} {o:Bool} {H:aA} (YS:r<H.next) (hr:H.get r=some (.cells [.aF] o)):
 ∃H',Sound Tryz.prog gv 313 [.aF,.func (.func 272) [] [.ref r 0]] H (.ret .aF) H':=by
 suffices h:∃out H',out=.ret .aF/\Sound Tryz.prog gv 313 [.aF,.func (.func 272) [] [.ref r 0]] H out H' by obtain⟨_,H',rfl,hS⟩:=h;exact⟨H',hS⟩
 refine tD fit sw (Ae rfl) ?_;unfold dg;dsimp only;refine aB fun K hK=>?_;simp only[↓zP,zG,Nat.reduceLT,zI];apply hK;clear hK K;refine aB fun K hK=>?_;refine aB fun K2 bO=>?_;simp only[↓zP,zG,Nat.reduceLT,Nat.reduceEqDiff,zI];apply bO;clear bO K2;have hf2:(iA (iA (iA (dW [.aF,.func (.func 272) [] [.ref r 0]]) 2 (.ref H.next 0)) 4 .aF) 6 (.func (.func 272) [] [.ref r 0])) 2=.ref H.next 0:=rfl;have hf6:(iA (iA (iA (dW [.aF,.func (.func 272) [] [.ref r 0]]) 2 (.ref H.next 0)) 4 .aF) 6 (.func (.func 272) [] [.ref r 0])) 6=.func (.func 272) [] [.ref r 0]:=rfl;generalize iA (iA (iA (dW [.aF,.func (.func 272) [] [.ref r 0]]) 2 (.ref H.next 0)) 4 .aF) 6 (.func (.func 272) [] [.ref r 0])=f at *;refine aS ?_;refine IK (by rw[fA];exact hf6) ?_;simp only[aA.aR];generalize YN:IP.mk [7] _ _=key
 refine⟨_,_,_,_,_,HG (o:=o) (by rw[aA.aG,if_neg (by simp;omega),aA.aG,if_neg (by simp;omega),aA.aG,if_neg (by omega)];exact hr),by rw[aA.aG];simp;exact⟨rfl,rfl,rfl⟩,fun Hf hf=>?_⟩
 obtain⟨f1,f2⟩:=hf;show K f [.mark (H.next+1)] Hf;apply hK;clear hK K;have b0:Hf.get H.next=some (.cells [.aF] false):=by rw[f2,if_neg (by omega)];simp[aA.aG];omega
 have b1:Hf.get (H.next+1)=some .NQ:=by rw[f2,if_neg (by omega)];simp[aA.aG]
 simp only[↓zP,zG,Nat.reduceLT,zI,hf2,b0];exact⟨b1,[.aF],rfl,rfl⟩
theorem Of {r:Nat} {o:Bool} {H:aA} (YS:r<H.next) (hr:H.get r=some (.cells [.aF] o)):
 ∃H',Sound Tryz.prog gv 270 [.func (.func 272) [] [.ref r 0]] H (.ret .aF) H':=by
 obtain⟨H',hS⟩:=LI YS hr;refine⟨H',?_⟩;refine dY sr (Ae rfl) ?_;unfold db;dsimp only;simp only[↓zP,zG,Nat.reduceLT,Nat.reduceEqDiff,zI];refine cT (hS) ?_;simp only[↓zP,zG,Nat.reduceLT];refine⟨rfl,_,by simp only[↓zP,zR];rfl,?_⟩;exact⟨rfl,rfl⟩
theorem IU {r:Nat} {o:Bool} {H:aA} (YS:r<H.next) (hr:H.get r=some (.cells [.aF] o)):
 ∃H',Sound Tryz.prog gv 200 [.func (.func 272) [] [.ref r 0],.func (.func 202) [] []] H (.ret .aF) H':=by
 obtain⟨H1,hS⟩:=Of YS hr;refine⟨H1,?_⟩;refine dY YX (Ae rfl) ?_;unfold XP;dsimp only;simp only[↓zP,zG,Nat.reduceLT,Nat.reduceEqDiff,zI];refine cT (hS) ?_;simp only[↓zP,zG,Nat.reduceLT,Nat.reduceEqDiff,zI];refine cT (mM Tryz.Zb rfl Nt 202 _) ?_;simp only[↓zP,zG,Nat.reduceEqDiff];refine⟨rfl,_,by simp only[↓zP,zR];rfl,?_⟩;exact⟨rfl,rfl⟩
theorem Sy (H:aA):Sound Tryz.prog gv 154 [.aF] H (.ret .aF) H:=by refine fV fit dZ rh (Ae rfl) (by simp only[sf]) ?_ H;unfold cg;dsimp only;obtain⟨H1,hS⟩:=IU (r:=0) (o:=false) (H:=(aA.mk 0 .nil).alloc (.cells [.aF] false)) (by simp) rfl;simp only[↓zP,zG,Nat.reduceLT,Nat.reduceEqDiff,zI];refine cT (RR _) ?_;simp only[];refine cT (hS) ?_;simp only[↓zP,zG,Nat.reduceLT];refine cT (FD _) ?_;simp only[↓zP,zG,Nat.reduceLT];refine⟨rfl,_,by simp only[↓zP,zR];rfl,?_⟩;exact⟨_,0,rfl,fun nw=>rfl⟩
theorem XH (H:aA):Sound Tryz.prog gv 122 [.aF] H (.ret (.eZ [.agg [.aF],.int .i64 120])) H:=by
 refine fV fit dZ q9 (Ae rfl) (by simp only[sf]) ?_ H;unfold cb;dsimp only;refine aB fun K hK=>?_;simp only[↓zP,zG,Nat.reduceLT];apply hK;clear hK K;refine aB fun K hK=>?_;simp only[↓zP,zG,Nat.reduceLT,Nat.reduceEqDiff,zI];refine⟨fun h=>absurd h (by decide),fun _=>?_⟩;apply hK;clear hK K;refine aB fun K hK=>?_;refine aB fun K2 bO=>?_;simp only[↓zP,zG,Nat.reduceLT,Nat.reduceEqDiff,zI];apply bO;clear bO K2;refine bV [] (fun i _ H=>H.get 0=some (.cells [.aF] false)) 0 (by decide) (by decide) ?_ ?_ ?_ ?_ ?_
 . simp only[zB]
 . simp only[zB,Nat.reduceEqDiff];rfl
 . simp only[zI]
 . rintro i f H1 hi;exact absurd hi (Bh _)
 rintro f H1 hk g0;simp only[↓zP];apply hK;clear hK K;refine aB fun K hK=>?_;simp only[↓zP,zG,Nat.reduceLT,Nat.reduceEqDiff,zI,hk 0 rfl];refine cT (Sy _) ?_;simp only[↓zP,zG,Nat.reduceLT];apply hK;clear hK K;refine aB fun K hK=>?_;simp only[↓zP,zG,Nat.reduceLT];refine cT (Kc _) ?_;simp only[↓zP,zG,Nat.reduceLT];apply hK;clear hK K;refine aB fun K hK=>?_;simp only[↓zP,zG,Nat.reduceLT,Nat.reduceEqDiff,zI,Int.reduceLT,hk 2 rfl,g0];refine⟨fun _=>?_,fun h=>absurd (show((0:Int)<4) by decide) (by simp at h)⟩;refine⟨rfl,_,by simp only[↓zP,zR,Nat.reduceEqDiff,hk 2 rfl,g0];rfl,?_⟩;exact⟨_,2,rfl,fun nw=>rfl⟩
theorem LZ (H:aA):Sound Tryz.prog gv 102 [.agg [.aF]] H (.ret (.int .i64 120)) H:=by
 refine So qy (by simp only[sf]) ?_ H;unfold b9;dsimp only;refine aB fun K hK=>?_;simp only[↓zP,zG,Nat.reduceLT,zI];apply hK;clear hK K;refine aB fun K hK=>?_;simp only[↓zP,zG,Nat.reduceLT,Nat.reduceEqDiff,zI];refine cT (XH _) ?_;simp only[↓zP,zG,Nat.reduceLT,Nat.reduceEqDiff,Nat.reduceAdd,zI];apply hK;clear hK K;have hb:((120:Int)==0)=false:=by decide
 refine aB fun K hK=>?_;simp only[↓zP,zG,Nat.reduceLT,Nat.reduceEqDiff,zI,hb];apply hK;clear hK K;simp only[↓zP,zG,Nat.reduceLT,Nat.reduceEqDiff];refine⟨rfl,_,by simp only[↓zP,zR];rfl,?_⟩;rfl
def pC (p:Int×Int):List AV:=[.int .i64 p.1,.int .i64 p.2]
def ug (H:aA) (x:Nat) (v:AV) (l:List (Int×Int)):Prop:=
 (l=[]/\v=.aF)\/∃tC,l≠[]/\v=.sl tC 2 0 l.length l.length/\H.get tC=some (.cells (l.map pC).flatten true)/\¬(x=tC)/\tC<H.next
theorem ug.push {H:aA} {x:Nat} {v:AV} {l:List (Int×Int)} (h:ug H x v l) (RB:x<H.next) (hlen:l.length<2^30) (p:Int×Int):
 ∃v' H',cV H 2 16 true v [pC p]=some (v',H')/\ug H' x v' (l++[p])/\H'.next=H.next+1/\H'.get x=H.get x:=by
 rcases h with ⟨rfl,rfl⟩|⟨tC,cF,rfl,hg,h1,h2⟩
 . exact⟨_,_,vA rfl (by simp),.inr ⟨H.next,by simp,rfl,by rw[aA.aG,if_pos rfl];rfl,by omega,by simp⟩,by simp,by rw[aA.aG,if_neg (by omega)]⟩
 have pz:(l.map pC).flatten.length=l.length*2:=by rw[lW (sz:=2) (fun e he=>?_),Ax];obtain⟨x,_,rfl⟩:=Bq.1 he;rfl
 refine⟨_,_,vB hg pz rfl (by simp only[Ak,Ar];omega) (by decide),.inr ⟨H.next,by simp,by simp,?_,by omega,by simp⟩,by simp,by rw[aA.aG,aA.bD,if_neg (by omega),aA.aI,if_neg (by omega)]⟩;rw[aA.aG,aA.bD,if_pos rfl];simp

end Go.Proofs.YtgggiembljfnhaaGreatDoor
namespace Go.Proofs.YtgggiembljfnhaaGreatDoor
open Go Go.Av Go.aY Go.DL

attribute [local congr] aP aJ aK aH aU aM aL aD
attribute [local irreducible] FC bM dX


def crs (U W:List aY.V):List aY.V:=U.flatMap fun u=>W.filterMap fun w=>if aY.aV u w=V0 then none else some (aY.aV u w)
def pre (D:List aY.V) (U W:List aY.V) (i j:Nat):List aY.V:=D++crs (U.take i) W++crs ((U.drop i).take 1) (W.take j)

end Go.Proofs.YtgggiembljfnhaaGreatDoor
namespace Go.Proofs.YtgggiembljfnhaaGreatDoor
open Go Go.Av Go.aY
theorem KS (l:List aY.V):∃C,Ord l C:=by obtain⟨s,h1,h2⟩:=rC (fun a b:aY.V=>¬kO b a) (fun {a b c} h h'=>by unfold kO at *;omega) (fun a b=>by unfold kO;omega) l;exact⟨dd s s.length,Rj h2 _ (Ai _),fun v=>by rw[JM s v _ (Ai _),Bm];exact h1.mem_iff⟩
noncomputable def Le (l:List aY.V):List aY.V:=Classical.choose (KS l)
theorem CY (l:List aY.V):Ord l (Le l):=Gx (KS l)
noncomputable def GQ (C:List aY.V):List (aY.V×Int):=Classical.choose (pE.exists (fun i=>C.getD i V0) C.length)
theorem wW (C:List aY.V):pE (fun i=>C.getD i V0) C.length (GQ C):=Gx (pE.exists (fun i=>C.getD i V0) C.length)
open Classical in
noncomputable def Xr (C:List aY.V) (q:aY.V×Int):List Nat:=if h:∃L,Poly (fun i=>C.getD i V0) C.length q.1 q.2 L then Classical.choose h else []
theorem XT {C:List aY.V} (h:C.Pairwise kO):bm (fun i=>C.getD i V0) C.length:=fun i j rP hj=>by
 have h1:C.getD i V0=C[i]:=by simp[List.getD,Gr rP hj]
 have h2:C.getD j V0=C[j]:=by simp[List.getD,hj]
 simp only[h1,h2];exact Ez.1 h i j (Gr rP hj) hj rP
theorem HM {C:List aY.V} (h:C.Pairwise kO):Ur C (GQ C) (Xr C) where
 fl:=wW C
 po q hq:=by have hF:=((wW C).mem q).1 hq;have hx:=Poly.exists (XT h) hF.fct;unfold Xr;rw[dif_pos hx];exact Gx hx
noncomputable def NM (l:List aY.V):Int:=NN l (Le l) (GQ (Le l)) (Xr (Le l))
theorem KT {l:List aY.V} (h:l.Pairwise kO):Le l=l:=Ord.uniq (CY l) ⟨h,fun v=>Iff.rfl⟩
theorem zu {l:List aY.V} (h:NM l=0):l.Pairwise kO/\Le l=l/\GQ l≠[]/\(GQ l).length<=64/\l.length<=64/\l≠[]/\∀v∈l,fI (2^18) v:=by
 unfold NM NN at h;split at h
 . cases h
 rename_i h1;have h2:kW (Le l) (GQ (Le l)) (Xr (Le l))=l:=Ct fun hc=>h1 ⟨h,hc⟩;obtain⟨a1,a2,a3⟩:=UA h;have hs:=(CY l).Zd
 have Nh:l.Pairwise kO:=by rw[<-h2];unfold kW;rw[Ie];refine Ig (R:=fun a b=>a<b) ?_ (List.Pairwise.filter _ Im);intro a b ha hb Qx;exact XT hs a b Qx (by simpa using(Dn.1 hb).1)
 have he:=KT Nh;have cF:=Pn (HM hs) a1;rw[h2] at cF;rw[he] at a1;refine⟨Nh,he,a1,?_,a3,cF,?_⟩
 . unfold mT at h;rw[he] at h;split at h
   . cases h
   split at h
   . cases h
   split at h
   . cases h
   split at h
   . cases h
   omega
 unfold mT at h;split at h
 . cases h
 split at h
 . cases h
 rename_i hb;intro v hv;have vR:l.all jc=true:=by simpa using hb
 exact Po.1 (Bc.1 vR v hv)
theorem XY:NM []=120:=by
 have h:Le []=[]:=KT .nil;unfold NM NN;rw[h]
 have hS:GQ []=[]:=by
  cases hf:GQ [] with
  |nil=>rfl
  |cons q r=>have :=((wW []).mem q).1 (by rw[hf];simp);obtain⟨k,hk,_⟩:=this.lt;exact absurd hk (Bh _)
 rw[hS];rfl
open Classical in

attribute [local congr] aP aJ aK aH aU aM aL aD
attribute [local irreducible] FC bM dX
def IS (p:AV×List aY.V):Prop:=(p.1=.aF/\p.2=[])\/p.1=.bH 0 3 (gL p.2)
def pvE (ps:List (AV×List aY.V)):List (List AV):=ps.map fun p=>[p.1]
def RP (pv:AV) (ps:List (AV×List aY.V)):Prop:=(pv=.aF/\ps=[])\/pv=.bH 0 1 (pvE ps)
theorem IS.free {p:AV×List aY.V} (h:IS p):p.1.free=true:=by
 rcases h with ⟨h,_⟩|h
 . rw[h];rfl
 rw[h];exact kU rfl _
theorem ZG {ps:List (AV×List aY.V)} (h:∀p∈ps,IS p):dS (pvE ps)=true:=by
 induction ps with
 |nil=>simp only[pvE,Ci,dS]
 |cons p ps ih=>have h1:=(h p Aq).free;have h2:=ih fun x hx=>h x (Ao _ hx);simp only[pvE] at h2;simp only[pvE,Be,dS,bN,h1,h2,Cx]
theorem RP.free {pv:AV} {ps:List (AV×List aY.V)} (h:RP pv ps) (hp:∀p∈ps,IS p):pv.free=true:=by
 rcases h with ⟨h,_⟩|h
 . rw[h];rfl
 rw[h];simp only[AV.free,ZG hp];rfl
theorem LY {p:AV×List aY.V} (h:IS p) (hlen:p.2.length<2^30) (H:aA):Sound Tryz.prog gv 102 [.agg [p.1]] H (.ret (.int .i64 (NM p.2))) H:=by
 rcases h with ⟨h1,h2⟩|h1
 . rw[h1,h2,XY];exact LZ H
 rw[h1];exact Nj rfl hlen (CY _) (HM (CY _).Zd) H
def nr (name:List UInt8) (pv:AV) (m0 m1 r0 r1:Int):List AV:=[.str name,pv,.int .i64 m0,.int .i64 m1,.int .i64 r0,.int .i64 r1]
end Go.Proofs.YtgggiembljfnhaaGreatDoor
namespace Go.Proofs.YtgggiembljfnhaaGreatDoor
open Go Go.Av
def mG (v:AV) (sz:Nat) (els:List (List AV)):Prop:=(v=.aF/\els=[])\/v=.bH 0 sz els
theorem mG.len {v:AV} {sz:Nat} {els:List (List AV)} (h:mG v sz els) (H:aA):cD (fun _=>v) H (.GU (.tmp 0))=some (.int .i64 els.length,H):=by rcases h with ⟨rfl,rfl⟩|rfl<;>rfl
theorem mG.bH {v:AV} {sz:Nat} {els:List (List AV)} (h:mG v sz els) {i:Nat} (hi:i<els.length):v=.bH 0 sz els:=by
 rcases h with ⟨_,rfl⟩|h
 . exact absurd hi (Bh _)
 exact h
theorem jQ {els:List (List AV)} (h:∀e∈els,bN e=true):dS els=true:=by
 induction els with
 |nil=>rfl
 |cons e els ih=>simp only[dS,h e Aq,ih fun x hx=>h x (Ao _ hx),Cx]
theorem mG.free {v:AV} {sz:Nat} {els:List (List AV)} (h:mG v sz els) (hf:∀e∈els,bN e=true):v.free=true:=by
 rcases h with ⟨rfl,_⟩|rfl
 . rfl
 simp only[AV.free,jQ hf];rfl
structure Th where
 kind:Int
 name:List UInt8
 pv:AV
 ps:List (AV×List aY.V)
 m0:Int
 m1:Int
 r0:Int
 r1:Int
 store:List Int
def Th.cs (t:Th):List AV:=AV.int .i64 t.kind::(nr t.name t.pv t.m0 t.m1 t.r0 t.r1++iC t.store)
structure Th.OK (t:Th):Prop where
 name:t.name.length<2^63
 parts:RP t.pv t.ps
 part:∀p∈t.ps,IS p
 store:t.store.length=7
 i64:nI t.store
theorem Th.len {t:Th} (h:t.OK):t.cs.length=14:=by simp[Th.cs,nr,tR,h.store]
def dQ (l:List (List Int)):List (List AV):=l.map iC
theorem eL (l:List (List Int)):(dQ l).length=l.length:=Ax _
theorem uA {l:List (List Int)} {i:Nat} (hi:i<l.length):(dQ l).getD i []=iC l[i]:=by simp[dQ,hi]
theorem dO (l:List (List Int)):∀e∈dQ l,bN e=true:=fun e he=>by obtain⟨w,_,rfl⟩:=Bq.1 he;exact UC w
def W27:CW Tryz.f27:=⟨_,xV⟩
theorem aLz:Fi 27 W27:=cN Tryz.func27 W27
def W32:CW Tryz.f32:=⟨_,xV⟩
theorem aMd:Fi 32 W32:=cN Tryz.func32 W32
def W14:CW Tryz.f14:=⟨_,cX⟩
theorem aLr:Fi 14 W14:=cN Tryz.func14 W14
def W11:CW Tryz.f11:=⟨_,xV⟩
theorem aLq:Fi 11 W11:=cN Tryz.func11 W11
def W29:CW Tryz.f29:=⟨_,cX⟩
theorem aMb:Fi 29 W29:=cN Tryz.func29 W29
def W66:CW Tryz.f66:=⟨_,cX⟩
theorem aNa:Fi 66 W66:=cN Tryz.func66 W66
def W67:CW Tryz.f67:=⟨_,cX⟩
theorem aNb:Fi 67 W67:=cN Tryz.func67 W67
def uk:CW Tryz.f105:=⟨_,cX⟩
theorem aEn:Fi 105 uk:=cN Tryz.func105 uk
def W28:CW Tryz.f28:=⟨_,cX⟩
theorem aMa:Fi 28 W28:=cN Tryz.func28 W28
def W31:CW Tryz.f31:=⟨_,cX⟩
theorem aMc:Fi 31 W31:=cN Tryz.func31 W31
attribute [local congr] aP aJ aK aH aU aM aL aD
attribute [local irreducible] FC bM dX
def OA (sz:Nat) (els:List (List AV)):AV:=if els=[] then .aF else .bH 0 sz els
theorem sW (sz:Nat) (els:List (List AV)):mG (OA sz els) sz els:=by
 unfold OA;split
 . rename_i h;exact .inl ⟨rfl,h⟩
 exact .inr rfl
theorem _root_.Go.Av.jW.shut {H:aA} {sz:Nat} {v:AV} {els:List (List AV)} (h:jW H sz v els) (hf:dS els=true) (nw:Nat):fG H none nw 0 v=some (OA sz els):=by
 unfold OA;split
 . rename_i he;rw[h.2 he];rfl
 rename_i cF;refine Has.shut (.inr h.1) cF (fun e=>?_) hf nw
 rcases h.1 with ⟨h1,h2⟩|⟨k,h1,_⟩
 . exact cF h2
 rw[h1] at e;cases e
def bE (l:List Bool):List (List AV):=l.map fun b=>[.bool b]
theorem qZ (l:List Bool):(bE l).length=l.length:=Ax _
theorem TU {l:List Bool} {i:Nat} (hi:i<l.length):(bE l).getD i []=[.bool l[i]]:=by simp[bE,hi]
theorem pJ (l:List Bool):∀e∈bE l,bN e=true:=fun e he=>by obtain⟨w,_,rfl⟩:=Bq.1 he;rfl
structure Sc where
 sv:AV
 pv:AV
 vv:AV
 wv:AV
 tv:AV
 av:AV
 st:List Bool
 ps:List (List Int)
 vs:List (List Int)
 ws:List (List Int)
 ta:List Bool
 ac:List Bool
structure Sc.OK (s:Sc):Prop where
 st:mG s.sv 1 (bE s.st)
 ps:mG s.pv 7 (dQ s.ps)
 vs:mG s.vv 3 (dQ s.vs)
 ws:mG s.wv 3 (dQ s.ws)
 ta:mG s.tv 1 (bE s.ta)
 ac:mG s.av 1 (bE s.ac)
 p7:∀p∈s.ps,p.length=7/\nI p
 v3:∀w∈s.vs,w.length=3/\nI w
 w3:∀w∈s.ws,w.length=3/\nI w
 bH:s.st.length<2^30
 tc:s.ps.length<2^30
 lvs:s.vs.length<2^30
 lws:s.ws.length<2^30
 lta:s.ta.length<2^30
 lac:s.ac.length<2^30
def Sc.cs (s:Sc):List AV:=[s.sv,s.pv,s.vv,s.wv,s.tv,s.av]
theorem Sc.free {s:Sc} (h:s.OK):bN s.cs=true:=by simp only[Sc.cs,sf,h.st.free (pJ _),h.ps.free (dO _),h.vs.free (dO _),h.ws.free (dO _),h.ta.free (pJ _),h.ac.free (pJ _)]
def zV:List Int:=[0,0,0]
end Go.Proofs.YtgggiembljfnhaaGreatDoor
namespace Go.Proofs.YtgggiembljfnhaaGreatDoor
open Go Go.Av Go.aY
open Go.ChangeShapes Go.WideShapes Go.ChangeAt Go.RowKit
section
theorem Ox {H:Type} (d:DataW H):1<=Rows.uptoBulk d:=by
 cases d with
 |lit l=>cases l<;>simp[Rows.uptoBulk]
 |_=>simp[Rows.uptoBulk]
theorem Ov {H:Type}:∀l:List (DataW H),l.length<=Rows.uptoBulkAll l
 |[]=>Cs _
 |d::l=>by have :=Ox d;have :=Ov l;simp only[Rows.uptoBulkAll,Ak];omega
theorem Ow {H:Type} {d:DataW H}:∀{l:List (DataW H)},d∈l->Rows.uptoBulk d<=Rows.uptoBulkAll l
 |x::l,h=>by
  simp only[Rows.uptoBulkAll]
  rcases Ah.1 h with rfl|h
  . omega
  have :=Ow h;omega
def bg:Value->Int
 |.int _ n=>n
 |_=>0
section
variable {H:Type} {enc:TypeId×Value->H} {W:World} {base:Nat} {hd:Bool}
theorem AA {α:Type} [Inhabited α] {t e:TypeId} {n m:Nat} {v:Value} {y:DataW H×List MemPlace} (mo:Bool) (ht:Tryz.prog.underlying t=some (.slice e)) (hn:Tryz.prog.cellsOf e=n) (h0:0<n) (f:α->List AV) (Q:α->Prop)
 (hq:∀r,Q r->(f r).length=n/\∀c∈f r,c.one=true)
 (hx:∀(cs:List Value) (m:Nat) (y:DataW H×List MemPlace),cs.length=n->DataW.trod enc Tryz.prog W base (fun _=>true) hd m e cs=some y->∃r,Q r/\∀j,j<n->VR (nH mo W) W ((f r).getD j aC) (cs.getD j undef))
 (h:DataW.trod enc Tryz.prog W base (fun _=>true) hd m t [v]=some y):
 ∃(av:AV) (l:List α),mG av n (l.map f)/\(∀r∈l,Q r)/\VR (nH mo W) W av v/\l.length+1<=Rows.uptoBulk y.1/\l.length<2^63:=by
 rcases Go.Deep.open_slice ht h with ⟨h1,h2⟩|⟨a,len,cap,mm,k,D,Pl,hv,hb,hl,hm,hmm,rfl,hc⟩
 . obtain rfl:v=.slice none 0 0:=by simpa using h1
   exact⟨.aF,[],.inl ⟨rfl,rfl⟩,by simp,.aF,Ox _,by simp⟩
 obtain rfl:v=.slice (some a) len cap:=by simpa using hv
 have hmc:mm=cap:=by simpa using hmm
 subst hmc
 obtain⟨g,hg⟩:=Go.Deep.choose_lt (α:=α×List Value) (n:=len) (p:=fun i r=>Q r.1/\r.2.length=n/\(∀j,j<n->W.cell? (a.add (i*n+j))=some (r.2.getD j undef))/\∀j,j<n->VR (nH mo W) W ((f r.1).getD j aC) (r.2.getD j undef)) (fun i hi=>by
  obtain⟨cs,h1,h2⟩:=hc i (by omega);rw[hn] at h1;obtain⟨_,hlen,iD⟩:=World.cells?_some h1;obtain⟨r,hr,hvr⟩:=hx cs _ _ hlen h2;refine⟨(r,cs),hr,hlen,fun j hj=>?_,hvr⟩;rw[<-Go.Deep.add_add,iD j hj,List.getD,Ac (by omega)]
  rfl)
 have YI:((List.range len).map fun i=>(g i).1).length+1<=Rows.uptoBulk (DataW.slice ((List.range len).map D) ((List.range (mm -len)).map fun j=>D (len+j))):=by have :=Ov ((List.range len).map D);simp only[Rows.uptoBulk,Ax,Cl] at this ⊢;omega
 have nE:mm<=2^63 -1:=hm;have aKs:((List.range len).map fun i=>(g i).1).length<2^63:=by rw[Ax,Cl];omega
 obtain⟨b,o,s⟩:=a
 cases s with
 |some s=>
  have Vl:mm=0:=by
   rcases Nat.eq_zero_or_pos mm with h|h
   . exact h
   obtain⟨cs,h1,_⟩:=hc 0 h;rw[hn] at h1;obtain⟨_,hlen,iD⟩:=World.cells?_some h1;have :=iD 0 h0;rw[Ac (by omega)] at this;have :=WY this;simp[Addr.add] at this
  subst Vl;obtain rfl:len=0:=by omega
  exact⟨.bH 0 n [],[],.inr rfl,by simp,.rE 0 n b o s (by decide),YI,by simp⟩
 |none=>
  refine⟨.bH 0 n (((List.range len).map fun i=>(g i).1).map f),(List.range len).map fun i=>(g i).1,.inr rfl,fun r hr=>?_,?_,YI,aKs⟩
  . obtain⟨i,hi,rfl⟩:=Bq.1 hr;exact(hg i (Bn.1 hi)).1
  have hu:∀e∈((List.range len).map fun i=>(g i).1).map f,e.length=n:=fun e he=>by simp only[Ht,Bq,Bn] at he;obtain⟨i,hi,rfl⟩:=he;exact(hq _ (hg i hi).1).1
  have Nb:(((List.range len).map fun i=>(g i).1).map f).length=len:=by simp
  have pI:(((List.range len).map fun i=>(g i).1).map f).flatten.length=len*n:=by
   have :∀(L:List (List AV)),(∀e∈L,e.length=n)->L.flatten.length=L.length*n:=by
    intro L
    induction L with
    |nil=>intro _;simp
    |cons x L ih=>intro hL;rw[Bo,Ag,hL x Aq,ih fun e he=>hL e (Ao _ he),Ak,Ce,Fv,Gc]
   rw[this _ hu,Nb]
  have at_:∀j,j<len*n->j / n<len/\j%n<n/\j / n*n+j%n=j/\(((List.range len).map fun i=>(g i).1).map f).flatten.getD j aC=(f (g (j / n)).1).getD (j%n) aC:=fun j hj=>by have h1:j / n<len:=Nat.div_lt_of_lt_mul (by rwa [Cn]);have h2:j%n<n:=Dp _ h0;have h3:j / n*n+j%n=j:=(by rw[Cn];exact Em j n);refine⟨h1,h2,h3,?_⟩;have :=tM hu (i:=j / n) (j:=j%n) (by rw[Nb];exact h1) h2;rw[h3] at this;rw[this];simp[List.getD,h1]
  have :=VR.bH (G:=nH mo W) (w:=W) 0 n (((List.range len).map fun i=>(g i).1).map f) b o mm (fun j=>(g (j / n)).2.getD (j%n) undef) hu
   (fun j hj=>by
     rw[pI] at hj;obtain⟨h1,h2,h3,h4⟩:=at_ j hj;obtain⟨q1,q2,q3,q4⟩:=hg _ h1;have iD:=q3 _ h2;rw[h3,XQ] at iD;refine⟨⟨_,iD⟩,iD,?_⟩;rw[h4];have pt:=(hq _ q1).1;refine(hq _ q1).2 _ ?_;rw[List.getD,Ac (by omega)]
     exact Ap _)
   (fun j hj=>by
     rw[pI] at hj;obtain⟨h1,h2,h3,h4⟩:=at_ j hj;rw[h4]
     exact(hg _ h1).2.2.2 _ h2)
   ⟨by rw[Nb];exact hl,trivial⟩
  rw[Nb] at this;exact this
theorem TJ {G:Gh} {cs:List Value} {i:Nat} (h:∃n,cs[i]?=some (.int .i64 n)/\(Lit.int .i64 n).wf=true):VR G W (.int .i64 (bg (cs.getD i undef))) (cs.getD i undef):=by obtain⟨n,hn,_⟩:=h;rw[List.getD,hn];exact .int _ _
theorem SI {cs:List Value} {i:Nat} (h:∃n,cs[i]?=some (.int .i64 n)/\(Lit.int .i64 n).wf=true): -2^63<=bg (cs.getD i undef)/\bg (cs.getD i undef)<2^63:=by obtain⟨n,hn,hw⟩:=h;rw[List.getD,hn];simp[Lit.wf,IntKind.min,IntKind.max,IntKind.signed,IntKind.bits] at hw;simp only[Bb,bg];omega
def ivL (cs:List Value) (o n:Nat):List Int:=(List.range n).map fun j=>bg (cs.getD (o+j) undef)
theorem UD (cs:List Value) (o n:Nat):(ivL cs o n).length=n:=by simp[ivL]
theorem aBl {cs:List Value} {o n j:Nat} (hj:j<n):(iC (ivL cs o n)).getD j aC=.int .i64 (bg (cs.getD (o+j) undef)):=by rw[BT (by rw[UD];exact hj)];simp[ivL,hj]
theorem jd {cs:List Value} {o n:Nat} (h:∀j,j<n->∃r,cs[o+j]?=some (.int .i64 r)/\(Lit.int .i64 r).wf=true):nI (ivL cs o n):=fun x hx=>by obtain⟨j,hj,rfl⟩:=Bq.1 hx;exact SI (h j (Bn.1 hj))
theorem xF {t e:TypeId} {n m:Nat} {v:Value} {y:DataW H×List MemPlace} (mo:Bool) (ht:Tryz.prog.underlying t=some (.slice e)) (hf:PW Tryz.prog 8 e=some (List.replicate n 3)) (hn:Tryz.prog.cellsOf e=n) (h0:0<n)
 (h:DataW.trod enc Tryz.prog W base (fun _=>true) hd m t [v]=some y):
 ∃(av:AV) (l:List (List Int)),mG av n (dQ l)/\(∀r∈l,r.length=n/\nI r)/\VR (nH mo W) W av v/\l.length+1<=Rows.uptoBulk y.1/\l.length<2^63:=
 AA mo ht hn h0 iC (fun r=>r.length=n/\nI r) (fun r hr=>⟨by rw[tR];exact hr.1,fun c hc=>by obtain⟨x,_,rfl⟩:=Bq.1 hc;rfl⟩)
  (fun cs m y hl hy=>by
    have R:=xO 8 hf hy
    have hi:∀j,j<n->∃r,cs[0+j]?=some (.int .i64 r)/\(Lit.int .i64 r).wf=true:=fun j hj=>by rw[Cc];exact AE R (u:=3) (by simp[hj]) Tryz.underlying3
    refine⟨ivL cs 0 n,⟨UD _ _ _,jd hi⟩,fun j hj=>?_⟩;rw[aBl hj,Cc];have :=hi j hj;rw[Cc] at this
    exact TJ this) h
theorem AB {m:Nat} {v:Value} {y:DataW H×List MemPlace} (mo:Bool) (h:DataW.trod enc Tryz.prog W base (fun _=>true) hd m 28 [v]=some y):
 ∃(av:AV) (l:List Bool),mG av 1 (bE l)/\VR (nH mo W) W av v/\l.length+1<=Rows.uptoBulk y.1/\l.length<2^63:=by
 obtain⟨av,l,h1,_,h2,h3⟩:=AA (α:=Bool) mo Tryz.underlying28 (n:=1) (by kernel_rfl) (by decide) (fun b=>[.bool b]) (fun _=>True) (fun r _=>⟨rfl,fun c hc=>by rw[Dc] at hc;subst hc;rfl⟩)
  (fun cs m y hl hy=>by
    obtain⟨b,rfl,_⟩:=DataW.trod_bool Tryz.underlying4 hy;refine⟨b,trivial,fun j hj=>?_⟩;obtain rfl:j=0:=by omega
    exact .bool b) h
 exact⟨av,l,h1,h2,h3⟩
instance:Inhabited Th:=⟨⟨0,[],.aF,[],0,0,0,0,[]⟩⟩
end
end
end Go.Proofs.YtgggiembljfnhaaGreatDoor
namespace Go.Proofs.YtgggiembljfnhaaGreatDoor
open Go Go.Av
attribute [local congr] aP aJ aK aH aU aM aL aD
attribute [local irreducible] FC bM dX
def Vo (n r u:Nat) (s:Sc):Bool:=(s.st.length:Int) != n||((s.ps.length:Int) != n||((s.vs.length:Int) != n||((s.ws.length:Int) != n||((s.ta.length:Int) != r||(s.ac.length:Int) != u))))
def aJt (p q v w:List Int) (b:Bool):Bool:=aJg p != 0||((!(inV 1099511627775 v&&inV 1099511627775 w))||(!b&&(!decide (p=q)|| !(decide (v=zV)&&decide (w=zV)))))
def aJu (ts:List Th) (s:Sc) (k:Nat):Bool:=aJt (s.ps.getD k []) ((ts.map (·.store)).getD k []) (s.vs.getD k []) (s.ws.getD k []) (s.st.getD k false)
def Xv (ts:List Th) (r u:Nat) (s:Sc):Bool:= !Vo ts.length r u s&& !(List.range ts.length).any (aJu ts s)
theorem Va {ts:List Th} {r u:Nat} {s:Sc} (h:Vo ts.length r u s=true):Xv ts r u s=false:=by unfold Xv;rw[h];rfl
theorem jn {n r u:Nat} {s:Sc} (h:Vo n r u s=false):s.st.length=n/\s.ps.length=n/\s.vs.length=n/\s.ws.length=n/\s.ta.length=r/\s.ac.length=u:=by simp only[Vo,Bool.or_eq_false_iff,bne_eq_false_iff_eq] at h;omega
structure Sc.OK1 (s:Sc):Prop where
 st:mG s.sv 1 (bE s.st)
 ps:mG s.pv 7 (dQ s.ps)
 vs:mG s.vv 3 (dQ s.vs)
 ws:mG s.wv 3 (dQ s.ws)
 ta:mG s.tv 1 (bE s.ta)
 ac:mG s.av 1 (bE s.ac)
 p7:∀p∈s.ps,p.length=7/\nI p
 v3:∀w∈s.vs,w.length=3/\nI w
 w3:∀w∈s.ws,w.length=3/\nI w
theorem Sc.OK1.ok {s:Sc} (h:s.OK1) {ts:List Th} {r u:Nat} (hf:Xv ts r u s=true) (h1:ts.length<2^30) (h2:r<2^30) (h3:u<2^30):s.OK:=by
 have hl:Vo ts.length r u s=false:=by
  cases e:Vo ts.length r u s with
  |false=>rfl
  |true=>rw[Va e] at hf;cases hf
 obtain⟨l1,l2,l3,l4,l5,l6⟩:=jn hl;exact⟨h.st,h.ps,h.vs,h.ws,h.ta,h.ac,h.p7,h.v3,h.w3,by omega,by omega,by omega,by omega,by omega,by omega⟩
theorem Sc.oi {s:Sc} (h:s.OK1):bN s.cs=true:=by simp only[Sc.cs,sf,h.st.free (pJ _),h.ps.free (dO _),h.vs.free (dO _),h.ws.free (dO _),h.ta.free (pJ _),h.ac.free (pJ _)]
def oC (k n:Int) (pv:AV):List AV:=[.int .i64 k,.int .i64 n,pv]
end Go.Proofs.YtgggiembljfnhaaGreatDoor
namespace Go.Proofs.YtgggiembljfnhaaGreatDoor
open Go Go.Av Go.aY
open Go.ChangeShapes Go.WideShapes Go.ChangeAt Go.RowKit
section
theorem mG.aJb {v:AV} {sz:Nat} {els:List (List AV)} (h:mG v sz els):v.one=true:=by rcases h with ⟨rfl,_⟩|rfl<;>rfl
section
variable {H:Type} {enc:TypeId×Value->H} {W:World} {base:Nat} {hd:Bool}
structure OpD where
 k:Int
 n:Int
 pv:AV
 ps:List (List Int)
instance:Inhabited OpD:=⟨⟨0,0,.aF,[]⟩⟩
def OpD.cs (o:OpD):List AV:=oC o.k o.n o.pv
structure OpD.OK (o:OpD):Prop where
 k:pF o.k
 n:pF o.n
 pv:mG o.pv 7 (dQ o.ps)
 p7:∀p∈o.ps,p.length=7/\nI p
 len:o.ps.length<2^63
end
end
end Go.Proofs.YtgggiembljfnhaaGreatDoor
namespace Go.Proofs.YtgggiembljfnhaaGreatDoor
open Go Go.Av
attribute [local congr] aP aJ aK aH aU aM aL aD
attribute [local irreducible] FC bM dX
theorem ja {l:List Int} {i:Nat} (hi:i<l.length):(bU l).getD i []=[.int .i64 l[i]]:=by simp[bU,hi]
theorem BU (l:List Int):∀e∈bU l,bN e=true:=fun e he=>by obtain⟨w,_,rfl⟩:=Bq.1 he;rfl
theorem jW.td {H H':aA} {sz:Nat} {v:AV} {els:List (List AV)} (h:jW H sz v els) (hn:H.next<=H'.next) (ho:∀j,j<H.next->H'.get j=H.get j):jW H' sz v els:=by
 refine⟨?_,h.2⟩
 rcases h.1 with h1|⟨k,h1,h2,h3⟩
 . exact .inl h1
 exact .inr ⟨k,h1,by omega,by rw[ho _ h2];exact h3⟩
theorem _root_.Go.Av.Own.Sa {H:aA} {sz:Nat} {v:AV} {els:List (List AV)} (ho:Own H sz v els) {id:Nat} {cs:List AV} {o:Bool} (h:H.get id=some (.cells cs o)):nD v≠some id:=fun e=>by
 rcases ho with ⟨rfl,_⟩|⟨k,rfl,_,hk⟩
 . cases e
 cases e;rw[h] at hk;cases hk
theorem _root_.Go.Av.Us.cells {H H':aA} {sz:Nat} {v:AV} {els:List (List AV)} (hg:Us H H' v) (ho:Own H sz v els) {id:Nat} {cs:List AV} {o:Bool} (bZ:id<H.next) (h:H.get id=some (.cells cs o)):H'.get id=some (.cells cs o):=by rw[hg.get id (ho.Sa h) bZ,h]
theorem _root_.Go.Av.jW.one {H:aA} {sz:Nat} {v:AV} {els:List (List AV)} (h:jW H sz v els):v.cells=[v]/\v.oK=false/\v.cells.length=1:=by rcases h.1 with ⟨rfl,_⟩|⟨k,rfl,_⟩<;>exact⟨rfl,rfl,rfl⟩
theorem mG.oi {v:AV} {l:List Int} (h:mG v 1 (bU l)):v.free=true:=h.free (BU _)
def W91:CW Tryz.f91:=⟨_,cX⟩
theorem aNp:Fi 91 W91:=cN Tryz.func91 W91
def W51:CW Tryz.f51:=⟨_,cX⟩
theorem aMm:Fi 51 W51:=cN Tryz.func51 W51
def W18:CW Tryz.f18:=⟨_,cX⟩
theorem aLt:Fi 18 W18:=cN Tryz.func18 W18
def zm:CW Tryz.f49:=⟨_,cX⟩
theorem aIk:Fi 49 zm:=cN Tryz.func49 zm
def W52:CW Tryz.f52:=⟨_,cX⟩
theorem aMn:Fi 52 W52:=cN Tryz.func52 W52
def W92:CW Tryz.f92:=⟨_,cX⟩
theorem aNq:Fi 92 W92:=cN Tryz.func92 W92
def W50:CW Tryz.f50:=⟨_,cX⟩
theorem aMl:Fi 50 W50:=cN Tryz.func50 W50
def W53:CW Tryz.f53:=⟨_,cX⟩
theorem aMo:Fi 53 W53:=cN Tryz.func53 W53
def W20:CW Tryz.f20:=⟨_,xV⟩
theorem aLv:Fi 20 W20:=cN Tryz.func20 W20
def W10:CW Tryz.f10:=⟨_,cX⟩
theorem aLp:Fi 10 W10:=cN Tryz.func10 W10
def dJ (z:Nat):List Nat:=if z<=127 then [z] else(z%128+128)::dJ (z / 128)
termination_by z
def mF (n:Int):Nat:=if 0<=n then(2*n).toNat else(-2*n -1).toNat
theorem lQ {n:Int} (h:pF n):mF n<2^64:=by unfold pF at h;unfold mF;split<;>omega
theorem Ql:∀(k z:Nat),z<128^(k+1)->(dJ z).length<=k+1
 |0,z,h=>by rw[dJ,if_pos (by omega)];simp
 |k+1,z,h=>by
  rw[dJ];split
  . simp
  have :=Ql k (z / 128) (by rw[Dm] at h;omega);simp only[Ak];omega
theorem eI {z:Nat} (h:z<2^64):(dJ z).length<=10:=Ql 9 z (by omega)
theorem lD (z:Nat):dJ z≠[]:=by rw[dJ];split<;>simp
theorem wrap_u64 {x:Int} (h0:0<=x) (h1:x<2^64):IntKind.u64.wrap x=x:=by simp only[IntKind.wrap,IntKind.bits,IntKind.signed];simp;omega
theorem lo7 {m:Nat} (h:m<=127):IntKind.u8.wrap ↑m=((m:Nat):Int):=by simp only[IntKind.wrap,IntKind.bits,IntKind.signed];simp;omega
theorem fL {l:List Nat} (h:l≠[]):aO l≠[]:=by simpa [aO] using h
theorem QT {n:Int} (hn:pF n) (H:aA):Sound Tryz.prog gv 91 [.int .i64 n] H (.ret (.bH (H.next+2) 1 (aO (dJ (mF n))))) (H.alloc .tok):=by
 have hz:=lQ hn;have LX:=hn;unfold pF at LX;refine fW dZ rfl (fL (lD _)) (bW _) (bL fit aNp (Ae rfl) ?_ (by rfl)) H;unfold W91;dsimp only;refine aB fun K hK=>?_;simp only[↓zP,zG,seval];apply hK;clear hK K;refine aB fun K hK=>?_;simp only[↓zP,zG,seval,zI];apply hK;clear hK K;refine aB fun K hK=>?_
 have key:∀f:cQ,f 3=.int .u64 (mF n)->K f [] ⟨0,.nil⟩:=by
  intro f f3;apply hK;clear hK K;refine aB fun K hK=>?_;simp only[↓zP,zG,seval];apply hK;clear hK K;refine aB fun K hK=>?_;refine aS (jI [3,4] (fun m vs H=>∃(v:AV) (pre:List Nat),vs=[.int .u64 m,v]/\m<2^64/\Own H 1 v (aO pre)/\pre++dJ m=dJ (mF n)) (mF n) (by rfl) ?_ ?_)
  . exact⟨.aF,[],by simp only[sm,zB,seval,f3],hz,.nil _ _,by simp⟩
  rintro m f4 H1 hk ⟨v,pre,gV,eW,Nf,SF⟩;simp only[sm,Am,Bs] at gV;obtain⟨v3,v4⟩:=gV;have Jp:=eI hz;rw[<-SF,Ag] at Jp;by_cases xB:m≥128
  . have d1:=Bk (show(m:Int)≥128 by omega);have AM:dJ m=(m%128+128)::dJ (m / 128):=by rw[dJ,if_neg (by omega)]
    have w1:IntKind.u8.wrap ((m:Int).tmod 128)=((m%128:Nat):Int):=by rw[Int.tmod_eq_emod_of_nonneg (by omega),Qt rfl];simp only[IntKind.bits];omega
    have w2:IntKind.u8.wrap (((m%128:Nat):Int)+128)=((m%128+128:Nat):Int):=by rw[Qt rfl];simp only[IntKind.bits];omega
    have w3:IntKind.u64.wrap ((m:Int).tdiv 128)=((m / 128:Nat):Int):=by rw[Hw (by omega),Qt rfl];simp only[IntKind.bits];omega
    have uP:∀l:List Nat,(aO l).length=l.length:=bB;obtain⟨v',H',ha,e2,e3⟩:=Nf.append (bytes:=1) (ys:=aO [m%128+128]) (by rw[AM] at Jp;simp only[bB,Ak,Ar] at Jp ⊢;omega);simp only[aO,Be,Ci] at ha;refine aB fun K2 bO=>?_;simp only[↓zP,zG,seval,v3,d1];apply bO;clear bO K2;refine aS ?_;refine aB fun K2 bO=>?_;simp only[↓zP,zG,seval,zI,v3,v4,show ¬((128:Int)=0) by decide,w1,w2,show ∀(h:aA) (x:AV),bJ h 1 (.bH 1 1 [[x]])=some [[x]] from fun _ _=>rfl,ha];apply bO;clear bO K2;simp only[↓zP,zG,seval,zI,v3,show ¬((128:Int)=0) by decide,w3];exact⟨m / 128,by omega,v',pre++[m%128+128],by simp only[seval],by omega,by rw[cK];exact e2,by rw[<-SF,AM];simp⟩
  have d1:=As (show ¬(m:Int)≥128 by omega);have hle:m<=127:=by omega
  have AM:dJ m=[m]:=by rw[dJ,if_pos hle]
  obtain⟨v',H',ha,e2,e3⟩:=Nf.append (bytes:=1) (ys:=aO [m]) (by rw[AM] at Jp;simp only[bB,Ak,Ar] at Jp ⊢;omega);simp only[aO,Be,Ci] at ha;simp only[↓zP,zG,seval,v3,d1];apply hK;clear hK K;simp only[↓zP,zG,seval,zI,v3,v4,lo7 hle,show ∀(h:aA) (x:AV),bJ h 1 (.bH 1 1 [[x]])=some [[x]] from fun _ _=>rfl,aO,ha];refine Rx ?_;refine⟨v',rfl,?_⟩;rw[<-SF,AM];show Own H' 1 v' (aO (pre++[m]));rw[cK];exact e2
 by_cases ic:n<0
 . have d1:=Bk ic;have w1:IntKind.i64.wrap (-1 -n)= -1 -n:=wrap_i64 (by omega) (by omega);have w2:IntKind.u64.wrap (-1 -n)= -1 -n:=wrap_u64 (by omega) (by omega);have w3:IntKind.u64.wrap ((-1 -n)*2)=(-1 -n)*2:=wrap_u64 (by omega) (by omega)
   have w4:IntKind.u64.wrap ((-1 -n)*2+1)=(mF n:Int):=by rw[wrap_u64 (by omega) (by omega)];unfold mF;rw[if_neg (by omega)];omega
   simp only[↓zP,zG,seval,zI,d1,w1,w2,w3,w4];exact key _ (by simp only[zB,seval])
 have d1:=As ic;have w2:IntKind.u64.wrap n=n:=wrap_u64 (by omega) (by omega)
 have w4:IntKind.u64.wrap (n*2)=(mF n:Int):=by rw[wrap_u64 (by omega) (by omega)];unfold mF;rw[if_pos (by omega)];omega
 simp only[↓zP,zG,seval,zI,d1,w2,w4];exact key _ (by simp only[zB,seval])
def bC (l:List Int):List Nat:=dJ (mF l.length)++l.flatMap fun x=>dJ (mF x)
theorem tI (l:List Int):bC l≠[]:=by unfold bC;intro h;exact lD _ (List.append_eq_nil_iff.1 h).1
theorem rZ {α:Type} {l:List α} {i:Nat} (f:α->List Nat) (hi:i<l.length):(l.take (i+1)).flatMap f=(l.take i).flatMap f++f l[i]:=by rw[Bv,Ac hi,List.flatMap_append];simp
theorem qE:∀{l:List Int},(∀x∈l,pF x)->(l.flatMap fun x=>dJ (mF x)).length<=10*l.length
 |[],_=>by simp
 |x::l,h=>by have h1:=qE (l:=l) fun y hy=>h y (Ao _ hy);have h2:=eI (lQ (h x Aq));rw[Cq,Ag,Ak];omega
theorem mJ {n:Nat} (h:n<2^62):pF (n:Int):=by unfold pF;omega
theorem Ss {v:AV} {l:List Int} (hv:mG v 1 (bU l)) (hr:∀x∈l,pF x) (hl:l.length<2^33) (H:aA):Sound Tryz.prog gv 51 [v] H (.ret (.bH (H.next+2) 1 (aO (bC l)))) (H.alloc .tok):=by
 refine fW dZ (by simp only[bN,hv.oi];rfl) (fL (tI _)) (bW _) (bL fit aMm (Ae rfl) ?_ (by rfl)) H;unfold W51;dsimp only;have lv:=hv.len;simp only[cD] at lv;rw[bQ] at lv;have hn:=QT (mJ (n:=l.length) (by omega));refine aB fun K hK=>?_;simp only[↓zP,zG,seval];apply hK;clear hK K;refine aB fun K hK=>?_;simp only[↓zP,zG,seval,zI,lv];refine cT (hn _) ?_;simp only[↓zP,zG,seval,zI];apply hK;clear hK K;refine aB fun K hK=>?_;simp only[↓zP,zG,seval];refine wS [3] (fun i vs H'=>∃w,vs=[w]/\Own H' 1 w (aO (dJ (mF l.length)++(l.take i).flatMap fun x=>dJ (mF x)))) 0 l.length (Cs _) (by omega) (by decide) ?_ ?_ ?_ ?_ ?_
 . simp only[zB,seval]
 . exact⟨_,by simp only[sm,zB,seval];rfl,by simp only[Ew,List.flatMap_nil,Cf];exact Own.fresh _ _ _⟩
 . rintro i f H1 h0 hi hk e1 _;have f0:f 0=v:=by rw[hk 0 rfl];rfl
   simp only[↓zP,zG,seval,e1,f0,lv];exact tB (by omega)
 . rintro i f H1 h0 hi hk e1 ⟨w,gV,ho⟩;simp only[sm,Am,Bs] at gV;have f0:f 0=.bH 0 1 (bU l):=(hk 0 rfl).trans (hv.bH (i:=i) (by rw[bQ];exact hi));have hg:=ja hi;have hx:=hr _ (Ap hi);have hc:=QT hx;have EI:=eI (lQ hx);have pI:=qE (l:=l.take i) fun x hx=>hr x (Bf hx);rw[Cb] at pI;have hnl:=eI (lQ (mJ (n:=l.length) (by omega)));rw[rZ _ hi,<-Bg,cK];generalize l[i]=x at *;refine aS ?_;simp only[↓zP,zG,seval,zI,e1,f0,gV,aQ,bQ,hi,hg];refine cT (hc _) ?_;obtain⟨w',H',ha,e2,e3⟩:=(ho.alloc .tok).append (bytes:=1) (ys:=aO (dJ (mF x))) (by simp only[bB,Ag];omega);simp only[↓zP,zG,seval,bJ,ha];exact⟨w',by simp only[seval],e2⟩
 rintro f H1 hk ⟨w,gV,ho⟩;simp only[sm,Am,Bs] at gV;rw[Bm] at ho;simp only[↓zP,seval];apply hK;clear hK K;simp only[↓zP,zG,seval,gV];refine⟨rfl,_,by simp only[↓zP,zR,seval];rfl,?_⟩;exact⟨w,rfl,ho⟩
def DZ (n:Nat):List Bool:=List.replicate n false
def Ud (n:Nat):List (List Int):=List.replicate n zV
def Ze (ts:List Th):List (List Int):=ts.map (·.store)
def nC (ts:List Th) (r u:Nat):Sc:=⟨.bH 0 1 (bE (DZ ts.length)),OA 7 (dQ (Ze ts)),.bH 0 3 (dQ (Ud ts.length)),.bH 0 3 (dQ (Ud ts.length)),.bH 0 1 (bE (DZ r)),.bH 0 1 (bE (DZ u)),
 DZ ts.length,Ze ts,Ud ts.length,Ud ts.length,DZ r,DZ u⟩
theorem Ot {H H':aA} {sz bytes:Nat} {v v':AV} {els ys:List (List AV)} (cF:ys≠[]) (ho:Own H sz v els) (h:cV H sz bytes false v ys=some (v',H')):nD v'=some H.next:=by
 unfold cV at h;rw[if_neg (by simpa using cF)] at h
 rcases ho with ⟨rfl,_⟩|⟨k,rfl,_,hk⟩
 . simp only at h;split at h
   . cases h;rfl
   cases h
 simp only at h;split at h
 . rw[hk] at h;cases h;rfl
 cases h
theorem dh {H H':aA} {sz bytes:Nat} {v v':AV} {els:List (List AV)} {e:List AV} (ho:Own H sz v els) (h:cV H sz bytes false v [e]=some (v',H')):nD v'=some H.next:=Ot (by simp) ho h
def Dj (u v:AV):Prop:=∀k,nD u=some k->nD v≠some k
theorem Dj.symm {u v:AV} (h:Dj u v):Dj v u:=fun k h1 h2=>h k h2 h1
theorem Own.other {H H':aA} {sz:Nat} {v w:AV} {els:List (List AV)} (hg:Us H H' v) (hw:jW H sz w els) (hd:Dj w v):jW H' sz w els:=by
 refine⟨?_,hw.2⟩
 rcases hw.1 with h|⟨k,rfl,hk,ht⟩
 . exact .inl h
 exact .inr ⟨k,rfl,by have :=hg.next;omega,by rw[hg.get k (hd k rfl) hk];exact ht⟩
theorem Dj.new {H:aA} {sz:Nat} {w v':AV} {els:List (List AV)} (hw:jW H sz w els) (h:nD v'=some H.next):Dj w v':=fun k h1 h2=>by have :=hw.1.TG h1;rw[h] at h2;cases h2;omega
structure R4 (H:aA) (p q r t:Nat) (a b c d:AV) (ea eb ec ed:List (List AV)):Prop where
 oa:jW H p a ea
 ob:jW H q b eb
 oc:jW H r c ec
 od:jW H t d ed
 ab:Dj a b
 ac:Dj a c
 ad:Dj a d
 bc:Dj b c
 bd:Dj b d
 cd:Dj c d
theorem R4.s1 {H:aA} {p q r t:Nat} {a b c d:AV} {ea eb ec ed:List (List AV)} (h:R4 H p q r t a b c d ea eb ec ed):R4 H q p r t b a c d eb ea ec ed:=⟨h.ob,h.oa,h.oc,h.od,h.ab.symm,h.bc,h.bd,h.ac,h.ad,h.cd⟩
theorem R4.s2 {H:aA} {p q r t:Nat} {a b c d:AV} {ea eb ec ed:List (List AV)} (h:R4 H p q r t a b c d ea eb ec ed):R4 H r q p t c b a d ec eb ea ed:=⟨h.oc,h.ob,h.oa,h.od,h.bc.symm,h.ac.symm,h.cd,h.ab.symm,h.bd,h.ad⟩
theorem R4.s3 {H:aA} {p q r t:Nat} {a b c d:AV} {ea eb ec ed:List (List AV)} (h:R4 H p q r t a b c d ea eb ec ed):R4 H t q r p d b c a ed eb ec ea:=⟨h.od,h.ob,h.oc,h.oa,h.bd.symm,h.cd.symm,h.ad.symm,h.bc,h.ab.symm,h.ac.symm⟩
theorem R4.app {H:aA} {p q r t:Nat} {a b c d:AV} {ea eb ec ed:List (List AV)} (h:R4 H p q r t a b c d ea eb ec ed) {bytes:Nat} {e:List AV} (hb:(ea.length+1)*bytes<=2^40):
 ∃a' H2,cV H p bytes false a [e]=some (a',H2)/\R4 H2 p q r t a' b c d (ea++[e]) eb ec ed/\Us H H2 a:=by
 obtain⟨a',H2,ha,o2,hg⟩:=h.oa.append hb;have ht:=dh h.oa.1 ha;exact⟨a',H2,ha,⟨o2,Own.other hg h.ob h.ab.symm,Own.other hg h.oc h.ac.symm,Own.other hg h.od h.ad.symm,(Dj.new h.ob ht).symm,(Dj.new h.oc ht).symm,(Dj.new h.od ht).symm,h.bc,h.bd,h.cd⟩,hg⟩
theorem R4.set {H:aA} {p q r t:Nat} {a b c d:AV} {ea eb ec ed:List (List AV)} (h:R4 H p q r t a b c d ea eb ec ed) {id:Nat} {cs:List AV} {o:Bool} (hg:H.get id=some (.cells cs o)) (ob:dU):R4 (H.set id ob) p q r t a b c d ea eb ec ed:=
 ⟨⟨h.oa.1.set id ob (h.oa.1.Sa hg),h.oa.2⟩,⟨h.ob.1.set id ob (h.ob.1.Sa hg),h.ob.2⟩,⟨h.oc.1.set id ob (h.oc.1.Sa hg),h.oc.2⟩,⟨h.od.1.set id ob (h.od.1.Sa hg),h.od.2⟩,h.ab,h.ac,h.ad,h.bc,h.bd,h.cd⟩
structure StP (HA:aA) (w:List AV) (H:aA) (a b c d:AV) (ea eb ec ed:List (List AV)):Prop where
 r:R4 H 1 7 3 3 a b c d ea eb ec ed
 g:H.get 4=some (.cells (a::b::c::d::w) false)
 j:∀j,j<4->H.get j=HA.get j
 n:5<=H.next
def eG (l:List Int):List Nat:=l.flatMap fun x=>dJ (mF x)
theorem QZ {id off n:Nat} {cs:List AV} {o:Bool} {l:List Int} (hn:l.length=n) (hr:∀x∈l,pF x) (hl:n<2^30) {H:aA} (bZ:id<H.next) (hg:H.get id=some (.cells cs o)) (FW:∀i (h:i<l.length),off+i+1<=cs.length/\cs.getD (off+i) aC=.int .i64 l[i]):
 ∃v H',Over H H'/\Own H' 1 v (aO (eG l))/\(∀k,nD v=some k->H.next<=k)/\Sound Tryz.prog gv 49 [.sl id 1 off n n] H (.ret v) H':=by
 subst hn
 suffices h:FC Tryz.prog gv zm.1.ntmps zm.1.body (dW [.sl id 1 off l.length l.length]) [] H (GX zm.1.results fun o H'=>∃v,o=.ret v/\Over H H'/\Own H' 1 v (aO (eG l))/\∀k,nD v=some k->H.next<=k) by obtain⟨o,H',⟨v,rfl,hO,ho,ht⟩,hS⟩:=bL fit aIk (Ae rfl) h (by rfl);exact⟨v,H',hO,ho,ht,hS⟩
 unfold zm;dsimp only;refine aB fun K hK=>?_;simp only[↓zP,zG,seval];apply hK;clear hK K;refine aB fun K hK=>?_;simp only[↓zP,zG,seval];apply hK;clear hK K;refine aB fun K hK=>?_;simp only[↓zP,zG,seval];refine wS [3] (fun i vs H'=>∃w,vs=[w]/\Over H H'/\Own H' 1 w (aO (eG (l.take i)))/\∀k,nD w=some k->H.next<=k) 0 l.length (Cs _) (by omega) (by decide) ?_ ?_ ?_ ?_ ?_
 . simp only[zB,seval]
 . exact⟨.aF,by simp only[sm,zB,seval],.refl H,.nil _ _,fun k h=>by cases h⟩
 . rintro i f H1 h0 hi hk e1 _;have f0:f 0=.sl id 1 off l.length l.length:=by rw[hk 0 rfl];rfl
   simp only[↓zP,zG,seval,e1,f0];exact tB (by omega)
 . rintro i f H1 h0 hi hk e1 ⟨w,gV,hO,ho,zS⟩;simp only[sm,Am,Bs] at gV;have f0:f 0=.sl id 1 off l.length l.length:=by rw[hk 0 rfl];rfl
   obtain⟨hle,Nc⟩:=FW i hi;have rO:=(hO.same id bZ).trans hg;have hx:=hr _ (Ap hi);have hc:=QT hx;have EI:=eI (lQ hx);have pI:=qE (l:=l.take i) fun x hx=>hr x (Bf hx);rw[Cb] at pI;have DF:eG (l.take (i+1))=eG (l.take i)++dJ (mF l[i]):=rZ _ hi;rw[DF,cK];have aOq:(eG (l.take i)).length<=10*i:=(by unfold eG;omega);generalize l[i]=x at *;refine aS ?_;simp only[↓zP,zG,seval,zI,e1,f0,gV,aQ,hi,rO,hle,Nc];refine cT (hc _) ?_;obtain⟨w',H',ha,e2,e3⟩:=(ho.alloc .tok).append (bytes:=1) (ys:=aO (dJ (mF x))) (by simp only[bB];omega);simp only[↓zP,zG,seval,bJ,ha];have hO1:=hO.alloc .tok;refine⟨w',rfl,⟨By hO1.le e3.next,fun j hj=>?_⟩,e2,fun k hk=>?_⟩
   . rw[e3.get j (fun e=>by have :=zS j e;omega) (Aw hj hO1.le)];exact hO1.same j hj
   rw[Ot (fL (lD _)) (ho.alloc .tok) ha] at hk;cases hk;exact hO1.le
 rintro f H1 hk ⟨w,gV,hO,ho,zS⟩;simp only[sm,Am,Bs] at gV;rw[Bm] at ho;simp only[↓zP,seval];apply hK;clear hK K;simp only[↓zP,zG,seval,gV];refine⟨rfl,_,by simp only[↓zP,zR,seval];rfl,?_⟩;exact⟨w,rfl,hO,ho,zS⟩
theorem Td {l:List Int} (h:l≠[]):eG l≠[]:=by
 cases l with
 |nil=>exact absurd rfl h
 |cons x l=>unfold eG;rw[Cq];intro e;exact lD _ (List.append_eq_nil_iff.1 e).1
theorem PN (a b:List Int):eG (a++b)=eG a++eG b:=List.flatMap_append
theorem jO {l:List Int} (h:∀x∈l,pF x):(eG l).length<=10*l.length:=qE h
theorem ZP {p:List Int} (h7:p.length=7) (hr:nI p) (H:aA):Sound Tryz.prog gv 92 [.agg (iC p)] H (.ret (.bH (H.next+2) 1 (aO (eG p)))) (H.alloc .tok):=by
 refine fW dZ (by simp only[bN,AV.free,UC];rfl) (fL (Td (by intro e;rw[e] at h7;cases h7))) (bW _) (bL fit aNq (Ae rfl) ?_ (by rfl)) H;unfold W92;dsimp only;have hlen:(iC p).length=7:=by rw[tR,h7]
 refine aB fun K hK=>?_;simp only[↓zP,zG,seval,zI];apply hK;clear hK K;generalize hX:(aA.mk 0 .nil).alloc _=HA;have g0:HA.get 0=some (.cells (iC p) false):=by subst hX;simp only[zI,seval]
 have gn:0<HA.next:=by subst hX;simp only[zI,seval]
 clear hX;have h3:(p.take 3).length=3:=by simp;omega
 have h4:(p.drop 3).length=4:=by simp;omega
 obtain⟨v,H2,hO,ho,zS,hS⟩:=QZ (id:=0) (off:=0) (n:=3) (l:=p.take 3) h3 (fun x hx=>hr x (Bf hx)) (by decide) gn g0 (fun i h=>by
  refine⟨by omega,?_⟩
  rw[Cc,BT (by omega)];simp[List.getD,Ac (show i<p.length by omega)])
 have g2:=(hO.same 0 gn).trans g0;have gn2:0<H2.next:=Aw gn hO.le
 obtain⟨w,H3,hO2,ho2,aOz,YF⟩:=QZ (id:=0) (off:=3) (n:=4) (l:=p.drop 3) h4 (fun x hx=>hr x (Cy hx)) (by decide) gn2 g2 (fun i h=>by
  refine⟨by omega,?_⟩
  rw[BT (by omega)];simp[List.getD,Ac (show 3+i<p.length by omega)])
 have sl1:=Kl (n:=3) (sz:=1) (off:=0) g0 (by decide) (by omega);have sl2:=Kl (n:=4) (sz:=1) (off:=3) g2 (by decide) (by omega);refine eS fun f pH=>?_;have f1:f 1=.ref 0 0:=by subst pH;simp only[zB,seval]
 clear pH;refine aB fun K hK=>?_;refine bK (by decide) ?_;simp only[↓zP,zG,seval,zD,reduceCtorEq,zI,f1,cP,sl1];apply cL (hS:=hS)
 . decide
 . simp only[sm,zB,seval]
 . exact hO.le
 . intro x hx _;simp only[Ah,Al,Bx] at hx;subst hx;exact(hO.same 0 gn).symm
 simp only[↓zP,zG,seval,zD,reduceCtorEq,zI,f1,cP,sl2];refine⟨(hO.same 0 gn).symm,?_⟩;apply cL (hS:=YF)
 . decide
 . simp only[sm,zB,seval]
 . exact hO2.le
 . intro x hx _;simp only[Ah,Al,Bx] at hx
   rcases hx with rfl|rfl<;>exact(hO2.same 0 gn2).symm
 have e37:eG p=eG (p.take 3)++eG (p.drop 3):=by rw[<-PN,Gw]
 have hvt:∀k,nD v=some k->k<H2.next:=fun k hk=>ho.TG hk
 have hov:Own H3 1 v (aO (eG (p.take 3))):=by
  rcases ho with h|⟨k,h1,h2,h3⟩
  . exact .inl h
  exact .inr ⟨k,h1,Aw h2 hO2.le,by rw[hO2.same k h2];exact h3⟩
 have l3:=jO (l:=p.take 3) fun x hx=>hr x (Bf hx);have l4:=jO (l:=p.drop 3) fun x hx=>hr x (Cy hx);rw[h3] at l3;rw[h4] at l4;obtain⟨v',H4,ha,ho4,pg⟩:=hov.append (bytes:=1) (ys:=aO (eG (p.drop 3))) (by simp only[bB];omega)
 have Nb:bJ H3 1 w=some (aO (eG (p.drop 3))):=by
  rcases ho2 with ⟨rfl,h⟩|⟨k,rfl,_⟩
  . rw[h];rfl
  rfl
 simp only[↓zP,zG,seval,zD,reduceCtorEq,zI,Nb,ha];refine⟨pg.next,?_⟩;apply hK;clear hK K;simp only[↓zP,seval];refine Rx ?_;exact⟨v',rfl,by rw[e37,cK];exact ho4⟩
def uget:Nat->List Nat->Except Int (Nat×Nat)
 |_,[]=>.error 10
 |k,c::r=>
  if(k=9/\1<c)\/(0<k/\c=0) then .error 11
  else if c<128 then .ok (c,1)
  else match uget (k+1) r with
   |.ok (z,n)=>.ok (c%128+128*z,n+1)
   |.error e=>.error e
def GK (z:Nat):Int:=if z%2=0 then(z / 2:Nat) else -(z / 2:Nat) -1
structure TR where
 v:Int
 n:Nat
 e:Int
def dM (b:List Nat):TR:=match uget 0 b with
 |.ok (z,n)=>⟨GK z,n,0⟩
 |.error e=>⟨0,0,e⟩
def TR.av (x:TR):AV:=.eZ [.int .i64 x.v,.int .i64 x.n,.int .i64 x.e]
def Bytes (b:List Nat):Prop:=∀x∈b,x<256
theorem DB:∀(b:List Nat) (k:Nat) (e:Int),uget k b=.error e->e=10\/e=11
 |[],k,e,h=>by simp only[uget,Except.error.injEq] at h;exact .inl h.symm
 |c::r,k,e,h=>by
  unfold uget at h;split at h
  . simp only[Except.error.injEq] at h;exact .inr h.symm
  split at h
  . cases h
  split at h
  . cases h
  rename_i e' he;simp only[Except.error.injEq] at h;subst h;exact DB r (k+1) _ he
theorem OJ:∀(b:List Nat) (k z n:Nat),k<=9->uget k b=.ok (z,n)->0<n/\n<=b.length/\k+n<=10/\z*128^k<2^64
 |[],k,z,n,hk,h=>by simp[uget] at h
 |c::r,k,z,n,hk,h=>by
  unfold uget at h;split at h
  . cases h
  rename_i h0;split at h
  . rename_i h1;simp only[Except.ok.injEq,Ad] at h;obtain⟨rfl,rfl⟩:=h;refine⟨by omega,by simp,by omega,?_⟩;by_cases h9:k=9
    . subst h9;have :c<=1:=(by omega);omega
    have :128^k<=128^8:=Fa (by omega) (by omega);have :c*128^k<=127*128^8:=Ch (by omega) this;omega
  rename_i h1;have h9:k≠9:=by intro h9;apply h0;exact .inl ⟨h9,by omega⟩
  split at h
  . rename_i z' n' he;simp only[Except.ok.injEq,Ad] at h;obtain⟨rfl,rfl⟩:=h;obtain⟨a1,a2,a3,a4⟩:=OJ r (k+1) z' n' (by omega) he;refine⟨by omega,by simp;omega,by omega,?_⟩
    have e1:(c%128+128*z')*128^k=c%128*128^k+z'*128^(k+1):=by rw[Dm,Ce];congr 1;rw[Cn 128 z',Fp,Cn 128]
    rw[e1]
    have hd:(2:Nat)^64=2^(64 -7*(k+1))*128^(k+1):=by rw[show(128:Nat)=2^7 from rfl,<-Nat.pow_mul,<-Ib];congr 1;omega
    have hz:z'<2^(64 -7*(k+1)):=by rw[hd] at a4;exact Nat.lt_of_mul_lt_mul_right a4
    have hz1:(z'+1)*128^(k+1)<=2^64:=by rw[hd];exact Cd _ hz
    have hc:c%128*128^k<128^(k+1):=by rw[Dm,Cn (128^k)];exact Nat.mul_lt_mul_of_pos_right (Dp _ (by omega)) (Iw (by omega))
    rw[Ce,Fv] at hz1;omega
  cases h
theorem Mm:∀(m k z:Nat) (r:List Nat),z<=m->k<=9->z*128^k<2^64->(0<k->0<z)->uget k (dJ z++r)=.ok (z,(dJ z).length)
 |m,k,z,r,hm,hk,hz,hp=>by
  rw[dJ];split
  . rename_i h;simp only[Ev,Cg,uget,Ak,Ar];rw[if_neg,if_pos (by omega)];rintro(⟨rfl,h1⟩|⟨h1,h2⟩)
    . omega
    have :=hp h1;omega
  rename_i h
  have h8:k<=8:=by
   rcases Dt k 9 with h9|h9
   . omega
   obtain rfl:k=9:=by omega
   omega
  simp only[Ev,uget,Ak];rw[if_neg (by rintro(⟨rfl,h1⟩|⟨h1,h2⟩)<;>omega),if_neg (by omega)]
  have hz2:z / 128*128^(k+1)<2^64:=by rw[Dm,Cn (128^k),<-Fp];exact Hv (Cd _ (Nat.div_mul_le_self z 128)) hz
  cases m with
  |zero=>omega
  |succ m=>rw[Mm m (k+1) (z / 128) r (by omega) (by omega) hz2 (fun _=>by omega)];simp only[Except.ok.injEq,Ad,Bs];omega
theorem Wg {n:Int}:GK (mF n)=n:=by unfold GK mF;split<;>split<;>omega
theorem Wm (z:Nat):mF (GK z)=z:=by unfold GK mF;split<;>split<;>omega
theorem MJ {n:Int} (h0: -2^63<=n) (h1:n<2^63) (r:List Nat):dM (dJ (mF n)++r)=⟨n,(dJ (mF n)).length,0⟩:=by unfold dM;rw[Mm _ 0 (mF n) r (Ai _) (by omega) (by have :=lQ ⟨h0,h1⟩;omega) (fun h=>by omega)];simp only[Wg]
theorem tN {b:List Nat} (h:(dM b).e=0):0<(dM b).n/\(dM b).n<=b.length/\(dM b).n<=10/\pF (dM b).v:=by
 unfold dM at h ⊢;split
 . rename_i z n hz;obtain⟨a1,a2,a3,a4⟩:=OJ b 0 z n (by omega) hz;refine⟨a1,a2,by simpa using a3,?_⟩;simp only[Nat.pow_zero,Dk] at a4;simp only[pF,GK];split<;>omega
 rename_i e he;rw[he] at h;simp only at h;subst h
 rcases DB b 0 0 he with h|h<;>omega
theorem YB (b:List Nat):(dM b).e=0\/((dM b).v=0/\(dM b).n=0/\((dM b).e=10\/(dM b).e=11)):=by
 unfold dM;split
 . exact .inl rfl
 rename_i e he;exact .inr ⟨rfl,rfl,DB b 0 e he⟩
def jZ (b:List Nat) (least:Nat):TR:=
 if(dM b).e≠0 then⟨0,0,(dM b).e⟩
 else if(dM b).v<0 then⟨0,0,11⟩
 else if(dM b).v>((b.length -(dM b).n) / least:Nat) then⟨0,0,10⟩
 else dM b
theorem jo {b:List Nat} {least:Nat} (hl:b.length<2^40) (h0:0<least) (hn:(dM b).n<=b.length):
 IntKind.i64.wrap (((b.length:Int) -((dM b).n:Int)).tdiv (least:Int))=(((b.length -(dM b).n) / least:Nat):Int)/\
 IntKind.i64.wrap ((b.length:Int) -((dM b).n:Int))=((b.length:Int) -((dM b).n:Int)):=by
 have e:((b.length:Int) -((dM b).n:Int))=((b.length -(dM b).n:Nat):Int):=by omega
 have hd:(b.length -(dM b).n) / least<=b.length -(dM b).n:=Ir _ _;refine⟨?_,?_⟩
 . rw[e,Hw (by omega),wrap_i64]
   . simp
   . have :(0:Int)<=((b.length -(dM b).n:Nat):Int) / (least:Int):=Int.ediv_nonneg (by omega) (by omega);omega
   have :((b.length -(dM b).n:Nat):Int) / (least:Int)=(((b.length -(dM b).n) / least:Nat):Int):=(by simp);omega
 rw[wrap_i64 (by omega) (by omega)]
def kD (b:List Nat):Nat->Nat->Except Int (List Int×Nat)
 |0,at'=>.ok ([],at')
 |n+1,at'=>
  if(dM (b.drop at')).e≠0 then .error (dM (b.drop at')).e
  else match kD b n (at'+(dM (b.drop at')).n) with
   |.ok (l,z)=>.ok ((dM (b.drop at')).v::l,z)
   |.error e=>.error e
structure aJp (α:Type) where
 l:List α
 n:Nat
 e:Int
def eE (b:List Nat):aJp Int:=
 if(jZ b 1).e≠0 then⟨[],0,(jZ b 1).e⟩
 else match kD b (jZ b 1).v.toNat (jZ b 1).n with
  |.ok (l,z)=>⟨l,z,0⟩
  |.error e=>⟨[],0,e⟩
theorem NX {b:List Nat} {least:Nat} (h:(jZ b least).e=0):0<(jZ b least).n/\(jZ b least).n<=b.length/\0<=(jZ b least).v/\(jZ b least).v.toNat<=(b.length -(jZ b least).n) / least:=by
 unfold jZ at h ⊢;split at h
 . rename_i q;exact absurd h q
 rename_i q1;split at h
 . cases h
 split at h
 . cases h
 rename_i q2 q3;have q4:(dM b).e=0:=by simpa using q1
 obtain⟨a1,a2,a3,a4⟩:=tN q4;rw[if_neg q1,if_neg q2,if_neg q3];refine⟨a1,a2,by omega,by omega⟩
theorem YC (b:List Nat) (least:Nat) (h:(jZ b least).e≠0):(jZ b least).v=0/\(jZ b least).n=0/\((jZ b least).e=10\/(jZ b least).e=11):=by
 unfold jZ at h ⊢;split
 . rename_i q
   rcases YB b with h1|⟨_,_,h1⟩
   . exact absurd h1 q
   exact⟨rfl,rfl,h1⟩
 rename_i q;split
 . exact⟨rfl,rfl,.inr rfl⟩
 split
 . exact⟨rfl,rfl,.inl rfl⟩
 rename_i q2 q3;rw[if_neg q,if_neg q2,if_neg q3] at h;exact absurd h q
theorem Bytes.drop {b:List Nat} (h:Bytes b) (n:Nat):Bytes (b.drop n):=fun x hx=>h x (Cy hx)
theorem FG (b:List Nat) (n:Nat):(aO b).drop n=aO (b.drop n):=by simp[aO]
def Zo (acc:List Int):Except Int (List Int×Nat)->Except Int (List Int×Nat)
 |.ok (l,z)=>.ok (acc++l,z)
 |.error e=>.error e
theorem sF {b:List Nat}:∀{n a:Nat} {l:List Int} {z:Nat},a<=b.length->kD b n a=.ok (l,z)->z<=b.length/\l.length=n/\a+n<=z/\∀x∈l,pF x
 |0,a,l,z,ha,h=>by simp only[kD,Except.ok.injEq,Ad] at h;obtain⟨rfl,rfl⟩:=h;exact⟨ha,rfl,by omega,fun x hx=>by cases hx⟩
 |n+1,a,l,z,ha,h=>by
  unfold kD at h;split at h
  . cases h
  rename_i q;obtain⟨c1,c2,c3,c4⟩:=tN (b:=b.drop a) (by simpa using q);simp only[Cv] at c2;split at h
  . rename_i l' z' hl;simp only[Except.ok.injEq,Ad] at h;obtain⟨rfl,rfl⟩:=h;obtain⟨d1,d2,d3,d4⟩:=sF (by omega) hl;refine⟨d1,by simp[d2],by omega,fun x hx=>?_⟩
    rcases Ah.1 hx with rfl|hx
    . exact c4
    exact d4 x hx
  cases h
theorem Qj:∀(b:List Nat) (k z n:Nat),0<k->uget k b=.ok (z,n)->0<z
 |[],k,z,n,hk,h=>by simp[uget] at h
 |c::r,k,z,n,hk,h=>by
  unfold uget at h;split at h
  . cases h
  rename_i h0;split at h
  . simp only[Except.ok.injEq,Ad] at h;omega
  split at h
  . rename_i z' n' he;simp only[Except.ok.injEq,Ad] at h;have :=Qj r (k+1) z' n' (by omega) he;omega
  cases h
theorem Ml:∀(b:List Nat) (k z n:Nat),Bytes b->uget k b=.ok (z,n)->b.take n=dJ z
 |[],k,z,n,hb,h=>by simp[uget] at h
 |c::r,k,z,n,hb,h=>by
  have hc:c<256:=hb c (by simp);unfold uget at h;split at h
  . cases h
  split at h
  . rename_i h0 h1;simp only[Except.ok.injEq,Ad] at h;obtain⟨rfl,rfl⟩:=h;rw[dJ,if_pos (by omega)];rfl
  rename_i h0 h1;split at h
  . rename_i z' n' he;simp only[Except.ok.injEq,Ad] at h;obtain⟨rfl,rfl⟩:=h;have hp:=Qj r (k+1) z' n' (by omega) he;have ih:=Ml r (k+1) z' n' (fun x hx=>hb x (by simp[hx])) he;rw[dJ,if_neg (by omega),Cw,ih];congr 1
    . omega
    congr 1;omega
  cases h
theorem MI {b:List Nat} (hb:Bytes b) (h:(dM b).e=0):b.take (dM b).n=dJ (mF (dM b).v):=by
 unfold dM at h ⊢;split
 . rename_i z n hz;rw[Ml b 0 z n hb hz,Wm]
 rename_i e he;rw[he] at h;simp only at h;subst h
 rcases DB b 0 0 he with h|h<;>omega
theorem NV (l:List Int):l.length<=(l.flatMap fun x=>dJ (mF x)).length:=by
 induction l with
 |nil=>simp
 |cons x l ih=>have :0<(dJ (mF x)).length:=List.length_pos_iff.mpr (lD _);simp only[Cq,Ag,Ak];omega
theorem EB (r:List Nat):∀(l:List Int) (pre:List Nat),(∀x∈l,pF x)->
 kD (pre++((l.flatMap fun x=>dJ (mF x))++r)) l.length pre.length=.ok (l,pre.length+(l.flatMap fun x=>dJ (mF x)).length)
 |[],pre,h=>rfl
 |x::l,pre,h=>by
  have hx:=h x (by simp)
  have hg:dM ((pre++(((x::l).flatMap fun x=>dJ (mF x))++r)).drop pre.length)=⟨x,(dJ (mF x)).length,0⟩:=by rw[List.drop_left' rfl,Cq,Bg];exact MJ hx.1 hx.2 _
  simp only[Ak,kD,hg,ne_eq,not_true_eq_false,Bu];have ih:=EB r l (pre++dJ (mF x)) (fun y hy=>h y (by simp[hy]));rw[Ag] at ih;rw[Cq,Bg,<-Bg pre,ih];simp only[Ag];rw[Bd]
theorem Vc {l:List Int} (h:∀x∈l,pF x) (hl:l.length<2^30) (r:List Nat):eE (bC l++r)=⟨l,(bC l).length,0⟩:=by
 have hg:dM (bC l++r)=⟨(l.length:Int),(dJ (mF (l.length:Int))).length,0⟩:=by rw[bC,Bg];exact MJ (by omega) (by omega) _
 have xB:=NV l
 have hlen:jZ (bC l++r) 1=⟨(l.length:Int),(dJ (mF (l.length:Int))).length,0⟩:=by rw[jZ,hg];simp only[ne_eq,not_true_eq_false,Bu];rw[if_neg (by omega),if_neg];simp only[bC,Ag,Nat.div_one];omega
 have hm:=EB r l (dJ (mF (l.length:Int))) h;rw[<-Bg] at hm;rw[eE,hlen];simp only[ne_eq,not_true_eq_false,Bu,Gu];rw[show bC l=dJ (mF (l.length:Int))++(l.flatMap fun x=>dJ (mF x)) from rfl,hm];simp only[Ag]
theorem zH {b:List Nat} (hb:Bytes b):∀{n a:Nat} {l:List Int} {z:Nat},a<=b.length->kD b n a=.ok (l,z)->(b.drop a).take (z -a)=(l.flatMap fun x=>dJ (mF x))
 |0,a,l,z,ha,h=>by simp only[kD,Except.ok.injEq,Ad] at h;obtain⟨rfl,rfl⟩:=h;simp
 |n+1,a,l,z,ha,h=>by
  unfold kD at h;split at h
  . cases h
  rename_i q;have q0:(dM (b.drop a)).e=0:=by simpa using q
  obtain⟨c1,c2,c3,c4⟩:=tN q0;have ht:=MI (hb.drop a) q0;simp only[Cv] at c2;split at h
  . rename_i l' z' hl;simp only[Except.ok.injEq,Ad] at h;obtain⟨rfl,rfl⟩:=h;obtain⟨d1,d2,d3,d4⟩:=sF (by omega) hl;have ih:=zH hb (by omega) hl;rw[Cq,<-ih,<-ht];rw[show z' -a=(dM (b.drop a)).n+(z' -(a+(dM (b.drop a)).n)) by omega,Je,Gt]
  cases h
theorem JX {b:List Nat} (h:(eE b).e=0):(eE b).n<=b.length/\0<(eE b).n/\∀x∈(eE b).l,pF x:=by
 unfold eE at h ⊢;split at h
 . rename_i q;exact absurd h q
 rename_i q;obtain⟨g1,g2,g3,g4⟩:=NX (b:=b) (least:=1) (by simpa using q);rw[if_neg q];split
 . rename_i l z hl;obtain⟨d1,d2,d3,d4⟩:=sF g2 hl;exact⟨d1,by simp only;omega,d4⟩
 rename_i e he;rw[he] at h;simp only at h;subst h;exfalso
 have :∀(n a:Nat),kD b n a≠ .error 0:=by
  intro n
  induction n with
  |zero=>intro a h;cases h
  |succ n ih=>
   intro a h;unfold kD at h;split at h
   . rename_i q;simp only[Except.error.injEq] at h;exact q h
   split at h
   . cases h
   rename_i e hh;simp only[Except.error.injEq] at h;subst h;exact ih _ hh
 exact this _ _ he
theorem SA {b:List Nat} (hb:Bytes b) (h:(eE b).e=0):b.take (eE b).n=bC (eE b).l:=by
 unfold eE at h ⊢;split at h
 . rename_i q;exact absurd h q
 rename_i q;have q0:(jZ b 1).e=0:=by simpa using q
 obtain⟨g1,g2,g3,g4⟩:=NX q0
 have hgl:jZ b 1=dM b/\(dM b).e=0:=by
  unfold jZ at q0 ⊢;split at q0
  . rename_i q;exact absurd q0 q
  rename_i q1;split at q0
  . cases q0
  split at q0
  . cases q0
  rename_i q2 q3;rw[if_neg q1,if_neg q2,if_neg q3];exact⟨rfl,by simpa using q1⟩
 rw[if_neg q];split
 . rename_i l z hl;obtain⟨d1,d2,d3,d4⟩:=sF g2 hl;have ht:=zH hb g2 hl;have h0:=MI hb hgl.2;rw[<-hgl.1] at h0;show b.take z=bC l;rw[bC,<-ht,d2,Gi g3,<-h0];rw[show z=(jZ b 1).n+(z -(jZ b 1).n) by omega,Je];rw[show(jZ b 1).n+(z -(jZ b 1).n) -(jZ b 1).n=z -(jZ b 1).n by omega]
 rename_i e he;rw[he] at h;simp only at h;subst h;exfalso;have :(eE b).e=0:=by rw[eE,if_neg q,he]
 have :=JX this;rw[eE,if_neg q,he] at this;simp only at this;omega
def W95:CW Tryz.f95:=⟨_,cX⟩
theorem aIp:Fi 95 W95:=cN Tryz.func95 W95
def cc:CW Tryz.f151:=⟨_,cX⟩
theorem rf:Fi 151 cc:=cN Tryz.func151 cc
def Uw:CW Tryz.f119:=⟨_,cX⟩
theorem qz:Fi 119 Uw:=cN Tryz.func119 Uw
def W99:CW Tryz.f99:=⟨_,cX⟩
theorem aIq:Fi 99 W99:=cN Tryz.func99 W99
def uy:CW Tryz.f118:=⟨_,cX⟩
theorem aEv:Fi 118 uy:=cN Tryz.func118 uy
def W90:CW Tryz.f90:=⟨_,cX⟩
theorem aNo:Fi 90 W90:=cN Tryz.func90 W90
def W94:CW Tryz.f94:=⟨_,xV⟩
theorem aNr:Fi 94 W94:=cN Tryz.func94 W94
def W98:CW Tryz.f98:=⟨_,xV⟩
theorem aNu:Fi 98 W98:=cN Tryz.func98 W98
def W56:CW Tryz.f56:=⟨_,cX⟩
theorem aMr:Fi 56 W56:=cN Tryz.func56 W56
def W61:CW Tryz.f61:=⟨_,cX⟩
theorem aMx:Fi 61 W61:=cN Tryz.func61 W61
def W96:CW Tryz.f96:=⟨_,cX⟩
theorem aNs:Fi 96 W96:=cN Tryz.func96 W96
theorem Oy (l:List Nat) {i:Nat} (h:i<l.length):(aO l).getD i []=[.int .u8 (l.getD i 0)]:=by simp[aO,Ac h]
theorem VU {l:List Nat} {i:Nat} (h:i<l.length):l.drop i=l.getD i 0::l.drop (i+1):=by rw[Hx h];simp[Ac h]
def upto (k acc:Nat):Except Int (Nat×Nat)->Except Int (Nat×Nat)
 |.ok (z,n)=>.ok (acc+128^k*z,k+n)
 |.error e=>.error e
theorem Wh {k acc c:Nat} {r:List Nat} (h1:¬((k=9/\1<c)\/(0<k/\c=0))) (h2:¬c<128):upto k acc (uget k (c::r))=upto (k+1) (acc+c%128*128^k) (uget (k+1) r):=by
 conv=>lhs;unfold uget
 rw[if_neg h1,if_neg h2]
 cases uget (k+1) r with
 |error e=>rfl
 |ok p=>obtain⟨z,n⟩:=p;simp only[upto,Except.ok.injEq,Ad];refine⟨?_,by omega⟩;rw[Fb,Dm,Cn (128^k) (c%128),Fp];omega
theorem AK {b:List Nat} {tag:Nat} (hb:Bytes b) (hl:b.length<2^40) (H:aA):Sound Tryz.prog gv 95 [.bH tag 1 (aO b)] H (.ret (dM b).av) H:=by
 refine dY aIp (Ae rfl) ?_ (by rfl);unfold W95;dsimp only;refine aB fun K hK=>?_;simp only[↓zP,zG,seval];apply hK;clear hK K;refine aB fun K hK=>?_;simp only[↓zP,zG,seval];apply hK;clear hK K;refine aB fun K hK=>?_;simp only[↓zP,zG,seval];apply hK;clear hK K;refine aB fun K hK=>?_;simp only[↓zP,seval];apply hK;clear hK K;refine aB fun K hK=>?_;refine aB fun K2 bO=>?_;simp only[↓zP,zG,seval,bB];apply bO;clear bO K2
 have fin:∀f':cQ,(f' 6=.int .i64 0/\uget 0 b=.error 10)\/(∃z n:Nat,0<n/\n<=10/\z<2^64/\f' 6=.int .i64 n/\f' 5=.int .u64 z/\uget 0 b=.ok (z,n))->K f' [] H:=by
  rintro f' (⟨g6,hu⟩|⟨z,n,hn,aOw,hz,g6,g5,hu⟩)
  . apply hK;refine aB fun K2 bO=>?_;simp only[↓zP,zG,seval,g6,Eu];refine⟨rfl,_,by simp only[mZ,EU,zB,seval];rfl,?_,rfl⟩;show Out.ret (.eZ [.int .i64 0,.int .i64 0,.int .i64 10])=_;simp only[dM,hu,TR.av];rfl
  apply hK;have hn0:((n:Int)==0)=false:=by simp;omega
  have aLi:(z:Int).fdiv (2^min (Int.toNat 1) IntKind.u64.bits)=((z / 2:Nat):Int):=by rw[show min (Int.toNat 1) IntKind.u64.bits=1 from rfl,fdiv_pow];simp
  have uS:IntKind.i64.wrap ((z / 2:Nat):Int)=((z / 2:Nat):Int):=wrap_i64 (by omega) (by omega)
  have hand:nG .and .u64 (z:Int) 1=some (.int .u64 ((z%2:Nat):Int)):=by rw[show(1:Int)=((1:Nat):Int) from rfl,Ou rfl (by simpa [IntKind.bits] using hz) (by decide),Nat.and_one_is_mod]
  have qI:IntKind.i64.wrap ((z%2:Nat):Int)=((z%2:Nat):Int):=wrap_i64 (by omega) (by omega);have ba:IntKind.i64.wrap (0 -((z%2:Nat):Int))= -((z%2:Nat):Int):=by rw[wrap_i64 (by omega) (by omega)];simp
  have aEk:nG .xor .i64 ((z / 2:Nat):Int) (-((z%2:Nat):Int))=some (.int .i64 (GK z)):=by
   simp only[nG,GK]
   rcases Nat.mod_two_eq_zero_or_one z with h2|h2
   . rw[h2,if_pos rfl]
     have :(BitVec.ofInt IntKind.i64.bits ((z / 2:Nat):Int)^^^BitVec.ofInt IntKind.i64.bits (-((0:Nat):Int))).toNat=z / 2:=by show(BitVec.ofInt 64 ((z / 2:Nat):Int)^^^BitVec.ofInt 64 0).toNat=z / 2;rw[show BitVec.ofInt 64 0=0#64 from rfl,BitVec.xor_zero,xE,Ey];omega
     rw[this,uS]
   rw[h2,if_neg (by omega)]
   have :(BitVec.ofInt IntKind.i64.bits ((z / 2:Nat):Int)^^^BitVec.ofInt IntKind.i64.bits (-((1:Nat):Int))).toNat=2^64 -1 -z / 2:=by show(BitVec.ofInt 64 ((z / 2:Nat):Int)^^^BitVec.ofInt 64 (-1)).toNat=_;rw[show BitVec.ofInt 64 (-1)=BitVec.allOnes 64 by decide+kernel,BitVec.xor_allOnes,BitVec.toNat_not,xE,Ey];omega
   rw[this];simp only[Ab,AV.int.injEq,Ii];simp only[IntKind.wrap,IntKind.bits,IntKind.signed];simp;split<;>omega
  refine aB fun K2 bO=>?_;simp only[↓zP,zG,seval,g6,hn0];apply bO;clear bO K2;simp only[nG,Ab,AV.int.injEq,Ii] at aEk;have aEd:(z:Int).fdiv (2^min 1 IntKind.u64.bits)=((z / 2:Nat):Int):=aLi;simp only[↓zP,zG,seval,g5,g6,aEd,uS,hand,qI,ba];refine⟨rfl,_,by simp only[mZ,EU,zB,seval];rfl,?_,rfl⟩;simp only[dM,hu,TR.av];rw[aEk];rfl
 clear hK
 refine IJ (id:=0) (cmp:=12) (ix:=11) (ln:=10) (nx:=41) (fun i f h=>h=H/\i<=9/\f 9=.bH tag 1 (aO b)/\f 6=.int .i64 0/\∃acc:Nat,f 5=.int .u64 acc/\acc<128^i/\uget 0 b=upto i acc (uget i (b.drop i)))
  b.length (by omega) (by decide) (by simp only[zB,seval]) (by simp only[zB,seval]) ?_ ?_ ?_ ?_
 . refine⟨rfl,by omega,by simp only[zB,seval],by simp only[zB,seval],0,by simp only[zB,seval],by simp,?_⟩;rw[Ex]
   cases uget 0 b with
   |error e=>rfl
   |ok p=>simp[upto]
 . rintro i f h d v (rfl|rfl|rfl) ⟨h1,h2,h3,h4,acc,h5,h6,h7⟩<;>exact⟨h1,h2,by simpa only[zB,seval] using h3,by simpa only[zB,seval] using h4,acc,by simpa only[zB,seval] using h5,h6,h7⟩
 . rintro i f h hi e1 e2 ⟨rfl,hi9,h3,h4,acc,h5,h6,h7⟩;have hc:b.getD i 0<256:=by rw[Ck,Ac hi];exact hb _ (Ap hi)
   rw[VU hi] at h7;obtain⟨c,hcd⟩:∃c,b.getD i 0=c:=⟨_,rfl⟩;rw[hcd] at hc h7;refine aS (aB fun K2 bO=>?_);simp only[↓zP,zG,seval,h3,e1,aQ,bB,hi,Oy b hi,hcd];apply bO;clear bO K2;refine aB fun K2 bO=>?_;refine aS (aB fun K3 HP=>?_);obtain⟨q1,aw⟩:∃q,((i:Int)==9)=q:=⟨_,rfl⟩;obtain⟨q2,hq2⟩:∃q,decide ((c:Int)>1)=q:=⟨_,rfl⟩;obtain⟨q3,hq3⟩:∃q,decide ((i:Int)>0)=q:=⟨_,rfl⟩;obtain⟨q4,hq4⟩:∃q,((c:Int)==0)=q:=⟨_,rfl⟩
   have hE:((q1&&q2)||(q3&&q4))=decide ((i=9/\1<c)\/(0<i/\c=0)):=by rw[<-aw,<-hq2,<-hq3,<-hq4,Gk];simp;omega
   have aKa:∀f':cQ,f' 24=.bool ((q1&&q2)||(q3&&q4))->f' 5=.int .u64 acc->f' 7=.int .i64 i->f' 8=.int .u8 c->f' 9=.bH tag 1 (aO b)->f' 10=.int .i64 b.length->f' 11=.int .i64 i->f' 6=.int .i64 0->K3 f' [] h:=by
    intro f' g24 g5 g7 g8 g9 g10 g11 g6;apply HP;rw[hE] at g24;simp only[Zf,Qi,g24,wU];refine⟨fun he=>?_,fun he=>?_⟩
    . simp only[↓zP,zG,seval];refine⟨rfl,_,by simp only[mZ,EU,zB,seval];rfl,?_,rfl⟩;show Out.ret (.eZ [.int .i64 0,.int .i64 0,.int .i64 11])=_;simp only[dM,h7,uget,he,if_true,upto,TR.av];rfl
    have hand:nG .and .u8 (c:Int) 127=some (.int .u8 ((c%128:Nat):Int)):=by rw[show(127:Int)=((127:Nat):Int) from rfl,Ou rfl (by simpa [IntKind.bits] using hc) (by decide)];rw[show(127:Nat)=2^7 -1 from rfl,Nat.and_two_pow_sub_one_eq_mod]
    have uS:IntKind.u64.wrap ((c%128:Nat):Int)=((c%128:Nat):Int):=wrap_u64 (by omega) (by omega);have qI:IntKind.i64.wrap (7*(i:Int))=((7*i:Nat):Int):=by rw[wrap_i64 (by omega) (by omega)];simp
    have hp:c%128*128^i<2^64:=by
     by_cases h9:i=9
     . subst h9;have :c<=1:=(by omega);have :c%128<=1:=(by omega);omega
     have :128^i<=128^8:=Fa (by omega) (by omega);have :c%128*128^i<=127*128^8:=Ch (by omega) this;omega
    have aAf:(128:Nat)^i=2^(7*i):=by rw[show(128:Nat)=2^7 from rfl,<-Nat.pow_mul]
    have aEc:jX .shl .u64 ((c%128:Nat):Int) .i64 ((7*i:Nat):Int)=some (.int .u64 ((c%128*128^i:Nat):Int)):=by rw[lz rfl _ _ (by simp[IntKind.bits];omega),<-aAf,Bz (by simpa [IntKind.bits] using hp)]
    have h6':acc<2^64:=by have :128^i<=128^9:=Fa (by omega) hi9;omega
    have Pg:nG .or .u64 (acc:Int) ((c%128*128^i:Nat):Int)=some (.int .u64 ((acc+c%128*128^i:Nat):Int)):=by rw[dj rfl (by simpa [IntKind.bits] using h6') (by simpa [IntKind.bits] using hp),aAf,aCh (by rw[<-aAf];exact h6)]
    simp only[↓zP,zG,seval,g5,g7,g8,hand,uS,qI];simp only[jX] at aEc;simp only[aEc,zG,seval,Pg];apply bO;clear bO K2 HP K3;have eW:decide ((c:Int)<128)=decide (c<128):=Gy.mpr (by omega);refine aB fun K2 bO=>?_;simp only[↓zP,zG,seval,g8,eW];apply bO;clear bO K2;simp only[Zf,Qi,wU];refine⟨fun hl=>?_,fun hl=>?_⟩
    . simp only[↓zP,zG,seval,g7];apply fin;refine .inr ⟨acc+128^i*c,i+1,by omega,by omega,?_,?_,?_,?_⟩
      . have :=OJ b 0 (acc+128^i*c) (i+1) (by omega) (by simp only[h7,uget,he,hl,if_true,upto];rfl);simpa using this.2.2.2
      . simp only[zB,seval];rw[wrap_i64 (by omega) (by omega)];rfl
      . simp only[zB,seval];rw[Bz hl,Cn c]
      simp only[h7,uget,he,hl,if_true,upto];rfl
    simp only[↓zP,zG,seval];refine⟨trivial,g11,g10,trivial,?_,g9,g6,acc+c%128*128^i,rfl,?_,?_⟩
    . by_cases h9:i=9
      . exact absurd (.inl ⟨h9,by omega⟩) he
      omega
    . have :c%128*128^i<=127*128^i:=Cd _ (by omega);rw[Dm];omega
    rw[h7,Wh he hl]
   cases q1<;>cases q2<;>cases q3<;>cases q4<;>simp only[↓zP,zG,seval,aw,hq2,hq3,hq4]<;>apply aKa<;>simp only[zB,seval,h3,h4,h5,e1,e2,Gj,Ja,Hu,Ih]
 rintro f h e2 ⟨rfl,hi9,h3,h4,acc,h5,h6,h7⟩;apply fin;refine .inl ⟨h4,?_⟩;rw[h7,List.drop_length];rfl
end Go.Proofs.YtgggiembljfnhaaGreatDoor
