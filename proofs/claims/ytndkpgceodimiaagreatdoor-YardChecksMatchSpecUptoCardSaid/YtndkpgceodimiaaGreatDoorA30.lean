/-
  Part of the proof of statement 10
-/
import Derived.Test.YtndkpgceodimiaaGreatDoorA28
import Derived.Test.YtndkpgceodimiaaGreatDoorA29
import Derived.Test.YtndkpgceodimiaaGreatDoorA23
import Derived.Test.YtndkpgceodimiaaGreatDoorA25
set_option linter.unusedVariables false
set_option maxRecDepth 100000
set_option maxHeartbeats 16000000
namespace Go.Proofs.YtndkpgceodimiaaGreatDoor
open Go Go.Av Go.aI Go.sK
attribute [local congr] aV aO aP aL aX aR aQ aH aY
attribute [local irreducible] FC bY eX
theorem qM {a b:aI.V} {A B:Nat} (ha:bT A a) (hb:bT B b) (hs:3*(A*B)<2^62) (H:aA):Sg 239 [.agg (cG a),.agg (cG b)] H (.ret (.int .i64 (aI.dot a b))) H:=by
 obtain⟨a1,a2,a3⟩:=ha;obtain⟨b1,b2,b3⟩:=hb;have m1:=bV a1 b1;have m2:=bV a2 b2;have m3:=bV a3 b3;have w1:=fW m1 (by omega);have w2:=fW m2 (by omega);have w3:=fW m3 (by omega);have w4:IntKind.i64.wrap (a.x*b.x+a.y*b.y)=a.x*b.x+a.y*b.y:=fW (B:=2*(A*B)) (by omega) (by omega);have w5:IntKind.i64.wrap (a.x*b.x+a.y*b.y+a.z*b.z)=a.x*b.x+a.y*b.y+a.z*b.z:=fW (B:=3*(A*B)) (by omega) (by omega);refine So aYo (by simp only[sf,cE]) ?_ H;unfold aNy;dsimp only;simp only[↓zP,zJ,Nat.reduceLT,Nat.reduceEqDiff,Nat.reduceAdd,Nat.reduceLeDiff,cG,nC,w1,w2,w3,w4,w5]
 (refine Rx ?_;rfl)
theorem Lv {a b:aI.V} {A B:Nat} (ha:bT A a) (hb:bT B b) (hs:A*B<2^61) (H:aA):Sg 281 [.agg (cG a),.agg (cG b)] H (.ret (.agg (cG (aI.aT a b)))) H:=by
 obtain⟨a1,a2,a3⟩:=ha;obtain⟨b1,b2,b3⟩:=hb;have w1:=fW (bV a2 b3) (by omega);have w2:=fW (bV a3 b2) (by omega);have w3:=fW (bV a3 b1) (by omega);have w4:=fW (bV a1 b3) (by omega);have w5:=fW (bV a1 b2) (by omega);have w6:=fW (bV a2 b1) (by omega);have w7:=Qx (bV a2 b3) (bV a3 b2) hs;have w8:=Qx (bV a3 b1) (bV a1 b3) hs;have w9:=Qx (bV a1 b2) (bV a2 b1) hs;refine Sp aZm (by simp only[sf,cE]) (by simp only[sf,cE]) ?_ H;unfold aOt;dsimp only;simp only[zJ,Nat.reduceLT,Nat.reduceEqDiff,Nat.reduceAdd,Nat.reduceLeDiff,cG,nC,w1,w2,w3,w4,w5,w6,w7,w8,w9]
 (refine Rx ?_;rfl)
def gF (v:aI.V):Nat->Nat
 |0=>0
 |i+1=>Int.gcd (gF v i) (v.at i)
theorem aTr (v:aI.V):gF v 3=gE v:=by rw[<-PU];simp only[gF,V.at,Int.gcd,Eo,Gw]
theorem vn {v:aI.V} {B:Nat} (h:bT B v):∀i,gF v i<=B
 |0=>Az _
 |i+1=>Uy (a:=(gF v i:Int)) (by rw[Eo];exact vn h i) (bT.c h i)
theorem pg {v:aI.V}:gE v=0↔v=V0:=by
 constructor
 · intro h;refine Ey fun hc=>?_;have :=uI hc;omega
 rintro rfl;rfl
theorem aGy (v:aI.V) (i:Nat):(gJ v).at i=v.at i / (gE v:Int):=by
 match i with
 |0=>rfl
 |1=>rfl
 |i+2=>rfl
theorem aCf (v:aI.V) (i:Nat):(gE v:Int)∣v.at i:=by
 match i with
 |0=>exact Fu ..
 |1=>exact Gu (Ed ..) (Fu ..)
 |i+2=>exact Gu (Ed ..) (Ed ..)
def XY (n:aI.V) (e:Int):List AV:=[.int .i64 n.x,.int .i64 n.y,.int .i64 n.z,.int .i64 e]
theorem aAl {v:aI.V} {B:Nat} (hv:bT B v) (hB:B<2^60) (H:aA):Sg 282 [.agg (c3 fun i=>cI (v.at i))] H (.ret (.agg (XY (gJ v) (if v=V0 then 31 else 0)))) H:=by
 refine Sp aZn (by simp only[sf,kJ fun i _=>dC _]) (by simp only[sf,XY]) ?_ H;unfold aOu;dsimp only;have hl:=fun i (hi:i<3)=>rT (c:=fun i=>cI (v.at i)) (fun i _=>dH _) hi;have h54:(c3 fun i=>cI (v.at i)).length=54:=fX fun _ _=>dH _;have o0:=vS (z:=0) (by decide) (by decide);refine bQ ?_;simp only[↓zP,zJ,Nat.reduceLT];refine fM ?_;simp only[↓zP];refine bW (o0 _) ?_;simp only[↓zP,zJ,Nat.reduceLT,Nat.reduceEqDiff,Nat.reduceAdd];refine bR ?_;refine aG fun K hK=>?_;simp only[↓zP,zG,Nat.reduceLT];refine bN [] (fun i vs H'=>H'.get 0=some (.cells (c3 fun i=>cI (v.at i)) false)/\H'.get 1=some (.cells [.int .i64 0,.int .i64 0,.int .i64 0,.int .i64 0] false)/\H'.get 2=some (.cells (cI (gF v i)) false)/\H'.next=3) 0 3 (by decide) (by decide) (by decide) ?_ ?_ ?_ ?_ ?_
 · simp only[zB];rfl
 · exact⟨by simp only[zI,Nat.reduceAdd,Nat.reduceEqDiff],by simp only[zI,Nat.reduceAdd,Nat.reduceEqDiff],by simp only[zI,Nat.reduceAdd,Nat.reduceEqDiff];rfl,by simp only[zI,Nat.reduceAdd]⟩
 · rintro i f H1 h0 hi hk e1 ⟨g0,g1,g2,gn⟩;simp only[↓zP,zJ,Nat.reduceLT,e1];exact tB (by omega)
 · rintro i f H1 h0 hi hk e1 ⟨g0,g1,g2,gn⟩;have f1:f 1=.ref 0 0:=hk 1 rfl;have f3:f 3=.ref 2 0:=hk 3 rfl;have hb:=vn hv i;have hvb:=bT.c hv i;have hg:=Yg (a:=(gF v i:Int)) (b:=v.at i) (by rw[Eo];omega) (by omega);refine aF ?_;refine Dz ?_;simp only[↓zP,zJ,Nat.reduceLT,Nat.reduceEqDiff,Nat.reduceAdd,zD,reduceCtorEq,f1,f3,e1,g0,g2,aB,hi,h54,hl i hi,show i*18+18<=54 by omega];refine eE (hg _) ?_;simp only[↓zP,zJ,Nat.reduceEqDiff,Nat.reduceAdd,zD,reduceCtorEq,f3,g2];exact⟨g0,g1,rfl,gn⟩
 rintro f H1 hk ⟨g0,g1,g2,gn⟩;rw[aTr] at g2;have f1:f 1=.ref 0 0:=hk 1 rfl;have f2:f 2=.ref 1 0:=hk 2 rfl;have f3:f 3=.ref 2 0:=hk 3 rfl;have hb:=vn hv 3;rw[aTr] at hb;have VD:(cI ((gE v:Nat):Int)).getD 0 aD=.bool false:=rfl;have hsg:=aAn (z:=((gE v:Nat):Int)) (vl (by rw[Eo];omega));show K f [] H1;apply hK;clear hK K;refine bQ ?_;simp only[↓zP,zJ,Nat.reduceLT,Nat.reduceLeDiff,f3,g2,VD];refine bR ?_;refine aG fun K hK=>?_;simp only[↓zP,zJ,Nat.reduceLT,Nat.reduceEqDiff,Nat.reduceAdd,f3,g2];refine bW (hsg _) ?_;by_cases Pf:v=V0
 · have xi:gE v=0:=pg.2 Pf;have dR:(aBn ((gE v:Nat):Int)==0)=true:=by rw[xi];rfl
   rw[if_pos Pf];simp only[↓zP,zJ,Nat.reduceLT,Nat.reduceEqDiff,Nat.reduceAdd,dR,f2,g1];refine⟨rfl,_,by simp only[↓zP,zR,Nat.reduceEqDiff,Nat.reduceAdd,f2];rfl,?_⟩;subst Pf;rfl
 have hgp:=uI Pf
 have dR:(aBn ((gE v:Nat):Int)==0)=false:=by rw[Ce];unfold aBn;rw[if_neg (by omega),if_neg (by omega)];decide
 rw[if_neg Pf];simp only[↓zP,zJ,Nat.reduceLT,dR];apply hK;clear hK K;refine bQ ?_;simp only[↓zP,zJ,Nat.reduceLT,Nat.reduceEqDiff,Nat.reduceAdd];refine bR ?_;refine aG fun K hK=>?_;have hpn:=tG hv;have bIe:∀i,i<3->(AV.int .i64 ((gJ v).at i))=(cG (gJ v)).getD i aD:=fun i hi=>(jP _ hi).symm;simp only[↓zP,zG,Nat.reduceLT,gn];refine bN [] (fun i vs H'=>H'.get 0=some (.cells (c3 fun i=>cI (v.at i)) false)/\H'.get 1=some (.cells [.int .i64 0,.int .i64 0,.int .i64 0,.int .i64 0] false)/\H'.get 2=some (.cells (cI ((gE v:Nat):Int)) false)/\H'.get 3=some (.cells ((cG (gJ v)).take i++[AV.int .i64 0,.int .i64 0,.int .i64 0,.int .i64 0].drop i) false)) 0 3 (by decide) (by decide) (by decide) ?_ ?_ ?_ ?_ ?_
 · simp only[zB];rfl
 · refine⟨?_,?_,?_,?_⟩
   · simp only[zI,Nat.reduceEqDiff,gn];exact g0
   · simp only[zI,Nat.reduceEqDiff,gn];exact g1
   · simp only[zI,Nat.reduceEqDiff,gn];exact g2
   simp only[zI,gn]
 · rintro i f5 H5 h0 hi VJ e5 ⟨q0,q1,q2,q3⟩;simp only[↓zP,zJ,Nat.reduceLT,e5];exact tB (by omega)
 · rintro i f5 H5 h0 hi VJ e5 ⟨q0,q1,q2,q3⟩;have k1:f5 1=.ref 0 0:=by rw[VJ 1 rfl];simp only[zB,Nat.reduceEqDiff];exact f1
   have k3:f5 3=.ref 2 0:=(by rw[VJ 3 rfl];simp only[zB,Nat.reduceEqDiff];exact f3);have k5:f5 5=.ref 3 0:=VJ 5 rfl;have hvb:=bT.c hv i;have hq:=Yi (n:=v.at i) (m:=((gE v:Nat):Int)) (by omega) (aCf v i) (by omega) (by rw[Eo];omega);rw[<-aGy] at hq;have hpb:=bT.c hpn i;have hsm:=Rn (z:=(gJ v).at i) (by omega) (by omega);refine aF ?_;refine bQ ?_;refine Dz ?_;simp only[↓zP,zJ,Nat.reduceLT,Nat.reduceEqDiff,Nat.reduceAdd,zD,reduceCtorEq,k1,k3,e5,q0,q2,aB,hi,h54,hl i hi,show i*18+18<=54 by omega];refine eE (hq _) ?_;simp only[Nat.reduceAdd];refine eE (hsm _) ?_;simp only[↓zP,zJ,Nat.reduceLT,Nat.reduceEqDiff,Nat.reduceAdd,zD,reduceCtorEq];refine bR ?_
   match i,hi with
   |0,_=>simp only[↓zP,zJ,Nat.reduceLT,Nat.reduceEqDiff,Nat.reduceAdd,Nat.reduceLeDiff,k5,e5,aB,q3,cG];exact⟨q0,q1,q2,rfl⟩
   |1,_=>simp only[↓zP,zJ,Nat.reduceLT,Nat.reduceEqDiff,Nat.reduceAdd,Nat.reduceLeDiff,k5,e5,aB,q3,cG];exact⟨q0,q1,q2,rfl⟩
   |2,_=>simp only[↓zP,zJ,Nat.reduceLT,Nat.reduceEqDiff,Nat.reduceAdd,Nat.reduceLeDiff,Nat.reduceMul,k5,e5,aB,q3,cG];exact⟨q0,q1,q2,rfl⟩
 rintro f5 H5 VJ ⟨q0,q1,q2,q3⟩;have k2:f5 2=.ref 1 0:=by rw[VJ 2 rfl];simp only[zB,Nat.reduceEqDiff];exact f2
 have k5:f5 5=.ref 3 0:=VJ 5 rfl;have hsm:=Ys hpn (by omega);have e3:(cG (gJ v)).take 3++[AV.int .i64 0,.int .i64 0,.int .i64 0,.int .i64 0].drop 3=XY (gJ v) 0:=rfl;rw[e3] at q3;have d3:(XY (gJ v) 0).take 3=cG (gJ v):=rfl;have d4:(XY (gJ v) 0).length=4:=rfl;show K f5 [] H5;apply hK;clear hK K;refine bQ ?_;simp only[↓zP,zJ,Nat.reduceLT,Nat.reduceEqDiff,Nat.reduceLeDiff,k5,q3,d3,d4];refine bW (hsm _) ?_;simp only[↓zP,zG,Nat.reduceLT];refine bR ?_;simp only[↓zP,zJ,Nat.reduceLT,Nat.reduceEqDiff,Nat.reduceAdd,k5,k2,q3,q1,d4,oL d4];refine⟨rfl,_,by simp only[↓zP,zR,Nat.reduceEqDiff,k2,oL d4];rfl,?_⟩
 first|rfl|(rw[if_neg Pf];rfl)
theorem Yq {a b c:aI.V} {M:Nat} (ha:bT M a) (hb:bT M b) (hc:bT M c) (hM:M<=2^18) (H:aA):Sg 238 [.agg (cG a),.agg (cG b),.agg (cG c)] H (.ret (.agg (cG (gJ (aI.aT (aI.sub b a) (aI.sub c a)))))) H:=by
 have hu:=fV hb ha;have hw:=fV hc ha;have hn:=kK hu hw;have hMM:(M+M)*(M+M)<=2^19*2^19:=Bq (by omega) (by omega);refine Sp aYn (by simp only[sf,cE]) (by simp only[sf,cE]) ?_ H;unfold aNx;dsimp only;refine bQ ?_;simp only[↓zP,zJ,seval];refine fM ?_;refine lN 1 (by decide) (by simp only[mQ,seval,zI,Jc,Df]) fun H1 n1 e1=>?_;simp only[zI,seval] at n1 e1;simp only[↓zP,zJ,seval,zD,e1,oL (aM a),oL (aM b)];refine eE (xF hb ha (by omega) _) ?_;simp only[↓zP,zJ,seval,zD,e1,oL (aM a),oL (aM c)];refine eE (xF hc ha (by omega) _) ?_;simp only[seval];refine eE (Lv hu hw (by omega) _) ?_;generalize hN:aI.aT (aI.sub b a) (aI.sub c a)=N at *;simp only[↓zP,zJ,seval,zD,n1,e1,oL (aM N)];refine bR ?_;generalize hB:2*((M+M)*(M+M))=B at *;generalize hX:(H1.set 4 _).set 4 _=H2;have g3:H2.get 3=some (.cells [.int .i64 0,.int .i64 0,.int .i64 0] false):=by subst hX;simp only[seval,zI,e1]
 have g4:H2.get 4=some (.cells (cG N) false):=by subst hX;simp only[seval,zI]
 have gn:H2.next=5:=by subst hX;simp only[aA.aW];exact n1
 clear hX e1 n1;have iN:∀i,wE (N.at i):=fun i=>by have :=bT.c hn i;unfold wE;omega
 have hp:=aAl hn (by omega);refine bQ ?_;simp only[↓zP,zJ,seval,g4,oL (aM N)];refine bW (BG iN _) ?_;refine bW (hp _) ?_;have d4:∀e,(XY (gJ N) e).length=4:=fun _=>rfl;have d3:∀e,(XY (gJ N) e).take 3=cG (gJ N):=fun _=>rfl;simp only[↓zP,zJ,seval,oL (d4 _),gn];refine bR ?_;simp only[↓zP,zJ,seval,oL (d4 _),d3,g3,gn,oL (aM (gJ N))];refine⟨rfl,_,by simp only[↓zP,zR,seval,oL (aM (gJ N))];rfl,?_⟩;rfl
theorem DA {α:Type} {f g:α->Bool}:∀{l:List α},(∀x∈l,f x=g x)->l.any f=l.any g
 |[],_=>rfl
 |x::l,h=>by rw[List.any_cons,List.any_cons,h x Ax,DA fun y hy=>h y (Ay _ hy)]
theorem mz {l:List aI.V} {M B:Nat} (hl:∀v∈l,bT M v) (hlen:l.length<2^30) {n:aI.V} {d:Int} (hq:bT B n) (hs:3*(B*M)<2^62) (H:aA):
 Sg 241 [.aU 0 3 (bS l),.agg (cG n),.int .i64 d] H (.ret (.bool (CU l (n,d)))) H:=by
 have RP:Nat.blt 0 2=true:=rfl;refine So aYr (by simp only[sf,cV RP,cE]) ?_ H;unfold aOb;dsimp only;simp only[↓zP,zJ,seval];refine bN [7] (fun i vs H'=>H'=((⟨0,.nil⟩:aA).alloc (.cells (cG n) false))/\vs=[.bool ((l.take i).any fun v=>decide (aI.dot n v<d))]/\∀v∈l.take i,aI.dot n v<=d) 0 l.length (Az _) (by omega) (by decide) ?_ ?_ ?_ ?_ ?_
 · simp only[zB,seval]
 · exact⟨rfl,by simp only[sm,zB,seval];rfl,fun v hv=>by simp at hv⟩
 · rintro i f H1 h0 hi hk e1 ⟨rfl,hv,hle⟩;have f0:f 0=.aU 0 3 (bS l):=hk 0 rfl;simp only[↓zP,zG,seval,e1,f0,aN];exact tB (by omega)
 · rintro i f H1 h0 hi hk e1 ⟨rfl,hv,hle⟩;simp only[zM] at hv;have f0:f 0=.aU 0 3 (bS l):=hk 0 rfl;have f2:f 2=.int .i64 d:=hk 2 rfl;have f4:f 4=.ref 0 0:=hk 4 rfl;have hg:=cF hi;have hm:=Ac hi;have hd:=qM hq (hl _ hm) hs
   have ML:(l.take (i+1)).any (fun v=>decide (aI.dot n v<d))=((l.take i).any (fun v=>decide (aI.dot n v<d))||decide (aI.dot n l[i]<d)):=by rw[Al,Ix];simp[hi]
   have hx:∀v,v∈l.take (i+1)->v∈l.take i\/v=l[i]:=fun v hv=>by
    rw[Al,An] at hv
    rcases hv with h|h
    · exact .inl h
    simp[hi] at h;exact .inr h
   have qK:aI.dot n l[i]>d->CU l (n,d)=false:=fun h=>by
    unfold CU
    have :l.all (fun v=>decide (aI.dot n v<=d))=false:=by rw[Ec];exact⟨l[i],hm,by simp;omega⟩
    rw[this];rfl
   generalize (l.take i).any (fun v=>decide (aI.dot n v<d))=b at *;generalize l[i]=x at *;rw[ML];refine aF ?_;refine bQ ?_;refine Dz ?_;simp only[↓zP,zJ,seval,zD,f0,f4,e1,aB,aN,hi,hg,oL (aM n),oL (aM x)];refine eE (hd _) ?_;simp only[↓zP,zJ,seval,zD];refine bR ?_;by_cases c:aI.dot n x>d
   · have c1:=Af c;simp only[↓zP,zG,seval,f2,c1];refine Rx ?_;rw[qK c];rfl
   have c1:=Ae c
   have Xu:∀v∈l.take (i+1),aI.dot n v<=d:=fun v hv=>by
    rcases hx v hv with h|rfl
    · exact hle v h
    omega
   cases b with
   |true=>simp only[↓zP,zJ,seval,f2,c1,hv,Bool.true_or];exact⟨trivial,trivial,Xu⟩
   |false=>simp only[↓zP,zJ,seval,f2,c1,hv,Bool.false_or];exact⟨trivial,trivial,Xu⟩
 rintro f H1 hk ⟨rfl,hv,hle⟩;simp only[zM] at hv;rw[Ao] at hv hle
 have :CU l (n,d)=l.any fun v=>decide (aI.dot n v<d):=by
  unfold CU
  have h1:l.all (fun v=>decide (aI.dot n v<=d))=true:=by rw[Aw];exact fun v hv=>Af (hle v hv)
  rw[h1,Cr,List.not_all_eq_any_not];refine DA fun v hv=>?_;have :=hle v hv;rw[Cg,Cp,Ce,Bg];show aI.dot n v≠d↔_;omega
 rw[this];simp only[↓zP,seval,hv];refine Rx ?_;rfl
theorem Vz (tag:Nat) {l:List aI.V} {M B:Nat} (hl:∀v∈l,bT M v) (hlen:l.length<2^30) {n:aI.V} {d:Int} (hq:bT B n) (hs:3*(B*M)<2^62) (H:aA):
 Sg 241 [.aU tag 3 (bS l),.agg (cG n),.int .i64 d] H (.ret (.bool (CU l (n,d)))) H:=(mz hl hlen hq hs H).CV tag
def yZ (L:aI.V×Int->List Nat) (S:List (aI.V×Int)):AV:=kC 5 (S.map (cU L))
theorem jG (L:aI.V×Int->List Nat) (S:List (aI.V×Int)):(S=[]/\yZ L S=.aS)\/(S≠[]/\yZ L S=.aU 0 5 (S.map (cU L))):=by
 unfold yZ kC;by_cases h:S=[]
 · exact .inl ⟨h,by rw[if_pos (by simp[h])]⟩
 exact .inr ⟨h,by rw[if_neg (by simpa using h)]⟩
theorem KX (L:aI.V×Int->List Nat) (S:List (aI.V×Int)):(yZ L S).free=true:=np (dW (qE L) S)
theorem nf (L:aI.V×Int->List Nat) (S:List (aI.V×Int)) (hlen:S.length<2^30) (n:aI.V) (H:aA):
 Sg 240 [yZ L S,.agg (cG n)] H (.ret (.bool (S.any fun q=>decide (q.1=n)))) H:=by
 refine So aYq (by simp only[sf,KX,cE]) ?_ H;unfold aOa;dsimp only;simp only[↓zP,zJ,seval];refine bN [] (fun i vs H'=>H'=((⟨0,.nil⟩:aA).alloc (.cells (cG n) false))/\∀q∈S.take i,q.1≠n) 0 S.length (Az _) (by omega) (by decide) ?_ ?_ ?_ ?_ ?_
 · simp only[zB,seval]
 · exact⟨rfl,fun v hv=>by simp at hv⟩
 · rintro i f H1 h0 hi hk e1 ⟨rfl,cK⟩;have f0:f 0=yZ L S:=hk 0 rfl
   rcases jG L S with ⟨h,e⟩|⟨h,e⟩
   · rw[e] at f0;subst h;simp only[↓zP,zG,seval,e1,f0];exact⟨trivial,trivial,Bc AV.bool (Bb.2 (by simp at hi;simp[hi]))⟩
   rw[e] at f0;simp only[↓zP,zG,seval,e1,f0,Ai];exact tB (by omega)
 · rintro i f H1 h0 hi hk e1 ⟨rfl,cK⟩
   have f0:f 0=.aU 0 5 (S.map (cU L)):=by
    rw[hk 0 rfl];simp only[zB,seval,fG,Dn]
    rcases jG L S with ⟨h,e⟩|⟨h,e⟩
    · rw[h] at hi;exact absurd hi (As _)
    exact e
   have f3:f 3=.ref 0 0:=hk 3 rfl;have hg:(S.map (cU L)).getD i []=cU L S[i]:=eR hi;have d3:(cU L S[i]).take 3=cG S[i].1:=rfl;have d5:(cU L S[i]).length=5:=rfl;refine aF ?_;refine bQ ?_;refine Dz ?_;simp only[↓zP,zJ,seval,zD,f0,f3,e1,aB,Ai,hi,hg,d3,d5,oL (aM n),nF];refine bR ?_;by_cases c:S[i].1=n
   · have c1:=Af c;simp only[↓zP,zG,seval,c1];refine Rx ?_;have :S.any (fun q=>decide (q.1=n))=true:=Bu.2 ⟨S[i],Ac hi,c1⟩;rw[this];rfl
   have c1:=Ae c;simp only[↓zP,zG,seval,c1];refine⟨trivial,fun q hq=>?_⟩;rw[Al,An] at hq
   rcases hq with h|h
   · exact cK q h
   simp[hi] at h;subst h;exact c
 rintro f H1 hk ⟨rfl,cK⟩;rw[Ao] at cK
 have :S.any (fun q=>decide (q.1=n))=false:=by rw[Ek];exact fun q hq=>by simpa using cK q hq
 rw[this];simp only[↓zP,seval];refine Rx ?_;rfl
def uQ (q:aI.V×Int):List (aI.V×Int)->List (aI.V×Int)
 |[]=>[q]
 |s::r=>if uJ q.1 s.1 then q::s::r else s::uQ q r
theorem TI {q:aI.V×Int}:∀{S:List (aI.V×Int)} {i:Nat},(∀s∈S.take i,uJ q.1 s.1=false)->uQ q S=S.take i++uQ q (S.drop i)
 |[],i,_=>by simp
 |s::r,0,_=>by simp
 |s::r,i+1,h=>by have h1:=h s (by simp);have ih:=TI (q:=q) (S:=r) (i:=i) fun x hx=>h x (by simp[hx]);simp only[uQ,h1,Dl,Iz,Fc];rw[<-ih];rfl
theorem OI (q:aI.V×Int):∀S:List (aI.V×Int),(uQ q S).length=S.length+1
 |[]=>rfl
 |s::r=>by
  unfold uQ;split
  · rfl
  rw[Aq,OI q r];rfl
theorem ve (L:aI.V×Int->List Nat) (q:aI.V×Int):(cU L q).length=5:=rfl
theorem Yn (L:aI.V×Int->List Nat) (S:List (aI.V×Int)) (hlen:S.length<2^20) (q:aI.V×Int) (H:aA):
 Sg 242 [yZ L S,.agg (cU L q)] H (.ret (.aU (H.next+2) 5 ((uQ q S).map (cU L)))) (H.alloc .tok):=by
 have cK:uQ q S≠[]:=fun h=>by have :=OI q S;rw[h] at this;simp at this
 refine mI eU (by simp only[sf,KX,qE]) (by simpa using cK) (dW (qE L) _) ?_ H;refine eD fit aYs (Aj rfl) ?_;unfold aOc;dsimp only;have q3:(cU L q).take 3=cG q.1:=rfl;have q5:=ve L q;simp only[↓zP,zJ,seval];refine bN [5,6] (fun i vs H'=>∃v X put,vs=[v,.bool put]/\H'.get 0=some (.cells (cU L q) false)/\1<=H'.next/\Own H' 5 v (X.map (cU L))/\X.length<=i+1/\(if put then X++S.drop i=uQ q S else X=S.take i/\∀s∈S.take i,uJ q.1 s.1=false)) 0 S.length (Az _) (by omega) (by decide) ?_ ?_ ?_ ?_ ?_
 · simp only[zB,seval]
 · exact⟨.aS,[],false,by simp only[sm,zB,seval],by simp only[zI,seval],by simp only[zI,seval],.nil _ _,by simp,by simp⟩
 · rintro i f H1 h0 hi hk e1 ⟨v,X,put,hv,g0,gn,ho,hX,hp⟩;have f0:f 0=yZ L S:=hk 0 rfl
   rcases jG L S with ⟨h,e⟩|⟨h,e⟩
   · rw[e] at f0;subst h;simp only[↓zP,zG,seval,e1,f0];exact⟨trivial,trivial,Bc AV.bool (Bb.2 (by simp at hi;simp[hi]))⟩
   rw[e] at f0;simp only[↓zP,zG,seval,e1,f0,Ai];exact tB (by omega)
 · rintro i f H1 h0 hi hk e1 ⟨v,X,put,hv,g0,gn,ho,hX,hp⟩;simp only[zM] at hv
   have f0:f 0=.aU 0 5 (S.map (cU L)):=by
    rw[hk 0 rfl];simp only[zB,seval,fG,Dn]
    rcases jG L S with ⟨h,e⟩|⟨h,e⟩
    · rw[h] at hi;exact absurd hi (As _)
    exact e
   have f3:f 3=.ref 0 0:=hk 3 rfl;have hg:(S.map (cU L)).getD i []=cU L S[i]:=eR hi;have d3:(cU L S[i]).take 3=cG S[i].1:=rfl;have d5:(cU L S[i]).length=5:=rfl;have hls:=Rs q.1 S[i].1;have hdr:S.drop i=S[i]::S.drop (i+1):=Ct hi;have nM:S.take (i+1)=S.take i++[S[i]]:=(by rw[Al];simp[hi]);rw[hdr] at hp;rw[nM]
   have hnp:(∀s∈S.take i,uJ q.1 s.1=false)->uQ q S=S.take i++uQ q (S[i]::S.drop (i+1)):=fun h=>by
    have :=TI h
    rwa [hdr] at this
   generalize S[i]=s at *;generalize hT:S.take i=T at *;generalize S.drop (i+1)=D at *
   have push:∀(HA:aA) (w:AV) (Y:List (aI.V×Int)) (x:aI.V×Int),Own HA 5 w (Y.map (cU L))->Y.length<2^21->HA.get 0=some (.cells (cU L q) false)->1<=HA.next->
    ∃H5,eF HA 5 56 false w [cU L x]=some (.aU (HA.next+2) 5 ((Y++[x]).map (cU L)),H5)/\H5.get 0=some (.cells (cU L q) false)/\1<=H5.next/\Own H5 5 (.aU (HA.next+2) 5 ((Y++[x]).map (cU L))) ((Y++[x]).map (cU L)):=fun HA w Y x ho hY h0 h1=>by
    obtain⟨H5,z1,z2,z3,z4,z5⟩:=Has.push (.inr ho) (ys:=[cU L x]) (bytes:=56) rfl (by simp only[Ai,Aq,Bj];omega);refine⟨H5,by rw[z1,Cf];rfl,(z4 0 (by omega) (by rw[h0];simp)).trans h0,by omega,.inr ⟨HA.next,rfl,by omega,z3⟩⟩
   refine aF ?_;refine bQ ?_;refine Dz ?_;simp only[↓zP,zJ,seval,zD,f0,f3,e1,g0,aB,Ai,hi,hg,d3,d5,q3,q5];refine eE (hls _) ?_;simp only[↓zP,zJ,seval,zD];refine bR ?_;refine aG fun K hK=>?_
   have key:∀(f':dD) (HA:aA) (w:AV) (Y:List (aI.V×Int)) (MY:Bool),f' 5=w->f' 6=.bool MY->f' 0=.aU 0 5 (S.map (cU L))->f' 7=.int .i64 i->HA.get 0=some (.cells (cU L q) false)->1<=HA.next->Own HA 5 w (Y.map (cU L))->Y.length<=i+1->
    (if MY then Y++s::D=uQ q S else Y=T/\∀s'∈T++[s],uJ q.1 s'.1=false)->K f' [] HA:=by
    intro f' HA w Y MY v5 v6 v0 v7 h0 h1 hY hYl eN;apply hK;clear hK K;obtain⟨H5,z1,z2,z3,z4⟩:=push HA w Y s hY (by omega) h0 h1;simp only[↓zP,zJ,seval,v5,v0,v7,aB,Ai,hi,hg,d5,oL d5];rw[eL];simp only[z1,bZ,seval,v6];refine⟨_,Y++[s],MY,rfl,z2,z3,z4,by simp;omega,?_⟩
    cases MY with
    |true=>simp only[if_true] at eN ⊢;rw[<-eN];simp
    |false=>simp only[Be,Cm] at eN ⊢;rw[eN.1];exact⟨rfl,eN.2⟩
   clear hK
   cases put with
   |true=>simp only[if_true] at hp;simp only[↓zP,zJ,seval,hv];exact key _ H1 v X true (by simp only[zB,seval];exact hv.1) (by simp only[zB,seval];exact hv.2) (by simp only[zB,seval];exact f0) (by simp only[zB,seval];exact e1) g0 gn ho hX (by simpa using hp)
   |false=>
    simp only[Be,Cm] at hp;obtain⟨rfl,bM⟩:=hp
    cases hb:uJ q.1 s.1 with
    |false=>
     simp only[↓zP,zJ,seval,hv];refine key _ H1 v X false (by simp only[zB,seval];exact hv.1) (by simp only[zB,seval];exact hv.2) (by simp only[zB,seval];exact f0) (by simp only[zB,seval];exact e1) g0 gn ho hX ?_;simp only[Be,Cm];refine⟨trivial,fun s' FE=>?_⟩
     rcases An.1 FE with h|h
     · exact bM s' h
     rw[Bn] at h;subst h;exact hb
    |true=>obtain⟨H5,z1,z2,z3,z4⟩:=push H1 v X q ho (by omega) g0 gn;simp only[↓zP,zJ,seval,hv,f3,g0,q5,oL q5];rw[eL];simp only[z1,bZ,seval];have hXl:X.length=i:=(by rw[<-hT];simp;omega);refine key _ H5 _ (X++[q]) true (by simp only[zB,seval]) (by simp only[zB,seval]) (by simp only[zB,seval];exact f0) (by simp only[zB,seval];exact e1) z2 z3 z4 (by simp[hXl]) ?_;simp only[if_true];rw[hnp bM,uQ,if_pos hb];simp
 rintro f H1 hk ⟨v,X,put,hv,g0,gn,ho,hX,hp⟩;simp only[zM] at hv;have f3:f 3=.ref 0 0:=hk 3 rfl
 cases put with
 |true=>simp only[if_true] at hp;rw[Gk,Cd] at hp;simp only[↓zP,zJ,seval,hv];refine Rx ?_;exact⟨v,rfl,hp▸ho⟩
 |false=>simp only[Be,Cm] at hp;obtain⟨rfl,bM⟩:=hp;obtain⟨H5,z1,z2,z3,z4,z5⟩:=Has.push (.inr ho) (ys:=[cU L q]) (bytes:=56) rfl (by simp only[Ai,Aq,Bj];omega);simp only[↓zP,zJ,seval,hv,f3,g0,q5,oL q5];rw[eL];simp only[z1,bZ,seval];refine Rx ?_;refine⟨_,rfl,?_⟩;rw[TI bM,Gk];rw[show S.take S.length++uQ q []=S.take S.length++[q] from rfl,Cf];exact .inr ⟨H1.next,rfl,by omega,z3⟩
theorem mL (b:Bool) (A B:Prop):jK aD b A B=B:=rfl
theorem WI (x:Int) (H:aA):Sg 347 [.int .i64 x] H (.ret (.int .i64 (vC x))) H:=by
 refine So bAm (by simp only[sf]) ?_ H;unfold aPr;dsimp only;unfold vC;by_cases h:x<0
 · have d1:=Af h;simp only[↓zP,zJ,Nat.reduceLT,Nat.reduceEqDiff,d1];refine Rx ?_;rw[if_pos h];rfl
 have d1:=Ae h;by_cases h2:x>0
 · have d2:=Af h2;simp only[↓zP,zJ,Nat.reduceLT,Nat.reduceEqDiff,d1,d2];refine Rx ?_;rw[if_neg h,if_pos h2];rfl
 have d2:=Ae h2;simp only[↓zP,zJ,Nat.reduceLT,Nat.reduceEqDiff,d1,d2];refine Rx ?_;rw[if_neg h,if_neg h2];rfl
theorem aAw (n c:aI.V) (H:aA):Sg 326 [.agg (cG n),.agg (cG c)] H (.ret (.int .i64 (aI.sD n c))) H:=by
 refine So bAc (by simp only[sf,cE]) ?_ H;unfold aPj;dsimp only;simp only[↓zP,zJ,Nat.reduceLT,Nat.reduceEqDiff];refine bN [] (fun i vs H'=>H'=((⟨0,.nil⟩:aA).alloc (.cells (cG n) false)).alloc (.cells (cG c) false)/\∀k,k<i->n.at k=0) 0 3 (by decide) (by decide) (by decide) ?_ ?_ ?_ ?_ ?_
 · simp only[zB];rfl
 · exact⟨rfl,fun k hk=>absurd hk (As _)⟩
 · rintro i f H1 h0 hi hk e1 ⟨rfl,hz⟩;simp only[↓zP,zJ,Nat.reduceLT,e1];exact tB (by omega)
 · rintro i f H1 h0 hi hk e1 ⟨rfl,hz⟩;have f2:f 2=.ref 0 0:=hk 2 rfl;have f3:f 3=.ref 1 0:=hk 3 rfl;have Nx:i+1<=3:=by omega
   refine aF ?_;by_cases hn:n.at i=0
   · have hb:(n.at i != 0)=false:=(by simp[hn]);simp only[↓zP,zJ,Nat.reduceLT,Nat.reduceEqDiff,e1,f2,aB,hi,aM,jP n hi,Nx,hb];refine⟨trivial,fun k hk=>?_⟩;by_cases Xt:k=i
     · subst Xt;exact hn
     exact hz k (by omega)
   have hb:(n.at i != 0)=true:=by simp[hn]
   have w:IntKind.i64.wrap (vC (n.at i)*vC (c.at i))=vC (n.at i)*vC (c.at i):=fW (B:=1*1) (by rw[Ga];exact Bq (Mw _) (Mw _)) (by decide)
   simp only[↓zP,zJ,Nat.reduceLT,Nat.reduceEqDiff,e1,f2,aB,hi,aM,jP n hi,Nx,hb];refine Dz ?_;simp only[↓zP,zJ,Nat.reduceLT,Nat.reduceEqDiff,Nat.reduceAdd,zD,reduceCtorEq,e1,f2,aB,hi,aM,jP n hi,Nx];refine eE (WI (n.at i) _) ?_;simp only[↓zP,zJ,Nat.reduceLT,Nat.reduceEqDiff,Nat.reduceAdd,zD,reduceCtorEq,e1,f3,aB,hi,aM,jP c hi,Nx];refine eE (WI (c.at i) _) ?_;simp only[↓zP,zJ,Nat.reduceLT,Nat.reduceEqDiff,Nat.reduceAdd,zD,reduceCtorEq,w];refine Rx ?_;rw[ee n c hi hz hn,Int.mul_comm];rfl
 rintro f H1 hk ⟨rfl,hz⟩;simp only[↓zP];refine Rx ?_;rw[SB n c hz];rfl
def okV (n a b x:aI.V):Bool:= !(decide (aI.sD n (aI.aT (aI.sub b a) (aI.sub x a))<0)||(decide (aI.sD n (aI.aT (aI.sub b a) (aI.sub x a))=0)&&(decide (aI.dot (aI.sub x a) (aI.sub b a)<0)||decide (aI.dot (aI.sub x a) (aI.sub b a)>aI.dot (aI.sub b a) (aI.sub b a)))))
def DT (l:List aI.V) (n:aI.V) (d:Int) (a b:aI.V):Bool:=l.all fun x=> !decide (aI.dot n x=d)||okV n a b x
theorem aSv {l:List aI.V} {M B:Nat} (hl:∀v∈l,bT M v) (hM:M<=2^18) (hlen:l.length<2^30) {n a b:aI.V} {d:Int} (hq:bT B n) (hs:3*(B*M)<2^62) (ha:bT M a) (hb:bT M b) (H:aA):
 Sg 283 [.aU 0 3 (bS l),.agg (cG n),.int .i64 d,.agg (cG a),.agg (cG b)] H (.ret (.bool (DT l n d a b))) H:=by
 have RP:Nat.blt 0 2=true:=rfl;have hw:=fV hb ha;have hMM:(M+M)*(M+M)<=2^19*2^19:=Bq (by omega) (by omega);have sw:=xF hb ha (by omega);have dww:=qM hw hw (by omega);refine So aZo (by simp only[sf,cV RP,cE]) ?_ H;unfold aOv;dsimp only;refine bQ ?_;simp only[↓zP,zJ,Nat.reduceLT,Nat.reduceEqDiff,Nat.reduceAdd];refine fM ?_;simp only[↓zP,zJ,Nat.reduceLT,Nat.reduceEqDiff,Nat.reduceAdd,oL (aM b),oL (aM a)];refine bW (sw _) ?_;simp only[↓zP,zJ,Nat.reduceLT,Nat.reduceEqDiff,Nat.reduceAdd,oL (aM (aI.sub b a))];refine bR ?_;have hMW:(M+M)*M<=2^19*2^18:=Bq (by omega) hM;generalize hwv:aI.sub b a=w at *;refine aG fun K hK=>?_;simp only[↓zP,zG,Nat.reduceLT];refine bN [] (fun i vs H'=>H'.get 0=some (.cells (cG n) false)/\H'.get 1=some (.cells (cG a) false)/\H'.get 3=some (.cells (cG w) false)/\4<=H'.next/\cW H'/\∀x∈l.take i,aI.dot n x=d->okV n a b x=true) 0 l.length (Az _) (by omega) (by decide) ?_ ?_ ?_ ?_ ?_
 · simp only[zB];rfl
 · refine⟨by simp only[zI,Nat.reduceAdd,Nat.reduceEqDiff],by simp only[zI,Nat.reduceAdd,Nat.reduceEqDiff],by simp only[zI,Nat.reduceAdd,Nat.reduceEqDiff],by simp only[zI,Nat.reduceAdd,Nat.reduceLeDiff],?_,fun v hv=>by simp at hv⟩;exact((((((cW.nil 0).alloc _).alloc _).alloc _).alloc _).set (by simp) _)
 · rintro i f H1 h0 hi hk e1 ⟨g0,g1,g3,gn,hf,bM⟩;have f0:f 0=.aU 0 3 (bS l):=hk 0 rfl;simp only[↓zP,zJ,Nat.reduceLT,Nat.reduceEqDiff,e1,f0,aN];exact tB (by omega)
 · rintro i f H1 h0 hi hk e1 ⟨g0,g1,g3,gn,hf,bM⟩;have f0:f 0=.aU 0 3 (bS l):=hk 0 rfl;have f2:f 2=.int .i64 d:=hk 2 rfl;have f6:f 6=.ref 0 0:=hk 6 rfl;have f8:f 8=.ref 1 0:=hk 8 rfl;have f11:f 11=.ref 3 0:=hk 11 rfl;have hg:=cF hi;have hm:=Ac hi;have hx:=hl _ hm
   have nM:∀v,v∈l.take (i+1)->v∈l.take i\/v=l[i]:=fun v hv=>by
    rw[Al,An] at hv
    rcases hv with h|h
    · exact .inl h
    simp[hi] at h;exact .inr h
   have aQu:aI.dot n l[i]=d->okV n a b l[i]=false->DT l n d a b=false:=fun h1 h2=>by unfold DT;rw[Ec];exact⟨l[i],hm,by simp[h1,h2]⟩
   generalize l[i]=x at *;have hd:=qM hq hx hs
   have aIn:(aI.dot n x=d->okV n a b x=true)->∀v∈l.take (i+1),aI.dot n v=d->okV n a b v=true:=fun h v hv=>by
    rcases nM v hv with h1|rfl
    · exact bM v h1
    exact h
   refine aF ?_;refine aG fun K2 bK=>?_;refine bQ ?_;refine Dz ?_;simp only[↓zP,zJ,Nat.reduceLT,Nat.reduceEqDiff,Nat.reduceAdd,zD,reduceCtorEq,f0,f6,e1,g0,aB,aN,hi,hg,oL (aM n),oL (aM x)];refine eE (hd _) ?_;simp only[↓zP,zJ,Nat.reduceLT,Nat.reduceEqDiff,Nat.reduceAdd,zD,reduceCtorEq,f2];refine bR ?_;by_cases hc:aI.dot n x=d
   · have dR:(aI.dot n x != d)=false:=(by simp[hc]);have ht:=fV hx ha;have st:=xF hx ha (by omega);have cr:=Lv hw ht (by omega);have lf:=aAw n (aI.aT w (aI.sub x a));have dtw:=qM ht hw (by omega)
     have aEz:okV n a b x= !(decide (aI.sD n (aI.aT w (aI.sub x a))<0)||(decide (aI.sD n (aI.aT w (aI.sub x a))=0)&&(decide (aI.dot (aI.sub x a) w<0)||decide (aI.dot (aI.sub x a) w>aI.dot w w)))):=by unfold okV;rw[hwv]
     simp only[↓zP,zG,dR];apply bK;clear bK K2;refine bQ ?_;refine lN 1 (by decide) hf.at1 fun H2 n2 e2=>?_;have q1:=(e2 1).trans g1;simp only[↓zP,zJ,Nat.reduceLT,Nat.reduceEqDiff,Nat.reduceAdd,zD,reduceCtorEq,f0,f8,e1,q1,aB,aN,hi,hg,oL (aM x),oL (aM a)];refine eE (st _) ?_;generalize hto:aI.sub x a=t at *;simp only[↓zP,zJ,Nat.reduceLT,Nat.reduceEqDiff,Nat.reduceAdd,zD,oL (aM t)];generalize hX:(H2.set H1.next _).set H1.next _=H3;have y0:H3.get 0=some (.cells (cG n) false):=(by subst hX;rw[aA.aC,if_neg (by omega),aA.aC,if_neg (by omega),e2];exact g0);have y1:H3.get 1=some (.cells (cG a) false):=(by subst hX;rw[aA.aC,if_neg (by omega),aA.aC,if_neg (by omega),e2];exact g1);have y3:H3.get 3=some (.cells (cG w) false):=(by subst hX;rw[aA.aC,if_neg (by omega),aA.aC,if_neg (by omega),e2];exact g3);have yr:H3.get H1.next=some (.cells (cG t) false):=(by subst hX;rw[aA.aC,if_pos rfl]);have yn:4<=H3.next:=by subst hX;simp only[aA.aW];omega
     have yf:cW H3:=fun j hj=>by subst hX;simp only[aA.aW] at hj;rw[aA.aC,if_neg (by omega),aA.aC,if_neg (by omega),e2];exact hf j (by omega)
     clear hX;refine fM ?_;refine Dz ?_;simp only[↓zP,zJ,Nat.reduceLT,Nat.reduceEqDiff,Nat.reduceAdd,zD,reduceCtorEq,f6,f11,y0,y3,yr,oL (aM n),oL (aM w),oL (aM t)];refine eE (cr _) ?_;generalize aI.aT w t=cw at *;simp only[Nat.reduceAdd];refine eE (lf _) ?_;generalize aI.sD n cw=tn at *;simp only[↓zP,zJ,Nat.reduceLT,Nat.reduceEqDiff,Nat.reduceAdd,zD,reduceCtorEq];refine bR ?_;refine aG fun K2 bK=>?_;refine Dz ?_
     have fin:∀(f':dD) (r:Bool),f' 63=.bool (!r)->okV n a b x=r->K2 f' [] H3:=by
      intro f' r v63 hr;apply bK;clear bK K2
      cases r with
      |true=>simp only[↓zP,zJ,v63];exact⟨y0,y1,y3,yn,yf,aIn fun _=>hr⟩
      |false=>simp only[↓zP,zJ,Nat.reduceLT,v63];refine Rx ?_;rw[aQu hc hr];rfl
     clear bK;by_cases c1:tn<0
     · have d1:=Af c1;simp only[↓zP,zJ,Nat.reduceLT,Nat.reduceEqDiff,Nat.reduceAdd,zD,reduceCtorEq,d1,mL];exact fin _ false (by simp only[zB];rfl) (by rw[aEz,d1];rfl)
     have d1:=Ae c1;by_cases c2:tn=0
     · have d2:(tn==0)=true:=(by simp[c2]);have d2':decide (tn=0)=true:=Af c2;simp only[↓zP,zJ,Nat.reduceLT,Nat.reduceEqDiff,Nat.reduceAdd,zD,reduceCtorEq,d1,d2,f11,y3,yr,oL (aM w),oL (aM t)];refine eE (dtw _) ?_;by_cases c3:aI.dot t w<0
       · have d3:=Af c3;simp only[↓zP,zJ,Nat.reduceLT,Nat.reduceEqDiff,Nat.reduceAdd,zD,reduceCtorEq,d3];exact fin _ false (by simp only[zB];rfl) (by rw[aEz,d1,d2',d3];rfl)
       have d3:=Ae c3;simp only[↓zP,zJ,Nat.reduceLT,Nat.reduceEqDiff,Nat.reduceAdd,zD,reduceCtorEq,d3,f11,y3,yr,oL (aM w),oL (aM t)];refine eE (dtw _) ?_;simp only[↓zP,zJ,Nat.reduceLT,Nat.reduceEqDiff,Nat.reduceAdd,zD,f11,y3,oL (aM w)];refine eE (dww _) ?_;simp only[↓zP,zJ,Nat.reduceLT,Nat.reduceEqDiff,Nat.reduceAdd,zD,reduceCtorEq];exact fin _ (!decide (aI.dot t w>aI.dot w w)) (by simp only[zB,Bool.not_not]) (by rw[aEz,d1,d2',d3];rfl)
     have d2:(tn==0)=false:=(by simp[c2]);have d2':decide (tn=0)=false:=Ae c2;simp only[↓zP,zJ,Nat.reduceLT,Nat.reduceEqDiff,Nat.reduceAdd,zD,reduceCtorEq,d1,d2,mL];exact fin _ true (by simp only[zB];rfl) (by rw[aEz,d1,d2'];rfl)
   have dR:(aI.dot n x != d)=true:=(by simp[hc]);simp only[↓zP,zG,dR];exact⟨g0,g1,g3,gn,hf,aIn fun h=>absurd h hc⟩
 rintro f H1 hk ⟨g0,g1,g3,gn,hf,bM⟩;rw[Ao] at bM
 have :DT l n d a b=true:=by
  unfold DT;rw[Aw];intro x hx;by_cases h:aI.dot n x=d
  · simp[bM x hx h]
  simp[h]
 show K f [] H1;apply hK;simp only[↓zP,zG,Nat.reduceLT];refine Rx ?_;rw[this];rfl
theorem aBf (tag:Nat) {l:List aI.V} {M B:Nat} (hl:∀v∈l,bT M v) (hM:M<=2^18) (hlen:l.length<2^30) {n a b:aI.V} {d:Int} (hq:bT B n) (hs:3*(B*M)<2^62) (ha:bT M a) (hb:bT M b) (H:aA):
 Sg 283 [.aU tag 3 (bS l),.agg (cG n),.int .i64 d,.agg (cG a),.agg (cG b)] H (.ret (.bool (DT l n d a b))) H:=(aSv hl hM hlen hq hs ha hb H).CV tag
theorem gq {α:Type} (f:α->Bool) (z:α):∀l:List α,l.all f=(List.range l.length).all fun k=>f (l.getD k z):=fun l=>by
 rw[Cg,Aw,Aw];constructor
 · intro h k hk;have hk:=Ba.1 hk;have :l.getD k z=l[k]:=by simp[List.getD,hk]
   rw[this];exact h _ (Ac hk)
 intro h x hx;obtain⟨k,hk,rfl⟩:=Dm hx;have :=h k (Ba.2 hk)
 rwa [show l.getD k z=l[k] by simp[List.getD,hk]] at this
theorem aHm {l:List aI.V} {n:aI.V} {d:Int} (a b:Nat):DT l n d (l.getD a V0) (l.getD b V0)=MC n (fun i=>l.getD i V0) (kA (fun i=>l.getD i V0) l.length n d) a b:=by unfold DT MC kA;rw[List.all_filter,gq _ V0];rfl
theorem Xi {on:List Nat} (hs:on.Pairwise (· < ·)) {p:Nat->Bool} {b:Nat} (h:on.find? p=some b):b∈on/\p b=true/\∀k∈on,k<b->p k=false:=by
 obtain⟨h1,xs,bs,rfl,h2⟩:=List.find?_eq_some_iff_append.1 h;refine⟨by simp,h1,fun k hk hkb=>?_⟩
 rcases An.1 hk with hk|hk
 · simpa using h2 k hk
 rcases Ap.1 hk with rfl|hk
 · omega
 rw[List.pairwise_append] at hs;have :=(Cl.1 hs.2.1).1 k hk;omega
theorem nq {l:List aI.V} {M B:Nat} (hl:∀v∈l,bT M v) (hM:M<=2^18) (hlen:l.length<=64) {n:aI.V} {d:Int} (hq:bT B n) (hs:3*(B*M)<2^62)
 {L:List Nat} (hP:Poly (fun i=>l.getD i V0) l.length n d L) (H:aA):
 Sg 243 [.aU 0 3 (bS l),.agg (cG n),.int .i64 d] H (.ret (.aU 0 1 (yE L))) H:=by
 have RP:Nat.blt 0 2=true:=rfl;refine dL fit eU aYt (Aj rfl) (by simp only[sf,cV RP,cE]) ?_ H;have hPn:=fun k (hk:k∈L)=>hP.Rc hk;obtain⟨s0,r,m,Wj,W,hL⟩:=hP.ex
 have vO:∀i,i<m->iter (uR n (fun i=>l.getD i V0) (kA (fun i=>l.getD i V0) l.length n d)) i s0∈L:=fun i hi=>by rw[hL];exact Bf.2 ⟨i,Ba.2 hi,rfl⟩
 have TB:=Og (fun i=>l.getD i V0) l.length n d
 have bIc:m<=l.length:=by have h1:=W.le;have h2:=De (fun k=>decide (aI.dot n (l.getD k V0)=d)) (List.range l.length);rw[Bp] at h2;exact Cb h1 h2
 unfold aOd;dsimp only;have cT:∀k (h:k<l.length),l.getD k V0=l[k]:=fun k h=>by simp[List.getD,h]
 have hs0:s0<l.length/\aI.dot n (l.getD s0 V0)=d:=dK.1 (show s0∈kA (fun i=>l.getD i V0) l.length n d by rw[Wj];simp)
 have aEt:∀k,k<s0->k<l.length->aI.dot n (l.getD k V0)≠d:=fun k h1 h2 h3=>by
  have :k∈kA (fun i=>l.getD i V0) l.length n d:=dK.2 ⟨h2,h3⟩;rw[Wj] at this TB
  rcases Ap.1 this with h|h
  · omega
  have :=(Cl.1 TB).1 k h;omega
 refine bQ ?_;simp only[↓zP,zJ,seval];refine fM ?_;simp only[↓zP,zG,seval];refine fM ?_;simp only[↓zP,zG,seval];refine bR ?_;refine aG fun K hK=>?_;simp only[↓zP,zG,seval];refine bN [8] (fun i vs H'=>H'=((⟨0,.nil⟩:aA).alloc (.cells (cG n) false))/\vs=[.int .i64 (if i<=s0 then -1 else(s0:Int))]) 0 (s0+1) (Az _) (by omega) (by decide) ?_ ?_ ?_ ?_ ?_
 · simp only[zB,seval]
 · exact⟨rfl,by simp only[sm,zB,seval];rw[if_pos (Az _)]⟩
 · rintro i f H1 h0 hi hk e1 ⟨rfl,hv⟩;simp only[zM] at hv;have f0:f 0=.aU 0 3 (bS l):=hk 0 rfl;have d1:decide ((i:Int)<(l.length:Int))=decide (i<l.length):=by rw[Bb];omega
   by_cases h1:i<=s0
   · rw[if_pos h1] at hv;have We:decide ((i:Int)<(l.length:Int))=true:=Af (by omega);have d2:decide ((-1:Int)<0)=true:=rfl;simp only[↓zP,zG,seval,e1,f0,aN,We,hv];exact⟨trivial,trivial,Bc AV.bool (Af (by omega)).symm⟩
   rw[if_neg h1] at hv;have d2:decide ((s0:Int)<0)=false:=Ae (by omega);by_cases hx:i<l.length
   · have We:decide ((i:Int)<(l.length:Int))=true:=Af (by omega);simp only[↓zP,zG,seval,e1,f0,aN,We,hv,d2];exact⟨trivial,trivial,Bc AV.bool (Ae (by omega)).symm⟩
   have We:decide ((i:Int)<(l.length:Int))=false:=Ae (by omega);simp only[↓zP,zG,seval,e1,f0,aN,We];exact⟨trivial,trivial,Bc AV.bool (Ae (by omega)).symm⟩
 · rintro i f H1 h0 hi hk e1 ⟨rfl,hv⟩;simp only[zM] at hv;have f0:f 0=.aU 0 3 (bS l):=hk 0 rfl;have f2:f 2=.int .i64 d:=hk 2 rfl;have f4:f 4=.ref 0 0:=hk 4 rfl;have MN:i<l.length:=by omega
   have hg:=cF MN;have hd:=qM hq (hl _ (Ac MN)) hs;have hbi:=aEt i;rw[cT i MN] at hbi;have hsi:i=s0->aI.dot n l[i]=d:=fun h=>by rw[<-cT i MN,h];exact hs0.2
   generalize l[i]=x at *;refine aF ?_;refine bQ ?_;refine Dz ?_;simp only[↓zP,zJ,seval,zD,f0,f4,e1,aB,aN,MN,hg,oL (aM n),oL (aM x)];refine eE (hd _) ?_;simp only[↓zP,zJ,seval,zD,f2];refine bR ?_;by_cases hc:i=s0
   · have dR:(aI.dot n x==d)=true:=(by simp[hsi hc]);simp only[↓zP,zJ,seval,dR,e1];exact⟨trivial,by rw[if_neg (by omega),hc]⟩
   have dR:(aI.dot n x==d)=false:=(by simp[hbi (by omega) MN]);simp only[↓zP,zJ,seval,dR,hv];exact⟨trivial,by rw[if_pos (by omega),if_pos (by omega)]⟩
 rintro f H1 hk ⟨rfl,hv⟩;simp only[zM] at hv;rw[if_neg (by omega)] at hv;have f0:f 0=.aU 0 3 (bS l):=hk 0 rfl;have fd2:f 2=.int .i64 d:=hk 2 rfl;have f4:f 4=.ref 0 0:=hk 4 rfl;have f7:f 7=.aS:=hk 7 rfl;show K f [] _;apply hK;clear hK K;refine bQ ?_;simp only[↓zP,zG,seval,hv];refine bR ?_;refine aG fun K hK=>?_;generalize VK:kA (fun i=>l.getD i V0) l.length n d=on at *;generalize xk:iter (uR n (fun i=>l.getD i V0) on)=it at *
 have eZ:∀k∈on,k<l.length:=fun k hk=>by rw[<-VK] at hk;exact(dK.1 hk).1
 refine aF ?_;refine iG [7,8] (fun M' vs H'=>∃i,i<m/\M'=m -i/\∃v,vs=[v,.int .i64 (it i s0:Nat)]/\H'.get 0=some (.cells (cG n) false)/\1<=H'.next/\Own H' 1 v (yE ((List.range i).map fun i=>it i s0))) m (by rfl) ?_ ?_
 · exact⟨0,W.pos,rfl,.aS,by simp only[sm,zB,seval,f7,hv];rw[<-xk];rfl,by simp only[zI,seval],by simp only[zI,seval],.nil _ _⟩
 rintro M' f2 H2 dP ⟨i,hi,rfl,v,pU,g0,gn,ho⟩;simp only[zM] at pU;obtain⟨v7,v8⟩:=pU;have k0:f2 0=.aU 0 3 (bS l):=by rw[dP 0 rfl];simp only[zB,seval];exact f0
 have k2:f2 2=.int .i64 d:=by rw[dP 2 rfl];simp only[zB,seval];exact fd2
 have k4:f2 4=.ref 0 0:=by rw[dP 4 rfl];simp only[zB,seval];exact f4
 have k10:f2 10=.int .i64 s0:=dP 10 rfl;have hle:i<=l.length:=by omega
 have d1:decide ((i:Int)<=(l.length:Int))=true:=Af (by omega);have MN:((List.range i).map fun i=>it i s0).length=i:=by simp
 refine aG fun K2 bK=>?_
 have key:∀f':dD,f' 0=.aU 0 3 (bS l)->f' 2=.int .i64 d->f' 4=.ref 0 0->f' 10=.int .i64 s0->f' 7=v->f' 8=.int .i64 (it i s0:Nat)->K2 f' [] H2:=by
  intro f3 w0 w2 w4 w10 w7 w8;apply bK;clear bK K2;obtain⟨hoa,hSa⟩:=W.side i;have Sy:=hSa.1;rw[xk] at hoa Sy;have AM:uR n (fun i=>l.getD i V0) on (it i s0)=it (i+1) s0:=by rw[<-xk];rfl
  have Ll:=hPn _ (vO i hi);rw[AM] at Ll;unfold aI.Rc at Ll;obtain⟨_,hp1,hp2⟩:=Xi TB Ll;have hal:=eZ _ hoa;have VE:=eZ _ Sy;have xd:aI.dot n (l.getD (it (i+1) s0) V0)=d:=by rw[<-VK] at Sy;exact(dK.1 Sy).2
  have bDq:∀k,k<l.length->aI.dot n (l.getD k V0)=d->k∈on:=fun k h1 h2=>by rw[<-VK];exact dK.2 ⟨h1,h2⟩
  have RJ:i+1=m->it (i+1) s0=s0:=fun h=>by rw[h,<-xk];exact W.back
  have bDc:i+1<m->it (i+1) s0≠s0:=fun h=>by rw[<-xk];exact W.first (i+1) (by omega) h
  have hrs:(List.range (i+1)).map (fun i=>it i s0)=(List.range i).map (fun i=>it i s0)++[it i s0]:=by rw[Ew,Cf];rfl
  generalize ha:it i s0=a at *;generalize hb:it (i+1) s0=b at *;generalize hX:(List.range i).map (fun i=>it i s0)=X at *;obtain⟨H5,z1,z2,z3,z4,z5⟩:=Has.push (.inr ho) (ys:=[[AV.int .i64 (a:Nat)]]) (bytes:=8) rfl (by rw[dO,MN,Aq,Bj];omega);have y0:=(z4 0 (by omega) (by rw[g0];simp)).trans g0;have yo:Own H5 1 (.aU (H2.next+2) 1 (yE (X++[a]))) (yE (X++[a])):=.inr ⟨H2.next,rfl,by omega,z3⟩;have hna:=hl _ (Ac hal);refine aF ?_;refine bQ ?_;simp only[↓zP,zJ,seval,w7,w8];rw[eL];simp only[z1,bZ,seval];refine bR ?_;rw[show yE X++[[AV.int .i64 (a:Int)]]=yE (X++[a]) from by simp[yE]];refine bQ ?_;simp only[↓zP,zG,seval];refine bR ?_;refine aG fun K2 bK=>?_;simp only[↓zP,zJ,seval];refine bN [11] (fun k vs H'=>H'=H5/\vs=[.int .i64 (if k<=b then -1 else(b:Int))]) 0 (b+1) (Az _) (by omega) (by decide) ?_ ?_ ?_ ?_ ?_
  · simp only[zB,seval]
  · exact⟨rfl,by simp only[sm,zB,seval];rw[if_pos (Az _)]⟩
  · rintro k f5 H6 h0 hkb VJ e5 ⟨rfl,Wo⟩;simp only[zM] at Wo;have u0:f5 0=.aU 0 3 (bS l):=by rw[VJ 0 rfl];simp only[zB,seval];exact w0
    by_cases h1:k<=b
    · rw[if_pos h1] at Wo;have We:decide ((k:Int)<(l.length:Int))=true:=Af (by omega);have d2:decide ((-1:Int)<0)=true:=rfl;simp only[↓zP,zG,seval,e5,u0,aN,We,Wo];exact⟨trivial,trivial,Bc AV.bool (Af (by omega)).symm⟩
    rw[if_neg h1] at Wo;have d2:decide ((b:Int)<0)=false:=Ae (by omega);by_cases hx:k<l.length
    · have We:decide ((k:Int)<(l.length:Int))=true:=Af (by omega);simp only[↓zP,zG,seval,e5,u0,aN,We,Wo,d2];exact⟨trivial,trivial,Bc AV.bool (Ae (by omega)).symm⟩
    have We:decide ((k:Int)<(l.length:Int))=false:=Ae (by omega);simp only[↓zP,zG,seval,e5,u0,aN,We];exact⟨trivial,trivial,Bc AV.bool (Ae (by omega)).symm⟩
  · rintro k f5 H6 h0 hkb VJ e5 ⟨rfl,Wo⟩;simp only[zM] at Wo;have u0:f5 0=.aU 0 3 (bS l):=by rw[VJ 0 rfl];simp only[zB,seval];exact w0
    have u2:f5 2=.int .i64 d:=(by rw[VJ 2 rfl];simp only[zB,seval];exact w2);have u4:f5 4=.ref 0 0:=(by rw[VJ 4 rfl];simp only[zB,seval];exact w4);have u8:f5 8=.int .i64 (a:Nat):=(by rw[VJ 8 rfl];simp only[zB,seval];exact w8);have xW:k<l.length:=(by omega);have VH:=cF xW;have hga:=cF hal;have hnk:=hl _ (Ac xW);have hd:=qM hq hnk hs;have RO:=aBf 0 hl hM (by omega) hq hs (d:=d) hna hnk;rw[if_pos (show k<=b by omega)] at Wo
    have hpk:(decide (k≠a)&&MC n (fun i=>l.getD i V0) on a k)=decide (k=b)\/k∉on:=by
     by_cases qi:k∈on
     · left;by_cases kd:k=b
       · subst kd;rw[hp1];simp
       rw[hp2 k qi (by omega)];simp[kd]
     exact .inr qi
    have hVR:DT l n d l[a] l[k]=MC n (fun i=>l.getD i V0) on a k:=by rw[<-cT a hal,<-cT k xW,aHm,VK]
    have hdk:aI.dot n l[k]=d->k∈on:=fun h=>bDq k xW (by rw[cT k xW];exact h);have bCw:k∈on->aI.dot n l[k]=d:=fun h=>by rw[<-VK] at h;have :=(dK.1 h).2;rwa [cT k xW] at this
    generalize l[k]=x at *;generalize l[a]=y at *;refine aF ?_;refine aG fun K3 FZ=>?_;refine Dz ?_
    have no:∀f6:dD,f6 65=.bool false->f6 11=.int .i64 (-1)->k≠b->K3 f6 [] H6:=by intro f6 v65 v11 aEu;apply FZ;simp only[↓zP,zJ,seval,v65];exact⟨trivial,by rw[v11,if_pos (show k+1<=b by omega)]⟩
    by_cases Lo:k=a
    · have dR:(((k:Nat):Int) != ((a:Nat):Int))=false:=by rw[Lo];simp
      have aEu:k≠b:=fun h=>by rw[<-h,Lo] at hp1;simp at hp1
      simp only[↓zP,zJ,seval,zD,e5,u8,dR];exact no _ (by simp only[zB,seval]) (by simp only[zB,seval];exact Wo) aEu
    have dR:(((k:Nat):Int) != ((a:Nat):Int))=true:=(by rw[Dc];omega);simp only[↓zP,zJ,seval,zD,e5,u0,u4,u8,y0,dR,aB,aN,xW,VH,oL (aM n),oL (aM x)];refine eE (hd _) ?_;simp only[↓zP,zJ,seval,zD,u2];by_cases Zu:aI.dot n x=d
    · have fH:(aI.dot n x==d)=true:=(by simp[Zu]);have qi:=hdk Zu
      have bEb:DT l n d y x=decide (k=b):=by
       rcases hpk with h|h
       · rw[hVR];simpa [Lo] using h
       exact absurd qi h
      rw[fH];apply FZ;clear FZ K3 no;refine BS true (by simp only[zB,seval]) (fun _=>?_) (fun h=>by cases h);refine bQ ?_;refine Dz ?_;simp only[↓zP,zJ,seval,zD,e5,u0,u2,u4,u8,y0,aB,aN,xW,hal,VH,hga,oL (aM n),oL (aM x),oL (aM y)];refine eE (RO _) ?_;rw[bEb];simp only[↓zP,zJ,seval,zD];refine bR ?_;by_cases kd:k=b
      · have d3:=Af kd;simp only[↓zP,zJ,seval,d3,e5];exact⟨trivial,by rw[if_neg (by omega),kd]⟩
      have d3:=Ae kd;simp only[↓zP,zJ,seval,d3,Wo];exact⟨trivial,by rw[if_pos (show k+1<=b by omega)]⟩
    have fH:(aI.dot n x==d)=false:=(by simp[Zu]);have aEu:k≠b:=fun h=>Zu (bCw (by rw[h];exact Sy));rw[fH];exact no _ (by simp only[zB,seval]) (by simp only[zB,seval];exact Wo) aEu
  rintro f5 H6 VJ ⟨rfl,Wo⟩;simp only[zM] at Wo;rw[if_neg (by omega)] at Wo;have u10:f5 10=.int .i64 s0:=by rw[VJ 10 rfl];simp only[zB,seval];exact w10
  have u7:f5 7=.aU (H2.next+2) 1 (yE (X++[a])):=VJ 7 rfl;show K2 f5 [] _;apply bK;clear bK K2;by_cases him:i+1=m
  · have fH:(((b:Nat):Int)==((s0:Nat):Int))=true:=by rw[RJ him];simp
    simp only[↓zP,zG,seval,Wo,u10,fH];apply hK;clear hK K;simp only[↓zP,zG,seval,u7];refine Rx ?_;have hLe:L=X++[a]:=(by rw[hL,<-him];exact hrs);refine⟨.aU (H2.next+2) 1 (yE (X++[a])),0,rfl,fun nw=>?_⟩;rw[hLe];have JX:=EU (X++[a]);simp[gK,fU,JX,FW]
  have fH:(((b:Nat):Int)==((s0:Nat):Int))=false:=by have :=bDc (by omega);rw[Ce];omega
  have d3:decide (((b:Nat):Int)<0)=false:=Ae (by omega);simp only[↓zP,zJ,seval,Wo,u10,fH,d3];exact⟨m -(i+1),by omega,i+1,by omega,rfl,_,by rw[u7,hb],y0,by omega,by rw[hrs];exact yo⟩
 rcases ho with ⟨e1,e2⟩|⟨k,e1,e2,e3⟩
 · have hi0:i=0:=by
    have :=Bc List.length e2;rw[dO,MN] at this;simpa using this
   subst hi0;rw[e1] at v7;have We:decide ((0:Int)<=(l.length:Int))=true:=Af (by omega);simp only[↓zP,zG,seval,v7,k0,aN];refine⟨fun _=>?_,fun h=>absurd (Int.natCast_nonneg _) h⟩;refine key _ ?_ ?_ ?_ ?_ ?_ ?_
   · simp only[zB,seval];exact k0
   · simp only[zB,seval];exact k2
   · simp only[zB,seval];exact k4
   · simp only[zB,seval];exact k10
   · simp only[zB,seval];rw[v7,e1]
   simp only[zB,seval];exact v8
 rw[e1] at v7;simp only[↓zP,zG,seval,v7,k0,aN,dO,MN,d1];refine key _ ?_ ?_ ?_ ?_ ?_ ?_
 · simp only[zB,seval];exact k0
 · simp only[zB,seval];exact k2
 · simp only[zB,seval];exact k4
 · simp only[zB,seval];exact k10
 · simp only[zB,seval];rw[v7,e1]
 simp only[zB,seval];exact v8
theorem WH (tag:Nat) {l:List aI.V} {M B:Nat} (hl:∀v∈l,bT M v) (hM:M<=2^18) (hlen:l.length<=64) {n:aI.V} {d:Int} (hq:bT B n) (hs:3*(B*M)<2^62)
 {L:List Nat} (hP:Poly (fun i=>l.getD i V0) l.length n d L) (H:aA):
 Sg 243 [.aU tag 3 (bS l),.agg (cG n),.int .i64 d] H (.ret (.aU 0 1 (yE L))) H:=(nq hl hM hlen hq hs hP H).CV tag
end Go.Proofs.YtndkpgceodimiaaGreatDoor
