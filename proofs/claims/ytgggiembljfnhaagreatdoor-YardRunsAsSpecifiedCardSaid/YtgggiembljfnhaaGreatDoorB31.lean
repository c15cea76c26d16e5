/-
  Part of the proof of statement 12
-/
import Derived.Test.YtgggiembljfnhaaGreatDoorB29
import Derived.Test.YtgggiembljfnhaaGreatDoorB30
import Derived.Test.YtgggiembljfnhaaGreatDoorB23
import Derived.Test.YtgggiembljfnhaaGreatDoorB25
set_option linter.unusedVariables false
set_option linter.unusedSimpArgs false
set_option maxRecDepth 100000
set_option maxHeartbeats 16000000
namespace Go.Proofs.YtgggiembljfnhaaGreatDoor
open Go Go.Av Go.aP Go.uE
attribute [local congr] aT aI aL aH aX aQ aM aF aY
attribute [local irreducible] FC bS eF
theorem qJ {a b:aP.V} {A B:Nat} (ha:cG A a) (hb:cG B b) (hs:3*(A*B)<2^62) (H:aA):Sg 259 [.agg (cU a),.agg (cU b)] H (.ret (.int .i64 (aP.dot a b))) H:=by
 obtain⟨a1,a2,a3⟩:=ha;obtain⟨b1,b2,b3⟩:=hb;have m1:=cC a1 b1;have m2:=cC a2 b2;have m3:=cC a3 b3;have w1:=fV m1 (by omega);have w2:=fV m2 (by omega);have w3:=fV m3 (by omega);have w4:IntKind.i64.wrap (a.x*b.x+a.y*b.y)=a.x*b.x+a.y*b.y:=fV (B:=2*(A*B)) (by omega) (by omega);have w5:IntKind.i64.wrap (a.x*b.x+a.y*b.y+a.z*b.z)=a.x*b.x+a.y*b.y+a.z*b.z:=fV (B:=3*(A*B)) (by omega) (by omega);refine So bAh Zal ?_ H;unfold aPd;dsimp only;simp only[↓zP,zJ,Nat.reduceLT,Nat.reduceEqDiff,Nat.reduceAdd,Nat.reduceLeDiff,cU,sT,w1,w2,w3,w4,w5]
 (refine Rx ?_;rfl)
theorem Ld {a b:aP.V} {A B:Nat} (ha:cG A a) (hb:cG B b) (hs:A*B<2^61) (H:aA):Sg 302 [.agg (cU a),.agg (cU b)] H (.ret (.agg (cU (aP.bC a b)))) H:=by
 obtain⟨a1,a2,a3⟩:=ha;obtain⟨b1,b2,b3⟩:=hb;have w1:=fV (cC a2 b3) (by omega);have w2:=fV (cC a3 b2) (by omega);have w3:=fV (cC a3 b1) (by omega);have w4:=fV (cC a1 b3) (by omega);have w5:=fV (cC a1 b2) (by omega);have w6:=fV (cC a2 b1) (by omega);have w7:=Qi (cC a2 b3) (cC a3 b2) hs;have w8:=Qi (cC a3 b1) (cC a1 b3) hs;have w9:=Qi (cC a1 b2) (cC a2 b1) hs;refine Sp bBj Zal Zal ?_ H;unfold aQe;dsimp only;simp only[zJ,Nat.reduceLT,Nat.reduceEqDiff,Nat.reduceAdd,Nat.reduceLeDiff,cU,sT,w1,w2,w3,w4,w5,w6,w7,w8,w9]
 (refine Rx ?_;rfl)
def gF (v:aP.V):Nat->Nat
 |0=>0
 |i+1=>Int.gcd (gF v i) (v.at i)
theorem aVf (v:aP.V):gF v 3=gG v:=by rw[<-PG];simp only[gF,V.at,Int.gcd,En,Gy]
theorem ur {v:aP.V} {B:Nat} (h:cG B v):∀i,gF v i<=B
 |0=>Az _
 |i+1=>Ul (a:=(gF v i:Int)) (by rw[En];exact ur h i) (cG.c h i)
theorem oo {v:aP.V}:gG v=0↔v=V0:=by
 constructor
 . intro h;refine Ew fun hc=>?_;have :=uC hc;omega
 rintro rfl;rfl
theorem aHl (v:aP.V) (i:Nat):(gL v).at i=v.at i / (gG v:Int):=by
 match i with
 |0=>rfl
 |1=>rfl
 |i+2=>rfl
theorem aCj (v:aP.V) (i:Nat):(gG v:Int)∣v.at i:=by
 match i with
 |0=>exact Ft ..
 |1=>exact Gv (Ec ..) (Ft ..)
 |i+2=>exact Gv (Ec ..) (Ec ..)
def XF (n:aP.V) (e:Int):List AV:=[.int .i64 n.x,.int .i64 n.y,.int .i64 n.z,.int .i64 e]
theorem aAn {v:aP.V} {B:Nat} (hv:cG B v) (hB:B<2^60) (H:aA):Sg 303 [.agg (c3 fun i=>cI (v.at i))] H (.ret (.agg (XF (gL v) (if v=V0 then 31 else 0)))) H:=by
 refine Sp bBk (by simp only[sf,xI fun i _=>dG _]) (by simp only[sf,XF]) ?_ H;unfold aQf;dsimp only;have hl:=fun i (hi:i<3)=>NG (c:=fun i=>cI (v.at i)) (fun i _=>dZ _) hi;have h54:(c3 fun i=>cI (v.at i)).length=54:=tH fun _ _=>dZ _;have o0:=vI (z:=0) (by decide) (by decide);refine bQ ?_;simp only[↓zP,zJ,Nat.reduceLT];refine fF ?_;simp only[↓zP,zI];refine bY (o0 _) ?_;simp only[↓zP,zJ,Nat.reduceLT,Nat.reduceEqDiff,Nat.reduceAdd];refine bR ?_;refine aN fun K hK=>?_;simp only[↓zP,zG,Nat.reduceLT];refine bP [] (fun i vs H'=>H'.get 0=some (.cells (c3 fun i=>cI (v.at i)) false)/\H'.get 1=some (.cells [.int .i64 0,.int .i64 0,.int .i64 0,.int .i64 0] false)/\H'.get 2=some (.cells (cI (gF v i)) false)/\H'.next=3) 0 3 (by decide) (by decide) (by decide) ?_ ?_ ?_ ?_ ?_
 . simp only[zB];rfl
 . exact⟨by simp only[zI,Nat.reduceAdd,Nat.reduceEqDiff],by simp only[zI,Nat.reduceAdd,Nat.reduceEqDiff],by simp only[zI,Nat.reduceAdd,Nat.reduceEqDiff];rfl,by simp only[zI,Nat.reduceAdd]⟩
 . rintro i f H1 h0 hi hk e1 ⟨g0,g1,g2,gn⟩;simp only[↓zP,zJ,Nat.reduceLT,e1];exact Zae
 . rintro i f H1 h0 hi hk e1 ⟨g0,g1,g2,gn⟩;have f1:f 1=.ref 0 0:=hk 1 rfl;have f3:f 3=.ref 2 0:=hk 3 rfl;have hb:=ur hv i;have hvb:=cG.c hv i;have hg:=YO (a:=(gF v i:Int)) (b:=v.at i) (by rw[En];omega) (by omega);refine aJ ?_;refine Dz ?_;simp only[↓zP,zJ,Nat.reduceLT,Nat.reduceEqDiff,Nat.reduceAdd,zD,reduceCtorEq,f1,f3,e1,g0,g2,aB,hi,h54,hl i hi,show i*18+18<=54 by omega];refine fP (hg _) ?_;simp only[↓zP,zJ,Nat.reduceEqDiff,Nat.reduceAdd,zD,reduceCtorEq,f3,g2];exact⟨g0,g1,rfl,gn⟩
 rintro f H1 hk ⟨g0,g1,g2,gn⟩;rw[aVf] at g2;have f1:f 1=.ref 0 0:=hk 1 rfl;have f2:f 2=.ref 1 0:=hk 2 rfl;have f3:f 3=.ref 2 0:=hk 3 rfl;have hb:=ur hv 3;rw[aVf] at hb;have XY:(cI ((gG v:Nat):Int)).getD 0 aD=.bool false:=rfl;have hsg:=aAp (z:=((gG v:Nat):Int)) (uj (by rw[En];omega));show K f [] H1;apply hK;clear hK K;refine bQ ?_;simp only[↓zP,zJ,Nat.reduceLT,Nat.reduceLeDiff,f3,g2,XY];refine bR ?_;refine aN fun K hK=>?_;simp only[↓zP,zJ,Nat.reduceLT,Nat.reduceEqDiff,Nat.reduceAdd,f3,g2];refine bY (hsg _) ?_;by_cases PQ:v=V0
 . have we:gG v=0:=oo.2 PQ;have eQ:(aBs ((gG v:Nat):Int)==0)=true:=by rw[we];rfl
   rw[if_pos PQ];simp only[↓zP,zJ,Nat.reduceLT,Nat.reduceEqDiff,Nat.reduceAdd,eQ,f2,g1];refine⟨rfl,_,by simp only[↓zP,zR,Nat.reduceEqDiff,Nat.reduceAdd,f2];rfl,?_⟩;subst PQ;rfl
 have jv:=uC PQ
 have eQ:(aBs ((gG v:Nat):Int)==0)=false:=by rw[Bq];unfold aBs;rw[if_neg (by omega),if_neg (by omega)];decide
 rw[if_neg PQ];simp only[↓zP,zJ,Nat.reduceLT,eQ];apply hK;clear hK K;refine bQ ?_;simp only[↓zP,zJ,Nat.reduceLT,Nat.reduceEqDiff,Nat.reduceAdd];refine bR ?_;refine aN fun K hK=>?_;have hpn:=sZ hv;have bJr:∀i,i<3->(AV.int .i64 ((gL v).at i))=(cU (gL v)).getD i aD:=fun i hi=>(kQ _ hi).symm;simp only[↓zP,zG,Nat.reduceLT,gn];refine bP [] (fun i vs H'=>H'.get 0=some (.cells (c3 fun i=>cI (v.at i)) false)/\H'.get 1=some (.cells [.int .i64 0,.int .i64 0,.int .i64 0,.int .i64 0] false)/\H'.get 2=some (.cells (cI ((gG v:Nat):Int)) false)/\H'.get 3=some (.cells ((cU (gL v)).take i++[AV.int .i64 0,.int .i64 0,.int .i64 0,.int .i64 0].drop i) false)) 0 3 (by decide) (by decide) (by decide) ?_ ?_ ?_ ?_ ?_
 . simp only[zB];rfl
 . refine⟨?_,?_,?_,?_⟩
   . simp only[zI,Nat.reduceEqDiff,gn];exact g0
   . simp only[zI,Nat.reduceEqDiff,gn];exact g1
   . simp only[zI,Nat.reduceEqDiff,gn];exact g2
   simp only[zI,gn]
 . rintro i f5 H5 h0 hi Ur e5 ⟨q0,q1,q2,q3⟩;simp only[↓zP,zJ,Nat.reduceLT,e5];exact Zae
 . rintro i f5 H5 h0 hi Ur e5 ⟨q0,q1,q2,q3⟩;have k1:f5 1=.ref 0 0:=by rw[Ur 1 rfl];simp only[zB,Nat.reduceEqDiff];exact f1
   have k3:f5 3=.ref 2 0:=(by rw[Ur 3 rfl];simp only[zB,Nat.reduceEqDiff];exact f3);have k5:f5 5=.ref 3 0:=Ur 5 rfl;have hvb:=cG.c hv i;have hq:=YQ (n:=v.at i) (m:=((gG v:Nat):Int)) (by omega) (aCj v i) (by omega) (by rw[En];omega);rw[<-aHl] at hq;have hpb:=cG.c hpn i;have hsm:=RW (z:=(gL v).at i) (by omega) (by omega);refine aJ ?_;refine bQ ?_;refine Dz ?_;simp only[↓zP,zJ,Nat.reduceLT,Nat.reduceEqDiff,Nat.reduceAdd,zD,reduceCtorEq,k1,k3,e5,q0,q2,aB,hi,h54,hl i hi,show i*18+18<=54 by omega];refine fP (hq _) ?_;simp only[Nat.reduceAdd];refine fP (hsm _) ?_;simp only[↓zP,zJ,Nat.reduceLT,Nat.reduceEqDiff,Nat.reduceAdd,zD,reduceCtorEq];refine bR ?_
   match i,hi with
   |0,_=>simp only[↓zP,zJ,Nat.reduceLT,Nat.reduceEqDiff,Nat.reduceAdd,Nat.reduceLeDiff,k5,e5,aB,q3,cU];exact⟨q0,q1,q2,rfl⟩
   |1,_=>simp only[↓zP,zJ,Nat.reduceLT,Nat.reduceEqDiff,Nat.reduceAdd,Nat.reduceLeDiff,k5,e5,aB,q3,cU];exact⟨q0,q1,q2,rfl⟩
   |2,_=>simp only[↓zP,zJ,Nat.reduceLT,Nat.reduceEqDiff,Nat.reduceAdd,Nat.reduceLeDiff,Nat.reduceMul,k5,e5,aB,q3,cU];exact⟨q0,q1,q2,rfl⟩
 rintro f5 H5 Ur ⟨q0,q1,q2,q3⟩;have k2:f5 2=.ref 1 0:=by rw[Ur 2 rfl];simp only[zB,Nat.reduceEqDiff];exact f2
 have k5:f5 5=.ref 3 0:=Ur 5 rfl;have hsm:=Yd hpn (by omega);have e3:(cU (gL v)).take 3++[AV.int .i64 0,.int .i64 0,.int .i64 0,.int .i64 0].drop 3=XF (gL v) 0:=rfl;rw[e3] at q3;have d3:(XF (gL v) 0).take 3=cU (gL v):=rfl;have d4:(XF (gL v) 0).length=4:=rfl;show K f5 [] H5;apply hK;clear hK K;refine bQ ?_;simp only[↓zP,zJ,Nat.reduceLT,Nat.reduceEqDiff,Nat.reduceLeDiff,k5,q3,d3,d4];refine bY (hsm _) ?_;simp only[↓zP,zG,Nat.reduceLT];refine bR ?_;simp only[↓zP,zJ,Nat.reduceLT,Nat.reduceEqDiff,Nat.reduceAdd,k5,k2,q3,q1,d4,oL d4];refine⟨rfl,_,by simp only[↓zP,zR,Nat.reduceEqDiff,k2,oL d4];rfl,?_⟩
 first|rfl|(rw[if_neg PQ];rfl)
theorem Yb {a b c:aP.V} {M:Nat} (ha:cG M a) (hb:cG M b) (hc:cG M c) (hM:M<=2^18) (H:aA):Sg 258 [.agg (cU a),.agg (cU b),.agg (cU c)] H (.ret (.agg (cU (gL (aP.bC (aP.sub b a) (aP.sub c a)))))) H:=by
 have hu:=gM hb ha;have hw:=gM hc ha;have hn:=oB hu hw;have hMM:(M+M)*(M+M)<=2^19*2^19:=Bt (by omega) (by omega);refine Sp bAg Zal Zal ?_ H;unfold aPc;dsimp only;refine bQ ?_;refine Ty ?_;refine fF ?_;refine jV 1 (by decide) (by simp only[mR,seval,zI,Iz,Cp]) fun H1 n1 e1=>?_;simp only[zI,seval] at n1 e1;simp only[↓zP,zJ,seval,zD,e1,oL (aV a),oL (aV b)];refine fP (wY hb ha (by omega) _) ?_;simp only[↓zP,zJ,seval,zD,e1,oL (aV a),oL (aV c)];refine fP (wY hc ha (by omega) _) ?_;simp only[seval];refine fP (Ld hu hw (by omega) _) ?_;generalize hN:aP.bC (aP.sub b a) (aP.sub c a)=N at *;simp only[↓zP,zJ,seval,zD,n1,e1,oL (aV N)];refine bR ?_;generalize hB:2*((M+M)*(M+M))=B at *;generalize hX:(H1.set 4 _).set 4 _=H2;have g3:H2.get 3=some (.cells [.int .i64 0,.int .i64 0,.int .i64 0] false):=by subst hX;simp only[seval,zI,e1]
 have g4:H2.get 4=some (.cells (cU N) false):=by subst hX;simp only[seval,zI]
 have gn:H2.next=5:=by subst hX;simp only[aA.aW];exact n1
 clear hX e1 n1;have iN:∀i,JF (N.at i):=fun i=>by have :=cG.c hn i;unfold JF;omega
 have hp:=aAn hn (by omega);refine bQ ?_;simp only[↓zP,zJ,seval,g4,oL (aV N)];refine bY (BB iN _) ?_;refine bY (hp _) ?_;have d4:∀e,(XF (gL N) e).length=4:=fun _=>rfl;have d3:∀e,(XF (gL N) e).take 3=cU (gL N):=fun _=>rfl;simp only[↓zP,zJ,seval,oL (d4 _),gn];refine bR ?_;simp only[↓zP,zJ,seval,oL (d4 _),d3,g3,gn,oL (aV (gL N))];refine⟨rfl,_,by simp only[↓zP,zR,seval,oL (aV (gL N))];rfl,?_⟩;rfl
theorem DG {α:Type} {f g:α->Bool}:∀{l:List α},(∀x∈l,f x=g x)->l.any f=l.any g
 |[],_=>rfl
 |x::l,h=>by rw[List.any_cons,List.any_cons,h x Ar,DG fun y hy=>h y (Au _ hy)]
theorem mg {l:List aP.V} {M B:Nat} (hl:∀v∈l,cG M v) (hlen:l.length<2^30) {n:aP.V} {d:Int} (hq:cG B n) (hs:3*(B*M)<2^62) (H:aA):
 Sg 261 [.bD 0 3 (cH l),.agg (cU n),.int .i64 d] H (.ret (.bool (CZ l (n,d)))) H:=by
 have Qz:Nat.blt 0 2=true:=rfl;refine So bAk (by simp only[sf,dL Qz,cT]) ?_ H;unfold aPg;dsimp only;refine Ty ?_;refine bP [7] (fun i vs H'=>H'=((⟨0,.nil⟩:aA).alloc (.cells (cU n) false))/\vs=[.bool ((l.take i).any fun v=>decide (aP.dot n v<d))]/\∀v∈l.take i,aP.dot n v<=d) 0 l.length (Az _) (by omega) (by decide) ?_ ?_ ?_ ?_ ?_
 . exact zq
 . exact⟨rfl,by simp only[sm,zB,seval];rfl,fun v hv=>by simp at hv⟩
 . rintro i f H1 h0 hi hk e1 ⟨rfl,hv,hle⟩;have f0:f 0=.bD 0 3 (cH l):=hk 0 rfl;simp only[↓zP,zG,seval,e1,f0,aU];exact Zae
 . rintro i f H1 h0 hi hk e1 ⟨rfl,hv,hle⟩;simp only[zM] at hv;have f0:f 0=.bD 0 3 (cH l):=hk 0 rfl;have f2:f 2=.int .i64 d:=hk 2 rfl;have f4:f 4=.ref 0 0:=hk 4 rfl;have hg:=dD hi;have hm:=Ac hi;have hd:=qJ hq (hl _ hm) hs
   have bEp:(l.take (i+1)).any (fun v=>decide (aP.dot n v<d))=((l.take i).any (fun v=>decide (aP.dot n v<d))||decide (aP.dot n l[i]<d)):=by rw[An,Iq];simp[hi]
   have hx:∀v,v∈l.take (i+1)->v∈l.take i\/v=l[i]:=fun v hv=>by
    exact Zas
   have qG:aP.dot n l[i]>d->CZ l (n,d)=false:=fun h=>by
    unfold CZ
    have :l.all (fun v=>decide (aP.dot n v<=d))=false:=by rw[El];exact⟨l[i],hm,by simp;omega⟩
    rw[this];rfl
   generalize (l.take i).any (fun v=>decide (aP.dot n v<d))=b at *;generalize l[i]=x at *;rw[bEp];refine aJ ?_;refine bQ ?_;refine Dz ?_;simp only[↓zP,zJ,seval,zD,f0,f4,e1,aB,aU,hi,hg,oL (aV n),oL (aV x)];refine fP (hd _) ?_;simp only[↓zP,zJ,seval,zD];refine bR ?_;by_cases c:aP.dot n x>d
   . have c1:=Aj c;simp only[↓zP,zG,seval,f2,c1];refine Rx ?_;rw[qG c];rfl
   have c1:=Ag c
   have Xd:∀v∈l.take (i+1),aP.dot n v<=d:=fun v hv=>by
    rcases hx v hv with h|rfl
    . exact hle v h
    omega
   cases b with
   |true=>simp only[↓zP,zJ,seval,f2,c1,hv,Bool.true_or];exact⟨trivial,trivial,Xd⟩
   |false=>simp only[↓zP,zJ,seval,f2,c1,hv,Km];exact⟨trivial,trivial,Xd⟩
 rintro f H1 hk ⟨rfl,hv,hle⟩;simp only[zM] at hv;rw[Ax] at hv hle
 have :CZ l (n,d)=l.any fun v=>decide (aP.dot n v<d):=by
  unfold CZ
  have h1:l.all (fun v=>decide (aP.dot n v<=d))=true:=by rw[Aw];exact fun v hv=>Aj (hle v hv)
  rw[h1,Co,List.not_all_eq_any_not];refine DG fun v hv=>?_;have :=hle v hv;rw[Ci,Cn,Bq,Bd];show aP.dot n v≠d↔_;omega
 rw[this];simp only[↓zP,seval,hv];exact ZaQ
theorem Vj (tag:Nat) {l:List aP.V} {M B:Nat} (hl:∀v∈l,cG M v) (hlen:l.length<2^30) {n:aP.V} {d:Int} (hq:cG B n) (hs:3*(B*M)<2^62) (H:aA):
 Sg 261 [.bD tag 3 (cH l),.agg (cU n),.int .i64 d] H (.ret (.bool (CZ l (n,d)))) H:=(mg hl hlen hq hs H).DB tag
def yT (L:aP.V×Int->List Nat) (S:List (aP.V×Int)):AV:=lG 5 (S.map (dW L))
theorem jM (L:aP.V×Int->List Nat) (S:List (aP.V×Int)):(S=[]/\yT L S=.aO)\/(S≠[]/\yT L S=.bD 0 5 (S.map (dW L))):=by
 unfold yT lG;by_cases h:S=[]
 . exact .inl ⟨h,by rw[if_pos (by simp[h])]⟩
 exact .inr ⟨h,by rw[if_neg Zbi]⟩
theorem JZ (L:aP.V×Int->List Nat) (S:List (aP.V×Int)):(yT L S).free=true:=mr (eK (qC L) S)
theorem ml (L:aP.V×Int->List Nat) (S:List (aP.V×Int)) (hlen:S.length<2^30) (n:aP.V) (H:aA):
 Sg 260 [yT L S,.agg (cU n)] H (.ret (.bool (S.any fun q=>decide (q.1=n)))) H:=by
 refine So bAj (by simp only[sf,JZ,cT]) ?_ H;unfold aPf;dsimp only;refine Ty ?_;refine bP [] (fun i vs H'=>H'=((⟨0,.nil⟩:aA).alloc (.cells (cU n) false))/\∀q∈S.take i,q.1≠n) 0 S.length (Az _) (by omega) (by decide) ?_ ?_ ?_ ?_ ?_
 . exact zq
 . exact⟨rfl,fun v hv=>by simp at hv⟩
 . rintro i f H1 h0 hi hk e1 ⟨rfl,cQ⟩;have f0:f 0=yT L S:=hk 0 rfl
   rcases jM L S with ⟨h,e⟩|⟨h,e⟩
   . rw[e] at f0;subst h;simp only[↓zP,zG,seval,e1,f0];exact⟨trivial,trivial,Bn AV.bool (Bs.2 (by simp at hi;simp[hi]))⟩
   rw[e] at f0;simp only[↓zP,zG,seval,e1,f0,Af];exact Zae
 . rintro i f H1 h0 hi hk e1 ⟨rfl,cQ⟩
   have f0:f 0=.bD 0 5 (S.map (dW L)):=by
    rw[hk 0 rfl];simp only[zB,seval,fN,Dy]
    rcases jM L S with ⟨h,e⟩|⟨h,e⟩
    . rw[h] at hi;exact absurd hi (Ap _)
    exact e
   have f3:f 3=.ref 0 0:=hk 3 rfl;have hg:(S.map (dW L)).getD i []=dW L S[i]:=gK hi;have d3:(dW L S[i]).take 3=cU S[i].1:=rfl;have d5:(dW L S[i]).length=5:=rfl;refine aJ ?_;refine bQ ?_;refine Dz ?_;simp only[↓zP,zJ,seval,zD,f0,f3,e1,aB,Af,hi,hg,d3,d5,oL (aV n),nG];refine bR ?_;by_cases c:S[i].1=n
   . have c1:=Aj c;simp only[↓zP,zG,seval,c1];refine Rx ?_;have :S.any (fun q=>decide (q.1=n))=true:=Bz.2 ⟨S[i],Ac hi,c1⟩;rw[this];rfl
   have c1:=Ag c;simp only[↓zP,zG,seval,c1];refine⟨trivial,fun q hq=>?_⟩;rw[An,Ao] at hq
   rcases hq with h|h
   . exact cQ q h
   simp[hi] at h;subst h;exact c
 rintro f H1 hk ⟨rfl,cQ⟩;rw[Ax] at cQ
 have :S.any (fun q=>decide (q.1=n))=false:=by rw[Da];exact fun q hq=>by simpa using cQ q hq
 rw[this];refine Tx ?_;exact ZaQ
def uG (q:aP.V×Int):List (aP.V×Int)->List (aP.V×Int)
 |[]=>[q]
 |s::r=>if uD q.1 s.1 then q::s::r else s::uG q r
theorem Ss {q:aP.V×Int}:∀{S:List (aP.V×Int)} {i:Nat},(∀s∈S.take i,uD q.1 s.1=false)->uG q S=S.take i++uG q (S.drop i)
 |[],i,_=>by simp
 |s::r,0,_=>by simp
 |s::r,i+1,h=>by have h1:=h s (by simp);have ih:=Ss (q:=q) (S:=r) (i:=i) fun x hx=>h x (by simp[hx]);simp only[uG,h1,Dp,Iu,Er];rw[<-ih];rfl
theorem Ny (q:aP.V×Int):∀S:List (aP.V×Int),(uG q S).length=S.length+1
 |[]=>rfl
 |s::r=>by
  unfold uG;split
  . rfl
  rw[As,Ny q r];rfl
theorem ud (L:aP.V×Int->List Nat) (q:aP.V×Int):(dW L q).length=5:=rfl
theorem YY (L:aP.V×Int->List Nat) (S:List (aP.V×Int)) (hlen:S.length<2^20) (q:aP.V×Int) (H:aA):
 Sg 262 [yT L S,.agg (dW L q)] H (.ret (.bD (H.next+2) 5 ((uG q S).map (dW L)))) (H.alloc .tok):=by
 have cQ:uG q S≠[]:=fun h=>by have :=Ny q S;rw[h] at this;simp at this
 refine mG eZ (by simp only[sf,JZ,qC]) (by simpa using cQ) (eK (qC L) _) ?_ H;refine cZ fit bAl (Ai rfl) ?_;unfold aPh;dsimp only;have q3:(dW L q).take 3=cU q.1:=rfl;have q5:=ud L q;refine Ty ?_;refine bP [5,6] (fun i vs H'=>∃v X put,vs=[v,.bool put]/\H'.get 0=some (.cells (dW L q) false)/\1<=H'.next/\Own H' 5 v (X.map (dW L))/\X.length<=i+1/\(if put then X++S.drop i=uG q S else X=S.take i/\∀s∈S.take i,uD q.1 s.1=false)) 0 S.length (Az _) (by omega) (by decide) ?_ ?_ ?_ ?_ ?_
 . exact zq
 . exact⟨.aO,[],false,by simp only[sm,zB,seval],by simp only[zI,seval],by simp only[zI,seval],.nil _ _,by simp,by simp⟩
 . rintro i f H1 h0 hi hk e1 ⟨v,X,put,hv,g0,gn,ho,hX,hp⟩;have f0:f 0=yT L S:=hk 0 rfl
   rcases jM L S with ⟨h,e⟩|⟨h,e⟩
   . rw[e] at f0;subst h;simp only[↓zP,zG,seval,e1,f0];exact⟨trivial,trivial,Bn AV.bool (Bs.2 (by simp at hi;simp[hi]))⟩
   rw[e] at f0;simp only[↓zP,zG,seval,e1,f0,Af];exact Zae
 . rintro i f H1 h0 hi hk e1 ⟨v,X,put,hv,g0,gn,ho,hX,hp⟩;simp only[zM] at hv
   have f0:f 0=.bD 0 5 (S.map (dW L)):=by
    rw[hk 0 rfl];simp only[zB,seval,fN,Dy]
    rcases jM L S with ⟨h,e⟩|⟨h,e⟩
    . rw[h] at hi;exact absurd hi (Ap _)
    exact e
   have f3:f 3=.ref 0 0:=hk 3 rfl;have hg:(S.map (dW L)).getD i []=dW L S[i]:=gK hi;have d3:(dW L S[i]).take 3=cU S[i].1:=rfl;have d5:(dW L S[i]).length=5:=rfl;have hls:=Rc q.1 S[i].1;have hdr:S.drop i=S[i]::S.drop (i+1):=Dk hi;have pT:S.take (i+1)=S.take i++[S[i]]:=(by rw[An];simp[hi]);rw[hdr] at hp;rw[pT]
   have hnp:(∀s∈S.take i,uD q.1 s.1=false)->uG q S=S.take i++uG q (S[i]::S.drop (i+1)):=fun h=>by
    have :=Ss h
    rwa [hdr] at this
   generalize S[i]=s at *;generalize hT:S.take i=T at *;generalize S.drop (i+1)=D at *
   have push:∀(HA:aA) (w:AV) (Y:List (aP.V×Int)) (x:aP.V×Int),Own HA 5 w (Y.map (dW L))->Y.length<2^21->HA.get 0=some (.cells (dW L q) false)->1<=HA.next->
    ∃H5,dR HA 5 56 false w [dW L x]=some (.bD (HA.next+2) 5 ((Y++[x]).map (dW L)),H5)/\H5.get 0=some (.cells (dW L q) false)/\1<=H5.next/\Own H5 5 (.bD (HA.next+2) 5 ((Y++[x]).map (dW L))) ((Y++[x]).map (dW L)):=fun HA w Y x ho hY h0 h1=>by
    obtain⟨H5,z1,z2,z3,z4,z5⟩:=Has.push (.inr ho) (ys:=[dW L x]) (bytes:=56) rfl (by simp only[Af,As,Bm];omega);refine⟨H5,by rw[z1,Ct];rfl,(z4 0 (by omega) (by rw[h0];simp)).trans h0,by omega,.inr ⟨HA.next,rfl,by omega,z3⟩⟩
   refine aJ ?_;refine bQ ?_;refine Dz ?_;simp only[↓zP,zJ,seval,zD,f0,f3,e1,g0,aB,Af,hi,hg,d3,d5,q3,q5];refine fP (hls _) ?_;simp only[↓zP,zJ,seval,zD];refine bR ?_;refine aN fun K hK=>?_
   have key:∀(f':dE) (HA:aA) (w:AV) (Y:List (aP.V×Int)) (Lz:Bool),f' 5=w->f' 6=.bool Lz->f' 0=.bD 0 5 (S.map (dW L))->f' 7=.int .i64 i->HA.get 0=some (.cells (dW L q) false)->1<=HA.next->Own HA 5 w (Y.map (dW L))->Y.length<=i+1->
    (if Lz then Y++s::D=uG q S else Y=T/\∀s'∈T++[s],uD q.1 s'.1=false)->K f' [] HA:=by
    intro f' HA w Y Lz v5 v6 v0 v7 h0 h1 hY hYl eW;apply hK;clear hK K;obtain⟨H5,z1,z2,z3,z4⟩:=push HA w Y s hY (by omega) h0 h1;simp only[↓zP,zJ,seval,v5,v0,v7,aB,Af,hi,hg,d5,oL d5];rw[eL];simp only[z1,cE,seval,v6];refine⟨_,Y++[s],Lz,rfl,z2,z3,z4,by simp;omega,?_⟩
    cases Lz with
    |true=>simp only[if_true] at eW ⊢;rw[<-eW];simp
    |false=>simp only[Bb,Bp] at eW ⊢;rw[eW.1];exact⟨rfl,eW.2⟩
   clear hK
   cases put with
   |true=>simp only[if_true] at hp;simp only[↓zP,zJ,seval,hv];exact key _ H1 v X true (by simp only[zB,seval];exact hv.1) (by simp only[zB,seval];exact hv.2) Zbv (by simp only[zB,seval];exact e1) g0 gn ho hX (by simpa using hp)
   |false=>
    simp only[Bb,Bp] at hp;obtain⟨rfl,bU⟩:=hp
    cases hb:uD q.1 s.1 with
    |false=>
     simp only[↓zP,zJ,seval,hv];refine key _ H1 v X false (by simp only[zB,seval];exact hv.1) (by simp only[zB,seval];exact hv.2) Zbv (by simp only[zB,seval];exact e1) g0 gn ho hX ?_;simp only[Bb,Bp];refine⟨trivial,fun s' BX=>?_⟩
     rcases Ao.1 BX with h|h
     . exact bU s' h
     rw[Cc] at h;subst h;exact hb
    |true=>obtain⟨H5,z1,z2,z3,z4⟩:=push H1 v X q ho (by omega) g0 gn;simp only[↓zP,zJ,seval,hv,f3,g0,q5,oL q5];rw[eL];simp only[z1,cE,seval];have hXl:X.length=i:=(by rw[<-hT];simp;omega);refine key _ H5 _ (X++[q]) true zq zq Zbv (by simp only[zB,seval];exact e1) z2 z3 z4 (by simp[hXl]) ?_;simp only[if_true];rw[hnp bU,uG,if_pos hb];simp
 rintro f H1 hk ⟨v,X,put,hv,g0,gn,ho,hX,hp⟩;simp only[zM] at hv;have f3:f 3=.ref 0 0:=hk 3 rfl
 cases put with
 |true=>simp only[if_true] at hp;rw[Hi,Ch] at hp;simp only[↓zP,zJ,seval,hv];refine Rx ?_;exact⟨v,rfl,hp▸ho⟩
 |false=>simp only[Bb,Bp] at hp;obtain⟨rfl,bU⟩:=hp;obtain⟨H5,z1,z2,z3,z4,z5⟩:=Has.push (.inr ho) (ys:=[dW L q]) (bytes:=56) rfl (by simp only[Af,As,Bm];omega);simp only[↓zP,zJ,seval,hv,f3,g0,q5,oL q5];rw[eL];simp only[z1,cE,seval];refine Rx ?_;refine⟨_,rfl,?_⟩;rw[Ss bU,Hi];rw[show S.take S.length++uG q []=S.take S.length++[q] from rfl,Ct];exact .inr ⟨H1.next,rfl,by omega,z3⟩
theorem mJ (b:Bool) (A B:Prop):jP aD b A B=B:=rfl
theorem Vq (x:Int) (H:aA):Sg 373 [.int .i64 x] H (.ret (.int .i64 (uS x))) H:=by
 refine So bCm Zag ?_ H;unfold aRe;dsimp only;unfold uS;by_cases h:x<0
 . have d1:=Aj h;simp only[↓zP,zJ,Nat.reduceLT,Nat.reduceEqDiff,d1];refine Rx ?_;rw[if_pos h];rfl
 have d1:=Ag h;by_cases h2:x>0
 . have d2:=Aj h2;simp only[↓zP,zJ,Nat.reduceLT,Nat.reduceEqDiff,d1,d2];refine Rx ?_;rw[if_neg h,if_pos h2];rfl
 have d2:=Ag h2;simp only[↓zP,zJ,Nat.reduceLT,Nat.reduceEqDiff,d1,d2];refine Rx ?_;rw[if_neg h,if_neg h2];rfl
theorem aAy (n c:aP.V) (H:aA):Sg 338 [.agg (cU n),.agg (cU c)] H (.ret (.int .i64 (aP.rX n c))) H:=by
 refine So bCd Zal ?_ H;unfold aQw;dsimp only;simp only[↓zP,zJ,Nat.reduceLT,Nat.reduceEqDiff];refine bP [] (fun i vs H'=>H'=((⟨0,.nil⟩:aA).alloc (.cells (cU n) false)).alloc (.cells (cU c) false)/\∀k,k<i->n.at k=0) 0 3 (by decide) (by decide) (by decide) ?_ ?_ ?_ ?_ ?_
 . simp only[zB];rfl
 . exact⟨rfl,fun k hk=>absurd hk (Ap _)⟩
 . rintro i f H1 h0 hi hk e1 ⟨rfl,hz⟩;simp only[↓zP,zJ,Nat.reduceLT,e1];exact Zae
 . rintro i f H1 h0 hi hk e1 ⟨rfl,hz⟩;have f2:f 2=.ref 0 0:=hk 2 rfl;have f3:f 3=.ref 1 0:=hk 3 rfl;have MM:i+1<=3:=by omega
   refine aJ ?_;by_cases hn:n.at i=0
   . have hb:(n.at i != 0)=false:=(by simp[hn]);simp only[↓zP,zJ,Nat.reduceLT,Nat.reduceEqDiff,e1,f2,aB,hi,aV,kQ n hi,MM,hb];refine⟨trivial,fun k hk=>?_⟩;by_cases wx:k=i
     . subst wx;exact hn
     exact hz k (by omega)
   have hb:(n.at i != 0)=true:=by simp[hn]
   have w:IntKind.i64.wrap (uS (n.at i)*uS (c.at i))=uS (n.at i)*uS (c.at i):=fV (B:=1*1) (by rw[Ga];exact Bt (Me _) (Me _)) (by decide)
   simp only[↓zP,zJ,Nat.reduceLT,Nat.reduceEqDiff,e1,f2,aB,hi,aV,kQ n hi,MM,hb];refine Dz ?_;simp only[↓zP,zJ,Nat.reduceLT,Nat.reduceEqDiff,Nat.reduceAdd,zD,reduceCtorEq,e1,f2,aB,hi,aV,kQ n hi,MM];refine fP (Vq (n.at i) _) ?_;simp only[↓zP,zJ,Nat.reduceLT,Nat.reduceEqDiff,Nat.reduceAdd,zD,reduceCtorEq,e1,f3,aB,hi,aV,kQ c hi,MM];refine fP (Vq (c.at i) _) ?_;simp only[↓zP,zJ,Nat.reduceLT,Nat.reduceEqDiff,Nat.reduceAdd,zD,reduceCtorEq,w];refine Rx ?_;rw[cz n c hi hz hn,Int.mul_comm];rfl
 rintro f H1 hk ⟨rfl,hz⟩;simp only[↓zP];refine Rx ?_;rw[Rk n c hz];rfl
def okV (n a b x:aP.V):Bool:= !(decide (aP.rX n (aP.bC (aP.sub b a) (aP.sub x a))<0)||(decide (aP.rX n (aP.bC (aP.sub b a) (aP.sub x a))=0)&&(decide (aP.dot (aP.sub x a) (aP.sub b a)<0)||decide (aP.dot (aP.sub x a) (aP.sub b a)>aP.dot (aP.sub b a) (aP.sub b a)))))
def DX (l:List aP.V) (n:aP.V) (d:Int) (a b:aP.V):Bool:=l.all fun x=> !decide (aP.dot n x=d)||okV n a b x
theorem aUe {l:List aP.V} {M B:Nat} (hl:∀v∈l,cG M v) (hM:M<=2^18) (hlen:l.length<2^30) {n a b:aP.V} {d:Int} (hq:cG B n) (hs:3*(B*M)<2^62) (ha:cG M a) (hb:cG M b) (H:aA):
 Sg 304 [.bD 0 3 (cH l),.agg (cU n),.int .i64 d,.agg (cU a),.agg (cU b)] H (.ret (.bool (DX l n d a b))) H:=by
 have Qz:Nat.blt 0 2=true:=rfl;have hw:=gM hb ha;have hMM:(M+M)*(M+M)<=2^19*2^19:=Bt (by omega) (by omega);have sw:=wY hb ha (by omega);have dww:=qJ hw hw (by omega);refine So bBl (by simp only[sf,dL Qz,cT]) ?_ H;unfold aQg;dsimp only;refine bQ ?_;simp only[↓zP,zJ,Nat.reduceLT,Nat.reduceEqDiff,Nat.reduceAdd];refine fF ?_;simp only[↓zP,zJ,Nat.reduceLT,Nat.reduceEqDiff,Nat.reduceAdd,oL (aV b),oL (aV a)];refine bY (sw _) ?_;simp only[↓zP,zJ,Nat.reduceLT,Nat.reduceEqDiff,Nat.reduceAdd,oL (aV (aP.sub b a))];refine bR ?_;have hMW:(M+M)*M<=2^19*2^18:=Bt (by omega) hM;generalize hwv:aP.sub b a=w at *;refine aN fun K hK=>?_;simp only[↓zP,zG,Nat.reduceLT];refine bP [] (fun i vs H'=>H'.get 0=some (.cells (cU n) false)/\H'.get 1=some (.cells (cU a) false)/\H'.get 3=some (.cells (cU w) false)/\4<=H'.next/\cJ H'/\∀x∈l.take i,aP.dot n x=d->okV n a b x=true) 0 l.length (Az _) (by omega) (by decide) ?_ ?_ ?_ ?_ ?_
 . simp only[zB];rfl
 . refine⟨by simp only[zI,Nat.reduceAdd,Nat.reduceEqDiff],by simp only[zI,Nat.reduceAdd,Nat.reduceEqDiff],by simp only[zI,Nat.reduceAdd,Nat.reduceEqDiff],by simp only[zI,Nat.reduceAdd,Nat.reduceLeDiff],?_,fun v hv=>by simp at hv⟩;exact((((((cJ.nil 0).alloc _).alloc _).alloc _).alloc _).set (by simp) _)
 . rintro i f H1 h0 hi hk e1 ⟨g0,g1,g3,gn,hf,bU⟩;have f0:f 0=.bD 0 3 (cH l):=hk 0 rfl;simp only[↓zP,zJ,Nat.reduceLT,Nat.reduceEqDiff,e1,f0,aU];exact Zae
 . rintro i f H1 h0 hi hk e1 ⟨g0,g1,g3,gn,hf,bU⟩;have f0:f 0=.bD 0 3 (cH l):=hk 0 rfl;have f2:f 2=.int .i64 d:=hk 2 rfl;have f6:f 6=.ref 0 0:=hk 6 rfl;have f8:f 8=.ref 1 0:=hk 8 rfl;have f11:f 11=.ref 3 0:=hk 11 rfl;have hg:=dD hi;have hm:=Ac hi;have hx:=hl _ hm
   have pT:∀v,v∈l.take (i+1)->v∈l.take i\/v=l[i]:=fun v hv=>by
    exact Zas
   have aSh:aP.dot n l[i]=d->okV n a b l[i]=false->DX l n d a b=false:=fun h1 h2=>by unfold DX;rw[El];exact⟨l[i],hm,by simp[h1,h2]⟩
   generalize l[i]=x at *;have hd:=qJ hq hx hs
   have aJd:(aP.dot n x=d->okV n a b x=true)->∀v∈l.take (i+1),aP.dot n v=d->okV n a b v=true:=fun h v hv=>by
    rcases pT v hv with h1|rfl
    . exact bU v h1
    exact h
   refine aJ ?_;refine aN fun K2 bW=>?_;refine bQ ?_;refine Dz ?_;simp only[↓zP,zJ,Nat.reduceLT,Nat.reduceEqDiff,Nat.reduceAdd,zD,reduceCtorEq,f0,f6,e1,g0,aB,aU,hi,hg,oL (aV n),oL (aV x)];refine fP (hd _) ?_;simp only[↓zP,zJ,Nat.reduceLT,Nat.reduceEqDiff,Nat.reduceAdd,zD,reduceCtorEq,f2];refine bR ?_;by_cases hc:aP.dot n x=d
   . have eQ:(aP.dot n x != d)=false:=(by simp[hc]);have ht:=gM hx ha;have st:=wY hx ha (by omega);have cr:=Ld hw ht (by omega);have lf:=aAy n (aP.bC w (aP.sub x a));have dtw:=qJ ht hw (by omega)
     have aFj:okV n a b x= !(decide (aP.rX n (aP.bC w (aP.sub x a))<0)||(decide (aP.rX n (aP.bC w (aP.sub x a))=0)&&(decide (aP.dot (aP.sub x a) w<0)||decide (aP.dot (aP.sub x a) w>aP.dot w w)))):=by unfold okV;rw[hwv]
     simp only[↓zP,zG,eQ];apply bW;clear bW K2;refine bQ ?_;refine jV 1 (by decide) hf.at1 fun H2 n2 e2=>?_;have q1:=(e2 1).trans g1;simp only[↓zP,zJ,Nat.reduceLT,Nat.reduceEqDiff,Nat.reduceAdd,zD,reduceCtorEq,f0,f8,e1,q1,aB,aU,hi,hg,oL (aV x),oL (aV a)];refine fP (st _) ?_;generalize hto:aP.sub x a=t at *;simp only[↓zP,zJ,Nat.reduceLT,Nat.reduceEqDiff,Nat.reduceAdd,zD,oL (aV t)];generalize hX:(H2.set H1.next _).set H1.next _=H3;have y0:H3.get 0=some (.cells (cU n) false):=(by subst hX;rw[aA.aC,if_neg (by omega),aA.aC,if_neg (by omega),e2];exact g0);have y1:H3.get 1=some (.cells (cU a) false):=(by subst hX;rw[aA.aC,if_neg (by omega),aA.aC,if_neg (by omega),e2];exact g1);have y3:H3.get 3=some (.cells (cU w) false):=(by subst hX;rw[aA.aC,if_neg (by omega),aA.aC,if_neg (by omega),e2];exact g3);have yr:H3.get H1.next=some (.cells (cU t) false):=Zai;have yn:4<=H3.next:=by subst hX;simp only[aA.aW];omega
     have yf:cJ H3:=fun j hj=>by subst hX;simp only[aA.aW] at hj;rw[aA.aC,if_neg (by omega),aA.aC,if_neg (by omega),e2];exact hf j (by omega)
     clear hX;refine fF ?_;refine Dz ?_;simp only[↓zP,zJ,Nat.reduceLT,Nat.reduceEqDiff,Nat.reduceAdd,zD,reduceCtorEq,f6,f11,y0,y3,yr,oL (aV n),oL (aV w),oL (aV t)];refine fP (cr _) ?_;generalize aP.bC w t=cw at *;simp only[Nat.reduceAdd];refine fP (lf _) ?_;generalize aP.rX n cw=tn at *;simp only[↓zP,zJ,Nat.reduceLT,Nat.reduceEqDiff,Nat.reduceAdd,zD,reduceCtorEq];refine bR ?_;refine aN fun K2 bW=>?_;refine Dz ?_
     have fin:∀(f':dE) (r:Bool),f' 63=.bool (!r)->okV n a b x=r->K2 f' [] H3:=by
      intro f' r v63 hr;apply bW;clear bW K2
      cases r with
      |true=>simp only[↓zP,zJ,v63];exact⟨y0,y1,y3,yn,yf,aJd fun _=>hr⟩
      |false=>simp only[↓zP,zJ,Nat.reduceLT,v63];refine Rx ?_;rw[aSh hc hr];rfl
     clear bW;by_cases c1:tn<0
     . have d1:=Aj c1;simp only[↓zP,zJ,Nat.reduceLT,Nat.reduceEqDiff,Nat.reduceAdd,zD,reduceCtorEq,d1,mJ];exact fin _ false (by simp only[zB];rfl) (by rw[aFj,d1];rfl)
     have d1:=Ag c1;by_cases c2:tn=0
     . have d2:(tn==0)=true:=(by simp[c2]);have d2':decide (tn=0)=true:=Aj c2;simp only[↓zP,zJ,Nat.reduceLT,Nat.reduceEqDiff,Nat.reduceAdd,zD,reduceCtorEq,d1,d2,f11,y3,yr,oL (aV w),oL (aV t)];refine fP (dtw _) ?_;by_cases c3:aP.dot t w<0
       . have d3:=Aj c3;simp only[↓zP,zJ,Nat.reduceLT,Nat.reduceEqDiff,Nat.reduceAdd,zD,reduceCtorEq,d3];exact fin _ false (by simp only[zB];rfl) (by rw[aFj,d1,d2',d3];rfl)
       have d3:=Ag c3;simp only[↓zP,zJ,Nat.reduceLT,Nat.reduceEqDiff,Nat.reduceAdd,zD,reduceCtorEq,d3,f11,y3,yr,oL (aV w),oL (aV t)];refine fP (dtw _) ?_;simp only[↓zP,zJ,Nat.reduceLT,Nat.reduceEqDiff,Nat.reduceAdd,zD,f11,y3,oL (aV w)];refine fP (dww _) ?_;simp only[↓zP,zJ,Nat.reduceLT,Nat.reduceEqDiff,Nat.reduceAdd,zD,reduceCtorEq];exact fin _ (!decide (aP.dot t w>aP.dot w w)) (by simp only[zB,Bool.not_not]) (by rw[aFj,d1,d2',d3];rfl)
     have d2:(tn==0)=false:=(by simp[c2]);have d2':decide (tn=0)=false:=Ag c2;simp only[↓zP,zJ,Nat.reduceLT,Nat.reduceEqDiff,Nat.reduceAdd,zD,reduceCtorEq,d1,d2,mJ];exact fin _ true (by simp only[zB];rfl) (by rw[aFj,d1,d2'];rfl)
   have eQ:(aP.dot n x != d)=true:=(by simp[hc]);simp only[↓zP,zG,eQ];exact⟨g0,g1,g3,gn,hf,aJd fun h=>absurd h hc⟩
 rintro f H1 hk ⟨g0,g1,g3,gn,hf,bU⟩;rw[Ax] at bU
 have :DX l n d a b=true:=by
  unfold DX;rw[Aw];intro x hx;by_cases h:aP.dot n x=d
  . simp[bU x hx h]
  simp[h]
 show K f [] H1;apply hK;simp only[↓zP,zG,Nat.reduceLT];refine Rx ?_;rw[this];rfl
theorem aBj (tag:Nat) {l:List aP.V} {M B:Nat} (hl:∀v∈l,cG M v) (hM:M<=2^18) (hlen:l.length<2^30) {n a b:aP.V} {d:Int} (hq:cG B n) (hs:3*(B*M)<2^62) (ha:cG M a) (hb:cG M b) (H:aA):
 Sg 304 [.bD tag 3 (cH l),.agg (cU n),.int .i64 d,.agg (cU a),.agg (cU b)] H (.ret (.bool (DX l n d a b))) H:=(aUe hl hM hlen hq hs ha hb H).DB tag
theorem fk {α:Type} (f:α->Bool) (z:α):∀l:List α,l.all f=(List.range l.length).all fun k=>f (l.getD k z):=fun l=>by
 rw[Ci,Aw,Aw];constructor
 . intro h k hk;have hk:=Ay.1 hk;have :l.getD k z=l[k]:=by simp[List.getD,hk]
   rw[this];exact h _ (Ac hk)
 intro h x hx;obtain⟨k,hk,rfl⟩:=Ej hx;have :=h k (Ay.2 hk)
 rwa [show l.getD k z=l[k] by simp[List.getD,hk]] at this
theorem aHy {l:List aP.V} {n:aP.V} {d:Int} (a b:Nat):DX l n d (l.getD a V0) (l.getD b V0)=Ll n (fun i=>l.getD i V0) (kI (fun i=>l.getD i V0) l.length n d) a b:=by unfold DX Ll kI;rw[List.all_filter,fk _ V0];rfl
theorem XR {on:List Nat} (hs:on.Pairwise (· < ·)) {p:Nat->Bool} {b:Nat} (h:on.find? p=some b):b∈on/\p b=true/\∀k∈on,k<b->p k=false:=by
 obtain⟨h1,xs,bs,rfl,h2⟩:=List.find?_eq_some_iff_append.1 h;refine⟨by simp,h1,fun k hk hkb=>?_⟩
 rcases Ao.1 hk with hk|hk
 . simpa using h2 k hk
 rcases Am.1 hk with rfl|hk
 . omega
 rw[List.pairwise_append] at hs;have :=(Cl.1 hs.2.1).1 k hk;omega
theorem mw {l:List aP.V} {M B:Nat} (hl:∀v∈l,cG M v) (hM:M<=2^18) (hlen:l.length<=64) {n:aP.V} {d:Int} (hq:cG B n) (hs:3*(B*M)<2^62)
 {L:List Nat} (hP:Poly (fun i=>l.getD i V0) l.length n d L) (H:aA):
 Sg 263 [.bD 0 3 (cH l),.agg (cU n),.int .i64 d] H (.ret (.bD 0 1 (yP L))) H:=by
 have Qz:Nat.blt 0 2=true:=rfl;refine eC fit eZ bAm (Ai rfl) (by simp only[sf,dL Qz,cT]) ?_ H;have hPn:=fun k (hk:k∈L)=>hP.RL hk;obtain⟨s0,r,m,j4,W,hL⟩:=hP.ex
 have FE:∀i,i<m->iter (uH n (fun i=>l.getD i V0) (kI (fun i=>l.getD i V0) l.length n d)) i s0∈L:=fun i hi=>by rw[hL];exact Bf.2 ⟨i,Ay.2 hi,rfl⟩
 have Sf:=OY (fun i=>l.getD i V0) l.length n d
 have bJo:m<=l.length:=by have h1:=W.le;have h2:=Dh (fun k=>decide (aP.dot n (l.getD k V0)=d)) (List.range l.length);rw[Bw] at h2;exact Cd h1 h2
 unfold aPi;dsimp only;have cY:∀k (h:k<l.length),l.getD k V0=l[k]:=fun k h=>by simp[List.getD,h]
 have hs0:s0<l.length/\aP.dot n (l.getD s0 V0)=d:=dX.1 (show s0∈kI (fun i=>l.getD i V0) l.length n d by rw[j4];simp)
 have aFe:∀k,k<s0->k<l.length->aP.dot n (l.getD k V0)≠d:=fun k h1 h2 h3=>by
  have :k∈kI (fun i=>l.getD i V0) l.length n d:=dX.2 ⟨h2,h3⟩;rw[j4] at this Sf
  rcases Am.1 this with h|h
  . omega
  have :=(Cl.1 Sf).1 k h;omega
 refine bQ ?_;refine Ty ?_;refine fF ?_;refine Tz ?_;refine fF ?_;refine Tz ?_;refine bR ?_;refine aN fun K hK=>?_;refine Tz ?_;refine bP [8] (fun i vs H'=>H'=((⟨0,.nil⟩:aA).alloc (.cells (cU n) false))/\vs=[.int .i64 (if i<=s0 then -1 else(s0:Int))]) 0 (s0+1) (Az _) (by omega) (by decide) ?_ ?_ ?_ ?_ ?_
 . exact zq
 . exact⟨rfl,by simp only[sm,zB,seval];rw[if_pos (Az _)]⟩
 . rintro i f H1 h0 hi hk e1 ⟨rfl,hv⟩;simp only[zM] at hv;have f0:f 0=.bD 0 3 (cH l):=hk 0 rfl;have d1:decide ((i:Int)<(l.length:Int))=decide (i<l.length):=by rw[Bs];omega
   by_cases h1:i<=s0
   . rw[if_pos h1] at hv;have WJ:decide ((i:Int)<(l.length:Int))=true:=Aj (by omega);have d2:decide ((-1:Int)<0)=true:=rfl;simp only[↓zP,zG,seval,e1,f0,aU,WJ,hv];exact⟨trivial,trivial,Bn AV.bool (Aj (by omega)).symm⟩
   rw[if_neg h1] at hv;have d2:decide ((s0:Int)<0)=false:=Ag (by omega);by_cases hx:i<l.length
   . have WJ:decide ((i:Int)<(l.length:Int))=true:=Aj (by omega);simp only[↓zP,zG,seval,e1,f0,aU,WJ,hv,d2];exact Zbh
   have WJ:decide ((i:Int)<(l.length:Int))=false:=Ag (by omega);simp only[↓zP,zG,seval,e1,f0,aU,WJ];exact Zbh
 . rintro i f H1 h0 hi hk e1 ⟨rfl,hv⟩;simp only[zM] at hv;have f0:f 0=.bD 0 3 (cH l):=hk 0 rfl;have f2:f 2=.int .i64 d:=hk 2 rfl;have f4:f 4=.ref 0 0:=hk 4 rfl;have MN:i<l.length:=by omega
   have hg:=dD MN;have hd:=qJ hq (hl _ (Ac MN)) hs;have hbi:=aFe i;rw[cY i MN] at hbi;have hsi:i=s0->aP.dot n l[i]=d:=fun h=>by rw[<-cY i MN,h];exact hs0.2
   generalize l[i]=x at *;refine aJ ?_;refine bQ ?_;refine Dz ?_;simp only[↓zP,zJ,seval,zD,f0,f4,e1,aB,aU,MN,hg,oL (aV n),oL (aV x)];refine fP (hd _) ?_;simp only[↓zP,zJ,seval,zD,f2];refine bR ?_;by_cases hc:i=s0
   . have eQ:(aP.dot n x==d)=true:=(by simp[hsi hc]);simp only[↓zP,zJ,seval,eQ,e1];exact⟨trivial,by rw[if_neg (by omega),hc]⟩
   have eQ:(aP.dot n x==d)=false:=(by simp[hbi (by omega) MN]);simp only[↓zP,zJ,seval,eQ,hv];exact⟨trivial,by rw[if_pos (by omega),if_pos (by omega)]⟩
 rintro f H1 hk ⟨rfl,hv⟩;simp only[zM] at hv;rw[if_neg (by omega)] at hv;have f0:f 0=.bD 0 3 (cH l):=hk 0 rfl;have fd2:f 2=.int .i64 d:=hk 2 rfl;have f4:f 4=.ref 0 0:=hk 4 rfl;have f7:f 7=.aO:=hk 7 rfl;show K f [] _;apply hK;clear hK K;refine bQ ?_;simp only[↓zP,zG,seval,hv];refine bR ?_;refine aN fun K hK=>?_;generalize Ut:kI (fun i=>l.getD i V0) l.length n d=on at *;generalize wh:iter (uH n (fun i=>l.getD i V0) on)=it at *
 have fJ:∀k∈on,k<l.length:=fun k hk=>by rw[<-Ut] at hk;exact(dX.1 hk).1
 refine aJ ?_;refine iP [7,8] (fun M' vs H'=>∃i,i<m/\M'=m -i/\∃v,vs=[v,.int .i64 (it i s0:Nat)]/\H'.get 0=some (.cells (cU n) false)/\1<=H'.next/\Own H' 1 v (yP ((List.range i).map fun i=>it i s0))) m (by rfl) ?_ ?_
 . exact⟨0,W.pos,rfl,.aO,by simp only[sm,zB,seval,f7,hv];rw[<-wh];rfl,by simp only[zI,seval],by simp only[zI,seval],.nil _ _⟩
 rintro M' f2 H2 eP ⟨i,hi,rfl,v,sY,g0,gn,ho⟩;simp only[zM] at sY;obtain⟨v7,v8⟩:=sY;have k0:f2 0=.bD 0 3 (cH l):=by rw[eP 0 rfl];simp only[zB,seval];exact f0
 have k2:f2 2=.int .i64 d:=by rw[eP 2 rfl];simp only[zB,seval];exact fd2
 have k4:f2 4=.ref 0 0:=by rw[eP 4 rfl];simp only[zB,seval];exact f4
 have k10:f2 10=.int .i64 s0:=eP 10 rfl;have hle:i<=l.length:=by omega
 have d1:decide ((i:Int)<=(l.length:Int))=true:=Aj (by omega);have MN:((List.range i).map fun i=>it i s0).length=i:=by simp
 refine aN fun K2 bW=>?_
 have key:∀f':dE,f' 0=.bD 0 3 (cH l)->f' 2=.int .i64 d->f' 4=.ref 0 0->f' 10=.int .i64 s0->f' 7=v->f' 8=.int .i64 (it i s0:Nat)->K2 f' [] H2:=by
  intro f3 w0 w2 w4 w10 w7 w8;apply bW;clear bW K2;obtain⟨hoa,hSa⟩:=W.side i;have SZ:=hSa.1;rw[wh] at hoa SZ;have AJ:uH n (fun i=>l.getD i V0) on (it i s0)=it (i+1) s0:=by rw[<-wh];rfl
  have LP:=hPn _ (FE i hi);rw[AJ] at LP;unfold aP.RL at LP;obtain⟨_,hp1,hp2⟩:=XR Sf LP;have hal:=fJ _ hoa;have Uq:=fJ _ SZ;have vm:aP.dot n (l.getD (it (i+1) s0) V0)=d:=by rw[<-Ut] at SZ;exact(dX.1 SZ).2
  have bFu:∀k,k<l.length->aP.dot n (l.getD k V0)=d->k∈on:=fun k h1 h2=>by rw[<-Ut];exact dX.2 ⟨h1,h2⟩
  have Qs:i+1=m->it (i+1) s0=s0:=fun h=>by rw[h,<-wh];exact W.back
  have bFg:i+1<m->it (i+1) s0≠s0:=fun h=>by rw[<-wh];exact W.first (i+1) (by omega) h
  have hrs:(List.range (i+1)).map (fun i=>it i s0)=(List.range i).map (fun i=>it i s0)++[it i s0]:=by rw[Fg,Ct];rfl
  generalize ha:it i s0=a at *;generalize hb:it (i+1) s0=b at *;generalize hX:(List.range i).map (fun i=>it i s0)=X at *;obtain⟨H5,z1,z2,z3,z4,z5⟩:=Has.push (.inr ho) (ys:=[[AV.int .i64 (a:Nat)]]) (bytes:=8) rfl (by rw[eM,MN,As,Bm];omega);have y0:=(z4 0 (by omega) (by rw[g0];simp)).trans g0;have yo:Own H5 1 (.bD (H2.next+2) 1 (yP (X++[a]))) (yP (X++[a])):=.inr ⟨H2.next,rfl,by omega,z3⟩;have hna:=hl _ (Ac hal);refine aJ ?_;refine bQ ?_;simp only[↓zP,zJ,seval,w7,w8];rw[eL];simp only[z1,cE,seval];refine bR ?_;rw[show yP X++[[AV.int .i64 (a:Int)]]=yP (X++[a]) from by simp[yP]];refine bQ ?_;refine Tz ?_;refine bR ?_;refine aN fun K2 bW=>?_;refine Ty ?_;refine bP [11] (fun k vs H'=>H'=H5/\vs=[.int .i64 (if k<=b then -1 else(b:Int))]) 0 (b+1) (Az _) (by omega) (by decide) ?_ ?_ ?_ ?_ ?_
  . exact zq
  . exact⟨rfl,by simp only[sm,zB,seval];rw[if_pos (Az _)]⟩
  . rintro k f5 H6 h0 hkb Ur e5 ⟨rfl,WT⟩;simp only[zM] at WT;have u0:f5 0=.bD 0 3 (cH l):=by rw[Ur 0 rfl];simp only[zB,seval];exact w0
    by_cases h1:k<=b
    . rw[if_pos h1] at WT;have WJ:decide ((k:Int)<(l.length:Int))=true:=Aj (by omega);have d2:decide ((-1:Int)<0)=true:=rfl;simp only[↓zP,zG,seval,e5,u0,aU,WJ,WT];exact⟨trivial,trivial,Bn AV.bool (Aj (by omega)).symm⟩
    rw[if_neg h1] at WT;have d2:decide ((b:Int)<0)=false:=Ag (by omega);by_cases hx:k<l.length
    . have WJ:decide ((k:Int)<(l.length:Int))=true:=Aj (by omega);simp only[↓zP,zG,seval,e5,u0,aU,WJ,WT,d2];exact Zbh
    have WJ:decide ((k:Int)<(l.length:Int))=false:=Ag (by omega);simp only[↓zP,zG,seval,e5,u0,aU,WJ];exact Zbh
  . rintro k f5 H6 h0 hkb Ur e5 ⟨rfl,WT⟩;simp only[zM] at WT;have u0:f5 0=.bD 0 3 (cH l):=by rw[Ur 0 rfl];simp only[zB,seval];exact w0
    have u2:f5 2=.int .i64 d:=(by rw[Ur 2 rfl];simp only[zB,seval];exact w2);have u4:f5 4=.ref 0 0:=(by rw[Ur 4 rfl];simp only[zB,seval];exact w4);have u8:f5 8=.int .i64 (a:Nat):=(by rw[Ur 8 rfl];simp only[zB,seval];exact w8);have tQ:k<l.length:=(by omega);have Zk:=dD tQ;have hga:=dD hal;have hnk:=hl _ (Ac tQ);have hd:=qJ hq hnk hs;have hsd:=aBj 0 hl hM (by omega) hq hs (d:=d) hna hnk;rw[if_pos (show k<=b by omega)] at WT
    have hpk:(decide (k≠a)&&Ll n (fun i=>l.getD i V0) on a k)=decide (k=b)\/k∉on:=by
     by_cases ph:k∈on
     . left;by_cases jw:k=b
       . subst jw;rw[hp1];simp
       rw[hp2 k ph (by omega)];simp[jw]
     exact .inr ph
    have hVR:DX l n d l[a] l[k]=Ll n (fun i=>l.getD i V0) on a k:=by rw[<-cY a hal,<-cY k tQ,aHy,Ut]
    have hdk:aP.dot n l[k]=d->k∈on:=fun h=>bFu k tQ (by rw[cY k tQ];exact h);have bFa:k∈on->aP.dot n l[k]=d:=fun h=>by rw[<-Ut] at h;have :=(dX.1 h).2;rwa [cY k tQ] at this
    generalize l[k]=x at *;generalize l[a]=y at *;refine aJ ?_;refine aN fun K3 Ls=>?_;refine Dz ?_
    have no:∀f6:dE,f6 65=.bool false->f6 11=.int .i64 (-1)->k≠b->K3 f6 [] H6:=by intro f6 v65 v11 aFf;apply Ls;simp only[↓zP,zJ,seval,v65];exact⟨trivial,by rw[v11,if_pos (show k+1<=b by omega)]⟩
    by_cases LS:k=a
    . have eQ:(((k:Nat):Int) != ((a:Nat):Int))=false:=by rw[LS];simp
      have aFf:k≠b:=fun h=>by rw[<-h,LS] at hp1;simp at hp1
      simp only[↓zP,zJ,seval,zD,e5,u8,eQ];exact no _ zq (by simp only[zB,seval];exact WT) aFf
    have eQ:(((k:Nat):Int) != ((a:Nat):Int))=true:=(by rw[Dd];omega);simp only[↓zP,zJ,seval,zD,e5,u0,u4,u8,y0,eQ,aB,aU,tQ,Zk,oL (aV n),oL (aV x)];refine fP (hd _) ?_;simp only[↓zP,zJ,seval,zD,u2];by_cases Zf:aP.dot n x=d
    . have gJ:(aP.dot n x==d)=true:=(by simp[Zf]);have ph:=hdk Zf
      have bGe:DX l n d y x=decide (k=b):=by
       rcases hpk with h|h
       . rw[hVR];simpa [LS] using h
       exact absurd ph h
      rw[gJ];apply Ls;clear Ls K3 no;refine Ru true zq (fun _=>?_) (fun h=>by cases h);refine bQ ?_;refine Dz ?_;simp only[↓zP,zJ,seval,zD,e5,u0,u2,u4,u8,y0,aB,aU,tQ,hal,Zk,hga,oL (aV n),oL (aV x),oL (aV y)];refine fP (hsd _) ?_;rw[bGe];simp only[↓zP,zJ,seval,zD];refine bR ?_;by_cases jw:k=b
      . have d3:=Aj jw;simp only[↓zP,zJ,seval,d3,e5];exact⟨trivial,by rw[if_neg (by omega),jw]⟩
      have d3:=Ag jw;simp only[↓zP,zJ,seval,d3,WT];exact⟨trivial,by rw[if_pos (show k+1<=b by omega)]⟩
    have gJ:(aP.dot n x==d)=false:=(by simp[Zf]);have aFf:k≠b:=fun h=>Zf (bFa (by rw[h];exact SZ));rw[gJ];exact no _ zq (by simp only[zB,seval];exact WT) aFf
  rintro f5 H6 Ur ⟨rfl,WT⟩;simp only[zM] at WT;rw[if_neg (by omega)] at WT;have u10:f5 10=.int .i64 s0:=by rw[Ur 10 rfl];simp only[zB,seval];exact w10
  have u7:f5 7=.bD (H2.next+2) 1 (yP (X++[a])):=Ur 7 rfl;show K2 f5 [] _;apply bW;clear bW K2;by_cases him:i+1=m
  . have gJ:(((b:Nat):Int)==((s0:Nat):Int))=true:=by rw[Qs him];simp
    simp only[↓zP,zG,seval,WT,u10,gJ];apply hK;clear hK K;simp only[↓zP,zG,seval,u7];refine Rx ?_;have hLe:L=X++[a]:=(by rw[hL,<-him];exact hrs);refine⟨.bD (H2.next+2) 1 (yP (X++[a])),0,rfl,fun nw=>?_⟩;rw[hLe];have ML:=ES (X++[a]);simp[fG,fA,ML,IZ]
  have gJ:(((b:Nat):Int)==((s0:Nat):Int))=false:=by have :=bFg (by omega);rw[Bq];omega
  have d3:decide (((b:Nat):Int)<0)=false:=Ag (by omega);simp only[↓zP,zJ,seval,WT,u10,gJ,d3];exact⟨m -(i+1),by omega,i+1,by omega,rfl,_,by rw[u7,hb],y0,by omega,by rw[hrs];exact yo⟩
 rcases ho with ⟨e1,e2⟩|⟨k,e1,e2,e3⟩
 . have hi0:i=0:=by
    have :=Bn List.length e2;rw[eM,MN] at this;simpa using this
   subst hi0;rw[e1] at v7;have WJ:decide ((0:Int)<=(l.length:Int))=true:=Aj (by omega);simp only[↓zP,zG,seval,v7,k0,aU];refine⟨fun _=>?_,fun h=>absurd (Int.natCast_nonneg _) h⟩;exact ZaM
 rw[e1] at v7;simp only[↓zP,zG,seval,v7,k0,aU,eM,MN,d1];exact ZaM
theorem Vp (tag:Nat) {l:List aP.V} {M B:Nat} (hl:∀v∈l,cG M v) (hM:M<=2^18) (hlen:l.length<=64) {n:aP.V} {d:Int} (hq:cG B n) (hs:3*(B*M)<2^62)
 {L:List Nat} (hP:Poly (fun i=>l.getD i V0) l.length n d L) (H:aA):
 Sg 263 [.bD tag 3 (cH l),.agg (cU n),.int .i64 d] H (.ret (.bD 0 1 (yP L))) H:=(mw hl hM hlen hq hs hP H).DB tag
end Go.Proofs.YtgggiembljfnhaaGreatDoor
