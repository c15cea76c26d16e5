/-
  Part of the proof of statement 11
-/
import Derived.Test.YtgggiembljfnhaaGreatDoorA29
import Derived.Test.YtgggiembljfnhaaGreatDoorA30
import Derived.Test.YtgggiembljfnhaaGreatDoorA23
import Derived.Test.YtgggiembljfnhaaGreatDoorA25
set_option linter.unusedVariables false
set_option linter.unusedSimpArgs false
set_option maxRecDepth 100000
set_option maxHeartbeats 16000000
namespace Go.Proofs.YtgggiembljfnhaaGreatDoor
open Go Go.Av Go.aP Go.uG
attribute [local congr] aT aI aM aH aW aQ aN aF aX
attribute [local irreducible] FC bS eG
theorem qF {a b:aP.V} {A B:Nat} (ha:cH A a) (hb:cH B b) (hs:3*(A*B)<2^62) (H:aA):Sg 259 [.agg (cT a),.agg (cT b)] H (.ret (.int .i64 (aP.dot a b))) H:=by
 obtain⟨a1,a2,a3⟩:=ha;obtain⟨b1,b2,b3⟩:=hb;have m1:=cE a1 b1;have m2:=cE a2 b2;have m3:=cE a3 b3;have w1:=fU m1 (by omega);have w2:=fU m2 (by omega);have w3:=fU m3 (by omega);have w4:IntKind.i64.wrap (a.x*b.x+a.y*b.y)=a.x*b.x+a.y*b.y:=fU (B:=2*(A*B)) (by omega) (by omega);have w5:IntKind.i64.wrap (a.x*b.x+a.y*b.y+a.z*b.z)=a.x*b.x+a.y*b.y+a.z*b.z:=fU (B:=3*(A*B)) (by omega) (by omega);refine So aZq Zam ?_ H;unfold aOo;dsimp only;simp only[↓zP,zJ,Nat.reduceLT,Nat.reduceEqDiff,Nat.reduceAdd,Nat.reduceLeDiff,cT,sP,w1,w2,w3,w4,w5]
 (refine Rx ?_;rfl)
theorem La {a b:aP.V} {A B:Nat} (ha:cH A a) (hb:cH B b) (hs:A*B<2^61) (H:aA):Sg 302 [.agg (cT a),.agg (cT b)] H (.ret (.agg (cT (aP.aZ a b)))) H:=by
 obtain⟨a1,a2,a3⟩:=ha;obtain⟨b1,b2,b3⟩:=hb;have w1:=fU (cE a2 b3) (by omega);have w2:=fU (cE a3 b2) (by omega);have w3:=fU (cE a3 b1) (by omega);have w4:=fU (cE a1 b3) (by omega);have w5:=fU (cE a1 b2) (by omega);have w6:=fU (cE a2 b1) (by omega);have w7:=Qf (cE a2 b3) (cE a3 b2) hs;have w8:=Qf (cE a3 b1) (cE a1 b3) hs;have w9:=Qf (cE a1 b2) (cE a2 b1) hs;refine Sp bAs Zam Zam ?_ H;unfold aPp;dsimp only;simp only[zJ,Nat.reduceLT,Nat.reduceEqDiff,Nat.reduceAdd,Nat.reduceLeDiff,cT,sP,w1,w2,w3,w4,w5,w6,w7,w8,w9]
 (refine Rx ?_;rfl)
def gF (v:aP.V):Nat->Nat
 |0=>0
 |i+1=>Int.gcd (gF v i) (v.at i)
theorem aUo (v:aP.V):gF v 3=gG v:=by rw[<-PD];simp only[gF,V.at,Int.gcd,Em,Gx]
theorem uj {v:aP.V} {B:Nat} (h:cH B v):∀i,gF v i<=B
 |0=>Az _
 |i+1=>Ue (a:=(gF v i:Int)) (by rw[Em];exact uj h i) (cH.c h i)
theorem oe {v:aP.V}:gG v=0↔v=V0:=by
 constructor
 . intro h;refine Ev fun hc=>?_;have :=uE hc;omega
 rintro rfl;rfl
theorem aGw (v:aP.V) (i:Nat):(gK v).at i=v.at i / (gG v:Int):=by
 match i with
 |0=>rfl
 |1=>rfl
 |i+2=>rfl
theorem aBv (v:aP.V) (i:Nat):(gG v:Int)∣v.at i:=by
 match i with
 |0=>exact Ft ..
 |1=>exact Gu (Ec ..) (Ft ..)
 |i+2=>exact Gu (Ec ..) (Ec ..)
def Wz (n:aP.V) (e:Int):List AV:=[.int .i64 n.x,.int .i64 n.y,.int .i64 n.z,.int .i64 e]
theorem z7 {v:aP.V} {B:Nat} (hv:cH B v) (hB:B<2^60) (H:aA):Sg 303 [.agg (c3 fun i=>cI (v.at i))] H (.ret (.agg (Wz (gK v) (if v=V0 then 31 else 0)))) H:=by
 refine Sp bAt (by simp only[sf,xL fun i _=>dG _]) (by simp only[sf,Wz]) ?_ H;unfold aPq;dsimp only;have hl:=fun i (hi:i<3)=>ND (c:=fun i=>cI (v.at i)) (fun i _=>dY _) hi;have h54:(c3 fun i=>cI (v.at i)).length=54:=tG fun _ _=>dY _;have o0:=vO (z:=0) (by decide) (by decide);refine bQ ?_;simp only[↓zP,zJ,Nat.reduceLT];refine fD ?_;simp only[↓zP,zI];refine bZ (o0 _) ?_;simp only[↓zP,zJ,Nat.reduceLT,Nat.reduceEqDiff,Nat.reduceAdd];refine bR ?_;refine aJ fun K hK=>?_;simp only[↓zP,zG,Nat.reduceLT];refine bP [] (fun i vs H'=>H'.get 0=some (.cells (c3 fun i=>cI (v.at i)) false)/\H'.get 1=some (.cells [.int .i64 0,.int .i64 0,.int .i64 0,.int .i64 0] false)/\H'.get 2=some (.cells (cI (gF v i)) false)/\H'.next=3) 0 3 (by decide) (by decide) (by decide) ?_ ?_ ?_ ?_ ?_
 . simp only[zB];rfl
 . exact⟨by simp only[zI,Nat.reduceAdd,Nat.reduceEqDiff],by simp only[zI,Nat.reduceAdd,Nat.reduceEqDiff],by simp only[zI,Nat.reduceAdd,Nat.reduceEqDiff];rfl,by simp only[zI,Nat.reduceAdd]⟩
 . rintro i f H1 h0 hi hk e1 ⟨g0,g1,g2,gn⟩;simp only[↓zP,zJ,Nat.reduceLT,e1];exact Zaf
 . rintro i f H1 h0 hi hk e1 ⟨g0,g1,g2,gn⟩;have f1:f 1=.ref 0 0:=hk 1 rfl;have f3:f 3=.ref 2 0:=hk 3 rfl;have hb:=uj hv i;have hvb:=cH.c hv i;have hg:=YK (a:=(gF v i:Int)) (b:=v.at i) (by rw[Em];omega) (by omega);refine aL ?_;refine Dz ?_;simp only[↓zP,zJ,Nat.reduceLT,Nat.reduceEqDiff,Nat.reduceAdd,zD,reduceCtorEq,f1,f3,e1,g0,g2,aB,hi,h54,hl i hi,show i*18+18<=54 by omega];refine fH (hg _) ?_;simp only[↓zP,zJ,Nat.reduceEqDiff,Nat.reduceAdd,zD,reduceCtorEq,f3,g2];exact⟨g0,g1,rfl,gn⟩
 rintro f H1 hk ⟨g0,g1,g2,gn⟩;rw[aUo] at g2;have f1:f 1=.ref 0 0:=hk 1 rfl;have f2:f 2=.ref 1 0:=hk 2 rfl;have f3:f 3=.ref 2 0:=hk 3 rfl;have hb:=uj hv 3;rw[aUo] at hb;have XS:(cI ((gG v:Nat):Int)).getD 0 aC=.bool false:=rfl;have hsg:=aAa (z:=((gG v:Nat):Int)) (ug (by rw[Em];omega));show K f [] H1;apply hK;clear hK K;refine bQ ?_;simp only[↓zP,zJ,Nat.reduceLT,Nat.reduceLeDiff,f3,g2,XS];refine bR ?_;refine aJ fun K hK=>?_;simp only[↓zP,zJ,Nat.reduceLT,Nat.reduceEqDiff,Nat.reduceAdd,f3,g2];refine bZ (hsg _) ?_;by_cases PN:v=V0
 . have vl:gG v=0:=oe.2 PN;have eC:(aBe ((gG v:Nat):Int)==0)=true:=by rw[vl];rfl
   rw[if_pos PN];simp only[↓zP,zJ,Nat.reduceLT,Nat.reduceEqDiff,Nat.reduceAdd,eC,f2,g1];refine⟨rfl,_,by simp only[↓zP,zR,Nat.reduceEqDiff,Nat.reduceAdd,f2];rfl,?_⟩;subst PN;rfl
 have jr:=uE PN
 have eC:(aBe ((gG v:Nat):Int)==0)=false:=by rw[Bl];unfold aBe;rw[if_neg (by omega),if_neg (by omega)];decide
 rw[if_neg PN];simp only[↓zP,zJ,Nat.reduceLT,eC];apply hK;clear hK K;refine bQ ?_;simp only[↓zP,zJ,Nat.reduceLT,Nat.reduceEqDiff,Nat.reduceAdd];refine bR ?_;refine aJ fun K hK=>?_;have hpn:=sW hv;have bIz:∀i,i<3->(AV.int .i64 ((gK v).at i))=(cT (gK v)).getD i aC:=fun i hi=>(kJ _ hi).symm;simp only[↓zP,zG,Nat.reduceLT,gn];refine bP [] (fun i vs H'=>H'.get 0=some (.cells (c3 fun i=>cI (v.at i)) false)/\H'.get 1=some (.cells [.int .i64 0,.int .i64 0,.int .i64 0,.int .i64 0] false)/\H'.get 2=some (.cells (cI ((gG v:Nat):Int)) false)/\H'.get 3=some (.cells ((cT (gK v)).take i++[AV.int .i64 0,.int .i64 0,.int .i64 0,.int .i64 0].drop i) false)) 0 3 (by decide) (by decide) (by decide) ?_ ?_ ?_ ?_ ?_
 . simp only[zB];rfl
 . refine⟨?_,?_,?_,?_⟩
   . simp only[zI,Nat.reduceEqDiff,gn];exact g0
   . simp only[zI,Nat.reduceEqDiff,gn];exact g1
   . simp only[zI,Nat.reduceEqDiff,gn];exact g2
   simp only[zI,gn]
 . rintro i f5 H5 h0 hi Um e5 ⟨q0,q1,q2,q3⟩;simp only[↓zP,zJ,Nat.reduceLT,e5];exact Zaf
 . rintro i f5 H5 h0 hi Um e5 ⟨q0,q1,q2,q3⟩;have k1:f5 1=.ref 0 0:=by rw[Um 1 rfl];simp only[zB,Nat.reduceEqDiff];exact f1
   have k3:f5 3=.ref 2 0:=(by rw[Um 3 rfl];simp only[zB,Nat.reduceEqDiff];exact f3);have k5:f5 5=.ref 3 0:=Um 5 rfl;have hvb:=cH.c hv i;have hq:=YM (n:=v.at i) (m:=((gG v:Nat):Int)) (by omega) (aBv v i) (by omega) (by rw[Em];omega);rw[<-aGw] at hq;have hpb:=cH.c hpn i;have hsm:=RS (z:=(gK v).at i) (by omega) (by omega);refine aL ?_;refine bQ ?_;refine Dz ?_;simp only[↓zP,zJ,Nat.reduceLT,Nat.reduceEqDiff,Nat.reduceAdd,zD,reduceCtorEq,k1,k3,e5,q0,q2,aB,hi,h54,hl i hi,show i*18+18<=54 by omega];refine fH (hq _) ?_;simp only[Nat.reduceAdd];refine fH (hsm _) ?_;simp only[↓zP,zJ,Nat.reduceLT,Nat.reduceEqDiff,Nat.reduceAdd,zD,reduceCtorEq];refine bR ?_
   match i,hi with
   |0,_=>simp only[↓zP,zJ,Nat.reduceLT,Nat.reduceEqDiff,Nat.reduceAdd,Nat.reduceLeDiff,k5,e5,aB,q3,cT];exact⟨q0,q1,q2,rfl⟩
   |1,_=>simp only[↓zP,zJ,Nat.reduceLT,Nat.reduceEqDiff,Nat.reduceAdd,Nat.reduceLeDiff,k5,e5,aB,q3,cT];exact⟨q0,q1,q2,rfl⟩
   |2,_=>simp only[↓zP,zJ,Nat.reduceLT,Nat.reduceEqDiff,Nat.reduceAdd,Nat.reduceLeDiff,Nat.reduceMul,k5,e5,aB,q3,cT];exact⟨q0,q1,q2,rfl⟩
 rintro f5 H5 Um ⟨q0,q1,q2,q3⟩;have k2:f5 2=.ref 1 0:=by rw[Um 2 rfl];simp only[zB,Nat.reduceEqDiff];exact f2
 have k5:f5 5=.ref 3 0:=Um 5 rfl;have hsm:=Yb hpn (by omega);have e3:(cT (gK v)).take 3++[AV.int .i64 0,.int .i64 0,.int .i64 0,.int .i64 0].drop 3=Wz (gK v) 0:=rfl;rw[e3] at q3;have d3:(Wz (gK v) 0).take 3=cT (gK v):=rfl;have d4:(Wz (gK v) 0).length=4:=rfl;show K f5 [] H5;apply hK;clear hK K;refine bQ ?_;simp only[↓zP,zJ,Nat.reduceLT,Nat.reduceEqDiff,Nat.reduceLeDiff,k5,q3,d3,d4];refine bZ (hsm _) ?_;simp only[↓zP,zG,Nat.reduceLT];refine bR ?_;simp only[↓zP,zJ,Nat.reduceLT,Nat.reduceEqDiff,Nat.reduceAdd,k5,k2,q3,q1,d4,oL d4];refine⟨rfl,_,by simp only[↓zP,zR,Nat.reduceEqDiff,k2,oL d4];rfl,?_⟩
 first|rfl|(rw[if_neg PN];rfl)
theorem YY {a b c:aP.V} {M:Nat} (ha:cH M a) (hb:cH M b) (hc:cH M c) (hM:M<=2^18) (H:aA):Sg 258 [.agg (cT a),.agg (cT b),.agg (cT c)] H (.ret (.agg (cT (gK (aP.aZ (aP.sub b a) (aP.sub c a)))))) H:=by
 have hu:=gL hb ha;have hw:=gL hc ha;have hn:=nO hu hw;have hMM:(M+M)*(M+M)<=2^19*2^19:=Bt (by omega) (by omega);refine Sp aZp Zam Zam ?_ H;unfold aOn;dsimp only;refine bQ ?_;refine Ty ?_;refine fD ?_;refine oV 1 (by decide) (by simp only[pB,seval,zI,Option.isNone_none,Cv]) fun H1 n1 e1=>?_;simp only[zI,seval] at n1 e1;simp only[↓zP,zJ,seval,zD,e1,oL (aV a),oL (aV b)];refine fH (xD hb ha (by omega) _) ?_;simp only[↓zP,zJ,seval,zD,e1,oL (aV a),oL (aV c)];refine fH (xD hc ha (by omega) _) ?_;simp only[seval];refine fH (La hu hw (by omega) _) ?_;generalize hN:aP.aZ (aP.sub b a) (aP.sub c a)=N at *;simp only[↓zP,zJ,seval,zD,n1,e1,oL (aV N)];refine bR ?_;generalize hB:2*((M+M)*(M+M))=B at *;generalize hX:(H1.set 4 _).set 4 _=H2;have g3:H2.get 3=some (.cells [.int .i64 0,.int .i64 0,.int .i64 0] false):=by subst hX;simp only[seval,zI,e1]
 have g4:H2.get 4=some (.cells (cT N) false):=by subst hX;simp only[seval,zI]
 have gn:H2.next=5:=by subst hX;simp only[aA.bC];exact n1
 clear hX e1 n1;have iN:∀i,JJ (N.at i):=fun i=>by have :=cH.c hn i;unfold JJ;omega
 have hp:=z7 hn (by omega);refine bQ ?_;simp only[↓zP,zJ,seval,g4,oL (aV N)];refine bZ (BF iN _) ?_;refine bZ (hp _) ?_;have d4:∀e,(Wz (gK N) e).length=4:=fun _=>rfl;have d3:∀e,(Wz (gK N) e).take 3=cT (gK N):=fun _=>rfl;simp only[↓zP,zJ,seval,oL (d4 _),gn];refine bR ?_;simp only[↓zP,zJ,seval,oL (d4 _),d3,g3,gn,oL (aV (gK N))];refine⟨rfl,_,by simp only[↓zP,zR,seval,oL (aV (gK N))];rfl,?_⟩;rfl
theorem DI {α:Type} {f g:α->Bool}:∀{l:List α},(∀x∈l,f x=g x)->l.any f=l.any g
 |[],_=>rfl
 |x::l,h=>by rw[List.any_cons,List.any_cons,h x Ar,DI fun y hy=>h y (Aw _ hy)]
theorem l9 {l:List aP.V} {M B:Nat} (hl:∀v∈l,cH M v) (hlen:l.length<2^30) {n:aP.V} {d:Int} (hq:cH B n) (hs:3*(B*M)<2^62) (H:aA):
 Sg 261 [.bB 0 3 (cJ l),.agg (cT n),.int .i64 d] H (.ret (.bool (DB l (n,d)))) H:=by
 have Qv:Nat.blt 0 2=true:=rfl;refine So aZt (by simp only[sf,dK Qv,cS]) ?_ H;unfold aOr;dsimp only;refine Ty ?_;refine bP [7] (fun i vs H'=>H'=((⟨0,.nil⟩:aA).alloc (.cells (cT n) false))/\vs=[.bool ((l.take i).any fun v=>decide (aP.dot n v<d))]/\∀v∈l.take i,aP.dot n v<=d) 0 l.length (Az _) (by omega) (by decide) ?_ ?_ ?_ ?_ ?_
 . exact zq
 . exact⟨rfl,by simp only[sm,zB,seval];rfl,fun v hv=>by simp at hv⟩
 . rintro i f H1 h0 hi hk e1 ⟨rfl,hv,hle⟩;have f0:f 0=.bB 0 3 (cJ l):=hk 0 rfl;simp only[↓zP,zG,seval,e1,f0,aU];exact Zaf
 . rintro i f H1 h0 hi hk e1 ⟨rfl,hv,hle⟩;simp only[zM] at hv;have f0:f 0=.bB 0 3 (cJ l):=hk 0 rfl;have f2:f 2=.int .i64 d:=hk 2 rfl;have f4:f 4=.ref 0 0:=hk 4 rfl;have hg:=dC hi;have hm:=Ac hi;have hd:=qF hq (hl _ hm) hs
   have bDx:(l.take (i+1)).any (fun v=>decide (aP.dot n v<d))=((l.take i).any (fun v=>decide (aP.dot n v<d))||decide (aP.dot n l[i]<d)):=by rw[Ao,Iq];simp[hi]
   have hx:∀v,v∈l.take (i+1)->v∈l.take i\/v=l[i]:=fun v hv=>by
    exact Zar
   have qC:aP.dot n l[i]>d->DB l (n,d)=false:=fun h=>by
    unfold DB
    have :l.all (fun v=>decide (aP.dot n v<=d))=false:=by rw[Ej];exact⟨l[i],hm,by simp;omega⟩
    rw[this];rfl
   generalize (l.take i).any (fun v=>decide (aP.dot n v<d))=b at *;generalize l[i]=x at *;rw[bDx];refine aL ?_;refine bQ ?_;refine Dz ?_;simp only[↓zP,zJ,seval,zD,f0,f4,e1,aB,aU,hi,hg,oL (aV n),oL (aV x)];refine fH (hd _) ?_;simp only[↓zP,zJ,seval,zD];refine bR ?_;by_cases c:aP.dot n x>d
   . have c1:=Aj c;simp only[↓zP,zG,seval,f2,c1];refine Rx ?_;rw[qC c];rfl
   have c1:=Ag c
   have Xa:∀v∈l.take (i+1),aP.dot n v<=d:=fun v hv=>by
    rcases hx v hv with h|rfl
    . exact hle v h
    omega
   cases b with
   |true=>simp only[↓zP,zJ,seval,f2,c1,hv,Bool.true_or];exact⟨trivial,trivial,Xa⟩
   |false=>simp only[↓zP,zJ,seval,f2,c1,hv,Kj];exact⟨trivial,trivial,Xa⟩
 rintro f H1 hk ⟨rfl,hv,hle⟩;simp only[zM] at hv;rw[Ay] at hv hle
 have :DB l (n,d)=l.any fun v=>decide (aP.dot n v<d):=by
  unfold DB
  have h1:l.all (fun v=>decide (aP.dot n v<=d))=true:=by rw[Ax];exact fun v hv=>Aj (hle v hv)
  rw[h1,Co,List.not_all_eq_any_not];refine DI fun v hv=>?_;have :=hle v hv;rw[Cg,Cn,Bl,Bd];show aP.dot n v≠d↔_;omega
 rw[this];simp only[↓zP,seval,hv];refine Rx ?_;rfl
theorem Ve (tag:Nat) {l:List aP.V} {M B:Nat} (hl:∀v∈l,cH M v) (hlen:l.length<2^30) {n:aP.V} {d:Int} (hq:cH B n) (hs:3*(B*M)<2^62) (H:aA):
 Sg 261 [.bB tag 3 (cJ l),.agg (cT n),.int .i64 d] H (.ret (.bool (DB l (n,d)))) H:=(l9 hl hlen hq hs H).DE tag
def yU (L:aP.V×Int->List Nat) (S:List (aP.V×Int)):AV:=lB 5 (S.map (dU L))
theorem jJ (L:aP.V×Int->List Nat) (S:List (aP.V×Int)):(S=[]/\yU L S=.aR)\/(S≠[]/\yU L S=.bB 0 5 (S.map (dU L))):=by
 unfold yU lB;by_cases h:S=[]
 . exact .inl ⟨h,by rw[if_pos (by simp[h])]⟩
 exact .inr ⟨h,by rw[if_neg (by simpa using h)]⟩
theorem KD (L:aP.V×Int->List Nat) (S:List (aP.V×Int)):(yU L S).free=true:=mh (eJ (pY L) S)
theorem mc (L:aP.V×Int->List Nat) (S:List (aP.V×Int)) (hlen:S.length<2^30) (n:aP.V) (H:aA):
 Sg 260 [yU L S,.agg (cT n)] H (.ret (.bool (S.any fun q=>decide (q.1=n)))) H:=by
 refine So aZs (by simp only[sf,KD,cS]) ?_ H;unfold aOq;dsimp only;refine Ty ?_;refine bP [] (fun i vs H'=>H'=((⟨0,.nil⟩:aA).alloc (.cells (cT n) false))/\∀q∈S.take i,q.1≠n) 0 S.length (Az _) (by omega) (by decide) ?_ ?_ ?_ ?_ ?_
 . exact zq
 . exact⟨rfl,fun v hv=>by simp at hv⟩
 . rintro i f H1 h0 hi hk e1 ⟨rfl,cP⟩;have f0:f 0=yU L S:=hk 0 rfl
   rcases jJ L S with ⟨h,e⟩|⟨h,e⟩
   . rw[e] at f0;subst h;simp only[↓zP,zG,seval,e1,f0];exact⟨trivial,trivial,Bn AV.bool (Bs.2 (by simp at hi;simp[hi]))⟩
   rw[e] at f0;simp only[↓zP,zG,seval,e1,f0,Af];exact Zaf
 . rintro i f H1 h0 hi hk e1 ⟨rfl,cP⟩
   have f0:f 0=.bB 0 5 (S.map (dU L)):=by
    rw[hk 0 rfl];simp only[zB,seval,fK,Dw]
    rcases jJ L S with ⟨h,e⟩|⟨h,e⟩
    . rw[h] at hi;exact absurd hi (An _)
    exact e
   have f3:f 3=.ref 0 0:=hk 3 rfl;have hg:(S.map (dU L)).getD i []=dU L S[i]:=gJ hi;have d3:(dU L S[i]).take 3=cT S[i].1:=rfl;have d5:(dU L S[i]).length=5:=rfl;refine aL ?_;refine bQ ?_;refine Dz ?_;simp only[↓zP,zJ,seval,zD,f0,f3,e1,aB,Af,hi,hg,d3,d5,oL (aV n),nB];refine bR ?_;by_cases c:S[i].1=n
   . have c1:=Aj c;simp only[↓zP,zG,seval,c1];refine Rx ?_;have :S.any (fun q=>decide (q.1=n))=true:=Bw.2 ⟨S[i],Ac hi,c1⟩;rw[this];rfl
   have c1:=Ag c;simp only[↓zP,zG,seval,c1];refine⟨trivial,fun q hq=>?_⟩;rw[Ao,Ap] at hq
   rcases hq with h|h
   . exact cP q h
   simp[hi] at h;subst h;exact c
 rintro f H1 hk ⟨rfl,cP⟩;rw[Ay] at cP
 have :S.any (fun q=>decide (q.1=n))=false:=by rw[Ct];exact fun q hq=>by simpa using cP q hq
 rw[this];refine Tx ?_;refine Rx ?_;rfl
def uI (q:aP.V×Int):List (aP.V×Int)->List (aP.V×Int)
 |[]=>[q]
 |s::r=>if uF q.1 s.1 then q::s::r else s::uI q r
theorem Sj {q:aP.V×Int}:∀{S:List (aP.V×Int)} {i:Nat},(∀s∈S.take i,uF q.1 s.1=false)->uI q S=S.take i++uI q (S.drop i)
 |[],i,_=>by simp
 |s::r,0,_=>by simp
 |s::r,i+1,h=>by have h1:=h s (by simp);have ih:=Sj (q:=q) (S:=r) (i:=i) fun x hx=>h x (by simp[hx]);simp only[uI,h1,Dp,Iu,Ep];rw[<-ih];rfl
theorem Nw (q:aP.V×Int):∀S:List (aP.V×Int),(uI q S).length=S.length+1
 |[]=>rfl
 |s::r=>by
  unfold uI;split
  . rfl
  rw[Aq,Nw q r];rfl
theorem tw (L:aP.V×Int->List Nat) (q:aP.V×Int):(dU L q).length=5:=rfl
theorem YV (L:aP.V×Int->List Nat) (S:List (aP.V×Int)) (hlen:S.length<2^20) (q:aP.V×Int) (H:aA):
 Sg 262 [yU L S,.agg (dU L q)] H (.ret (.bB (H.next+2) 5 ((uI q S).map (dU L)))) (H.alloc .tok):=by
 have cP:uI q S≠[]:=fun h=>by have :=Nw q S;rw[h] at this;simp at this
 refine mD fG (by simp only[sf,KD,pY]) (by simpa using cP) (eJ (pY L) _) ?_ H;refine cY fit aZu (Ak rfl) ?_;unfold aOs;dsimp only;have q3:(dU L q).take 3=cT q.1:=rfl;have q5:=tw L q;refine Ty ?_;refine bP [5,6] (fun i vs H'=>∃v X put,vs=[v,.bool put]/\H'.get 0=some (.cells (dU L q) false)/\1<=H'.next/\Own H' 5 v (X.map (dU L))/\X.length<=i+1/\(if put then X++S.drop i=uI q S else X=S.take i/\∀s∈S.take i,uF q.1 s.1=false)) 0 S.length (Az _) (by omega) (by decide) ?_ ?_ ?_ ?_ ?_
 . exact zq
 . exact⟨.aR,[],false,by simp only[sm,zB,seval],by simp only[zI,seval],by simp only[zI,seval],.nil _ _,by simp,by simp⟩
 . rintro i f H1 h0 hi hk e1 ⟨v,X,put,hv,g0,gn,ho,hX,hp⟩;have f0:f 0=yU L S:=hk 0 rfl
   rcases jJ L S with ⟨h,e⟩|⟨h,e⟩
   . rw[e] at f0;subst h;simp only[↓zP,zG,seval,e1,f0];exact⟨trivial,trivial,Bn AV.bool (Bs.2 (by simp at hi;simp[hi]))⟩
   rw[e] at f0;simp only[↓zP,zG,seval,e1,f0,Af];exact Zaf
 . rintro i f H1 h0 hi hk e1 ⟨v,X,put,hv,g0,gn,ho,hX,hp⟩;simp only[zM] at hv
   have f0:f 0=.bB 0 5 (S.map (dU L)):=by
    rw[hk 0 rfl];simp only[zB,seval,fK,Dw]
    rcases jJ L S with ⟨h,e⟩|⟨h,e⟩
    . rw[h] at hi;exact absurd hi (An _)
    exact e
   have f3:f 3=.ref 0 0:=hk 3 rfl;have hg:(S.map (dU L)).getD i []=dU L S[i]:=gJ hi;have d3:(dU L S[i]).take 3=cT S[i].1:=rfl;have d5:(dU L S[i]).length=5:=rfl;have hls:=RX q.1 S[i].1;have hdr:S.drop i=S[i]::S.drop (i+1):=Dk hi;have rQ:S.take (i+1)=S.take i++[S[i]]:=(by rw[Ao];simp[hi]);rw[hdr] at hp;rw[rQ]
   have hnp:(∀s∈S.take i,uF q.1 s.1=false)->uI q S=S.take i++uI q (S[i]::S.drop (i+1)):=fun h=>by
    have :=Sj h
    rwa [hdr] at this
   generalize S[i]=s at *;generalize hT:S.take i=T at *;generalize S.drop (i+1)=D at *
   have push:∀(HA:aA) (w:AV) (Y:List (aP.V×Int)) (x:aP.V×Int),Own HA 5 w (Y.map (dU L))->Y.length<2^21->HA.get 0=some (.cells (dU L q) false)->1<=HA.next->
    ∃H5,eB HA 5 56 false w [dU L x]=some (.bB (HA.next+2) 5 ((Y++[x]).map (dU L)),H5)/\H5.get 0=some (.cells (dU L q) false)/\1<=H5.next/\Own H5 5 (.bB (HA.next+2) 5 ((Y++[x]).map (dU L))) ((Y++[x]).map (dU L)):=fun HA w Y x ho hY h0 h1=>by
    obtain⟨H5,z1,z2,z3,z4,z5⟩:=Has.push (.inr ho) (ys:=[dU L x]) (bytes:=56) rfl (by simp only[Af,Aq,Bm];omega);refine⟨H5,by rw[z1,Cx];rfl,(z4 0 (by omega) (by rw[h0];simp)).trans h0,by omega,.inr ⟨HA.next,rfl,by omega,z3⟩⟩
   refine aL ?_;refine bQ ?_;refine Dz ?_;simp only[↓zP,zJ,seval,zD,f0,f3,e1,g0,aB,Af,hi,hg,d3,d5,q3,q5];refine fH (hls _) ?_;simp only[↓zP,zJ,seval,zD];refine bR ?_;refine aJ fun K hK=>?_
   have key:∀(f':dE) (HA:aA) (w:AV) (Y:List (aP.V×Int)) (Ly:Bool),f' 5=w->f' 6=.bool Ly->f' 0=.bB 0 5 (S.map (dU L))->f' 7=.int .i64 i->HA.get 0=some (.cells (dU L q) false)->1<=HA.next->Own HA 5 w (Y.map (dU L))->Y.length<=i+1->
    (if Ly then Y++s::D=uI q S else Y=T/\∀s'∈T++[s],uF q.1 s'.1=false)->K f' [] HA:=by
    intro f' HA w Y Ly v5 v6 v0 v7 h0 h1 hY hYl eU;apply hK;clear hK K;obtain⟨H5,z1,z2,z3,z4⟩:=push HA w Y s hY (by omega) h0 h1;simp only[↓zP,zJ,seval,v5,v0,v7,aB,Af,hi,hg,d5,oL d5];rw[eL];simp only[z1,cF,seval,v6];refine⟨_,Y++[s],Ly,rfl,z2,z3,z4,by simp;omega,?_⟩
    cases Ly with
    |true=>simp only[if_true] at eU ⊢;rw[<-eU];simp
    |false=>simp only[Bb,Bq] at eU ⊢;rw[eU.1];exact⟨rfl,eU.2⟩
   clear hK
   cases put with
   |true=>simp only[if_true] at hp;simp only[↓zP,zJ,seval,hv];exact key _ H1 v X true (by simp only[zB,seval];exact hv.1) (by simp only[zB,seval];exact hv.2) (by simp only[zB,seval];exact f0) (by simp only[zB,seval];exact e1) g0 gn ho hX (by simpa using hp)
   |false=>
    simp only[Bb,Bq] at hp;obtain⟨rfl,bV⟩:=hp
    cases hb:uF q.1 s.1 with
    |false=>
     simp only[↓zP,zJ,seval,hv];refine key _ H1 v X false (by simp only[zB,seval];exact hv.1) (by simp only[zB,seval];exact hv.2) (by simp only[zB,seval];exact f0) (by simp only[zB,seval];exact e1) g0 gn ho hX ?_;simp only[Bb,Bq];refine⟨trivial,fun s' CC=>?_⟩
     rcases Ap.1 CC with h|h
     . exact bV s' h
     rw[Cb] at h;subst h;exact hb
    |true=>obtain⟨H5,z1,z2,z3,z4⟩:=push H1 v X q ho (by omega) g0 gn;simp only[↓zP,zJ,seval,hv,f3,g0,q5,oL q5];rw[eL];simp only[z1,cF,seval];have hXl:X.length=i:=(by rw[<-hT];simp;omega);refine key _ H5 _ (X++[q]) true zq zq (by simp only[zB,seval];exact f0) (by simp only[zB,seval];exact e1) z2 z3 z4 (by simp[hXl]) ?_;simp only[if_true];rw[hnp bV,uI,if_pos hb];simp
 rintro f H1 hk ⟨v,X,put,hv,g0,gn,ho,hX,hp⟩;simp only[zM] at hv;have f3:f 3=.ref 0 0:=hk 3 rfl
 cases put with
 |true=>simp only[if_true] at hp;rw[Hh,Ch] at hp;simp only[↓zP,zJ,seval,hv];refine Rx ?_;exact⟨v,rfl,hp▸ho⟩
 |false=>simp only[Bb,Bq] at hp;obtain⟨rfl,bV⟩:=hp;obtain⟨H5,z1,z2,z3,z4,z5⟩:=Has.push (.inr ho) (ys:=[dU L q]) (bytes:=56) rfl (by simp only[Af,Aq,Bm];omega);simp only[↓zP,zJ,seval,hv,f3,g0,q5,oL q5];rw[eL];simp only[z1,cF,seval];refine Rx ?_;refine⟨_,rfl,?_⟩;rw[Sj bV,Hh];rw[show S.take S.length++uI q []=S.take S.length++[q] from rfl,Cx];exact .inr ⟨H1.next,rfl,by omega,z3⟩
theorem mG (b:Bool) (A B:Prop):jK aC b A B=B:=rfl
theorem Vl (x:Int) (H:aA):Sg 373 [.int .i64 x] H (.ret (.int .i64 (uW x))) H:=by
 refine So bBv Zah ?_ H;unfold aQp;dsimp only;unfold uW;by_cases h:x<0
 . have d1:=Aj h;simp only[↓zP,zJ,Nat.reduceLT,Nat.reduceEqDiff,d1];refine Rx ?_;rw[if_pos h];rfl
 have d1:=Ag h;by_cases h2:x>0
 . have d2:=Aj h2;simp only[↓zP,zJ,Nat.reduceLT,Nat.reduceEqDiff,d1,d2];refine Rx ?_;rw[if_neg h,if_pos h2];rfl
 have d2:=Ag h2;simp only[↓zP,zJ,Nat.reduceLT,Nat.reduceEqDiff,d1,d2];refine Rx ?_;rw[if_neg h,if_neg h2];rfl
theorem aAk (n c:aP.V) (H:aA):Sg 338 [.agg (cT n),.agg (cT c)] H (.ret (.int .i64 (aP.rV n c))) H:=by
 refine So bBm Zam ?_ H;unfold aQh;dsimp only;simp only[↓zP,zJ,Nat.reduceLT,Nat.reduceEqDiff];refine bP [] (fun i vs H'=>H'=((⟨0,.nil⟩:aA).alloc (.cells (cT n) false)).alloc (.cells (cT c) false)/\∀k,k<i->n.at k=0) 0 3 (by decide) (by decide) (by decide) ?_ ?_ ?_ ?_ ?_
 . simp only[zB];rfl
 . exact⟨rfl,fun k hk=>absurd hk (An _)⟩
 . rintro i f H1 h0 hi hk e1 ⟨rfl,hz⟩;simp only[↓zP,zJ,Nat.reduceLT,e1];exact Zaf
 . rintro i f H1 h0 hi hk e1 ⟨rfl,hz⟩;have f2:f 2=.ref 0 0:=hk 2 rfl;have f3:f 3=.ref 1 0:=hk 3 rfl;have DP:i+1<=3:=by omega
   refine aL ?_;by_cases hn:n.at i=0
   . have hb:(n.at i != 0)=false:=(by simp[hn]);simp only[↓zP,zJ,Nat.reduceLT,Nat.reduceEqDiff,e1,f2,aB,hi,aV,kJ n hi,DP,hb];refine⟨trivial,fun k hk=>?_⟩;by_cases vq:k=i
     . subst vq;exact hn
     exact hz k (by omega)
   have hb:(n.at i != 0)=true:=by simp[hn]
   have w:IntKind.i64.wrap (uW (n.at i)*uW (c.at i))=uW (n.at i)*uW (c.at i):=fU (B:=1*1) (by rw[Ga];exact Bt (Mc _) (Mc _)) (by decide)
   simp only[↓zP,zJ,Nat.reduceLT,Nat.reduceEqDiff,e1,f2,aB,hi,aV,kJ n hi,DP,hb];refine Dz ?_;simp only[↓zP,zJ,Nat.reduceLT,Nat.reduceEqDiff,Nat.reduceAdd,zD,reduceCtorEq,e1,f2,aB,hi,aV,kJ n hi,DP];refine fH (Vl (n.at i) _) ?_;simp only[↓zP,zJ,Nat.reduceLT,Nat.reduceEqDiff,Nat.reduceAdd,zD,reduceCtorEq,e1,f3,aB,hi,aV,kJ c hi,DP];refine fH (Vl (c.at i) _) ?_;simp only[↓zP,zJ,Nat.reduceLT,Nat.reduceEqDiff,Nat.reduceAdd,zD,reduceCtorEq,w];refine Rx ?_;rw[cu n c hi hz hn,Int.mul_comm];rfl
 rintro f H1 hk ⟨rfl,hz⟩;simp only[↓zP];refine Rx ?_;rw[Re n c hz];rfl
def okV (n a b x:aP.V):Bool:= !(decide (aP.rV n (aP.aZ (aP.sub b a) (aP.sub x a))<0)||(decide (aP.rV n (aP.aZ (aP.sub b a) (aP.sub x a))=0)&&(decide (aP.dot (aP.sub x a) (aP.sub b a)<0)||decide (aP.dot (aP.sub x a) (aP.sub b a)>aP.dot (aP.sub b a) (aP.sub b a)))))
def DZ (l:List aP.V) (n:aP.V) (d:Int) (a b:aP.V):Bool:=l.all fun x=> !decide (aP.dot n x=d)||okV n a b x
theorem aTq {l:List aP.V} {M B:Nat} (hl:∀v∈l,cH M v) (hM:M<=2^18) (hlen:l.length<2^30) {n a b:aP.V} {d:Int} (hq:cH B n) (hs:3*(B*M)<2^62) (ha:cH M a) (hb:cH M b) (H:aA):
 Sg 304 [.bB 0 3 (cJ l),.agg (cT n),.int .i64 d,.agg (cT a),.agg (cT b)] H (.ret (.bool (DZ l n d a b))) H:=by
 have Qv:Nat.blt 0 2=true:=rfl;have hw:=gL hb ha;have hMM:(M+M)*(M+M)<=2^19*2^19:=Bt (by omega) (by omega);have sw:=xD hb ha (by omega);have dww:=qF hw hw (by omega);refine So bAu (by simp only[sf,dK Qv,cS]) ?_ H;unfold aPr;dsimp only;refine bQ ?_;simp only[↓zP,zJ,Nat.reduceLT,Nat.reduceEqDiff,Nat.reduceAdd];refine fD ?_;simp only[↓zP,zJ,Nat.reduceLT,Nat.reduceEqDiff,Nat.reduceAdd,oL (aV b),oL (aV a)];refine bZ (sw _) ?_;simp only[↓zP,zJ,Nat.reduceLT,Nat.reduceEqDiff,Nat.reduceAdd,oL (aV (aP.sub b a))];refine bR ?_;have hMW:(M+M)*M<=2^19*2^18:=Bt (by omega) hM;generalize hwv:aP.sub b a=w at *;refine aJ fun K hK=>?_;simp only[↓zP,zG,Nat.reduceLT];refine bP [] (fun i vs H'=>H'.get 0=some (.cells (cT n) false)/\H'.get 1=some (.cells (cT a) false)/\H'.get 3=some (.cells (cT w) false)/\4<=H'.next/\cV H'/\∀x∈l.take i,aP.dot n x=d->okV n a b x=true) 0 l.length (Az _) (by omega) (by decide) ?_ ?_ ?_ ?_ ?_
 . simp only[zB];rfl
 . refine⟨by simp only[zI,Nat.reduceAdd,Nat.reduceEqDiff],by simp only[zI,Nat.reduceAdd,Nat.reduceEqDiff],by simp only[zI,Nat.reduceAdd,Nat.reduceEqDiff],by simp only[zI,Nat.reduceAdd,Nat.reduceLeDiff],?_,fun v hv=>by simp at hv⟩;exact((((((cV.nil 0).alloc _).alloc _).alloc _).alloc _).set (by simp) _)
 . rintro i f H1 h0 hi hk e1 ⟨g0,g1,g3,gn,hf,bV⟩;have f0:f 0=.bB 0 3 (cJ l):=hk 0 rfl;simp only[↓zP,zJ,Nat.reduceLT,Nat.reduceEqDiff,e1,f0,aU];exact Zaf
 . rintro i f H1 h0 hi hk e1 ⟨g0,g1,g3,gn,hf,bV⟩;have f0:f 0=.bB 0 3 (cJ l):=hk 0 rfl;have f2:f 2=.int .i64 d:=hk 2 rfl;have f6:f 6=.ref 0 0:=hk 6 rfl;have f8:f 8=.ref 1 0:=hk 8 rfl;have f11:f 11=.ref 3 0:=hk 11 rfl;have hg:=dC hi;have hm:=Ac hi;have hx:=hl _ hm
   have rQ:∀v,v∈l.take (i+1)->v∈l.take i\/v=l[i]:=fun v hv=>by
    exact Zar
   have aRs:aP.dot n l[i]=d->okV n a b l[i]=false->DZ l n d a b=false:=fun h1 h2=>by unfold DZ;rw[Ej];exact⟨l[i],hm,by simp[h1,h2]⟩
   generalize l[i]=x at *;have hd:=qF hq hx hs
   have aIo:(aP.dot n x=d->okV n a b x=true)->∀v∈l.take (i+1),aP.dot n v=d->okV n a b v=true:=fun h v hv=>by
    rcases rQ v hv with h1|rfl
    . exact bV v h1
    exact h
   refine aL ?_;refine aJ fun K2 bW=>?_;refine bQ ?_;refine Dz ?_;simp only[↓zP,zJ,Nat.reduceLT,Nat.reduceEqDiff,Nat.reduceAdd,zD,reduceCtorEq,f0,f6,e1,g0,aB,aU,hi,hg,oL (aV n),oL (aV x)];refine fH (hd _) ?_;simp only[↓zP,zJ,Nat.reduceLT,Nat.reduceEqDiff,Nat.reduceAdd,zD,reduceCtorEq,f2];refine bR ?_;by_cases hc:aP.dot n x=d
   . have eC:(aP.dot n x != d)=false:=(by simp[hc]);have ht:=gL hx ha;have st:=xD hx ha (by omega);have cr:=La hw ht (by omega);have lf:=aAk n (aP.aZ w (aP.sub x a));have dtw:=qF ht hw (by omega)
     have aEu:okV n a b x= !(decide (aP.rV n (aP.aZ w (aP.sub x a))<0)||(decide (aP.rV n (aP.aZ w (aP.sub x a))=0)&&(decide (aP.dot (aP.sub x a) w<0)||decide (aP.dot (aP.sub x a) w>aP.dot w w)))):=by unfold okV;rw[hwv]
     simp only[↓zP,zG,eC];apply bW;clear bW K2;refine bQ ?_;refine oV 1 (by decide) hf.at1 fun H2 n2 e2=>?_;have q1:=(e2 1).trans g1;simp only[↓zP,zJ,Nat.reduceLT,Nat.reduceEqDiff,Nat.reduceAdd,zD,reduceCtorEq,f0,f8,e1,q1,aB,aU,hi,hg,oL (aV x),oL (aV a)];refine fH (st _) ?_;generalize hto:aP.sub x a=t at *;simp only[↓zP,zJ,Nat.reduceLT,Nat.reduceEqDiff,Nat.reduceAdd,zD,oL (aV t)];generalize hX:(H2.set H1.next _).set H1.next _=H3;have y0:H3.get 0=some (.cells (cT n) false):=(by subst hX;rw[aA.aD,if_neg (by omega),aA.aD,if_neg (by omega),e2];exact g0);have y1:H3.get 1=some (.cells (cT a) false):=(by subst hX;rw[aA.aD,if_neg (by omega),aA.aD,if_neg (by omega),e2];exact g1);have y3:H3.get 3=some (.cells (cT w) false):=(by subst hX;rw[aA.aD,if_neg (by omega),aA.aD,if_neg (by omega),e2];exact g3);have yr:H3.get H1.next=some (.cells (cT t) false):=Zal;have yn:4<=H3.next:=by subst hX;simp only[aA.bC];omega
     have yf:cV H3:=fun j hj=>by subst hX;simp only[aA.bC] at hj;rw[aA.aD,if_neg (by omega),aA.aD,if_neg (by omega),e2];exact hf j (by omega)
     clear hX;refine fD ?_;refine Dz ?_;simp only[↓zP,zJ,Nat.reduceLT,Nat.reduceEqDiff,Nat.reduceAdd,zD,reduceCtorEq,f6,f11,y0,y3,yr,oL (aV n),oL (aV w),oL (aV t)];refine fH (cr _) ?_;generalize aP.aZ w t=cw at *;simp only[Nat.reduceAdd];refine fH (lf _) ?_;generalize aP.rV n cw=tn at *;simp only[↓zP,zJ,Nat.reduceLT,Nat.reduceEqDiff,Nat.reduceAdd,zD,reduceCtorEq];refine bR ?_;refine aJ fun K2 bW=>?_;refine Dz ?_
     have fin:∀(f':dE) (r:Bool),f' 63=.bool (!r)->okV n a b x=r->K2 f' [] H3:=by
      intro f' r v63 hr;apply bW;clear bW K2
      cases r with
      |true=>simp only[↓zP,zJ,v63];exact⟨y0,y1,y3,yn,yf,aIo fun _=>hr⟩
      |false=>simp only[↓zP,zJ,Nat.reduceLT,v63];refine Rx ?_;rw[aRs hc hr];rfl
     clear bW;by_cases c1:tn<0
     . have d1:=Aj c1;simp only[↓zP,zJ,Nat.reduceLT,Nat.reduceEqDiff,Nat.reduceAdd,zD,reduceCtorEq,d1,mG];exact fin _ false (by simp only[zB];rfl) (by rw[aEu,d1];rfl)
     have d1:=Ag c1;by_cases c2:tn=0
     . have d2:(tn==0)=true:=(by simp[c2]);have d2':decide (tn=0)=true:=Aj c2;simp only[↓zP,zJ,Nat.reduceLT,Nat.reduceEqDiff,Nat.reduceAdd,zD,reduceCtorEq,d1,d2,f11,y3,yr,oL (aV w),oL (aV t)];refine fH (dtw _) ?_;by_cases c3:aP.dot t w<0
       . have d3:=Aj c3;simp only[↓zP,zJ,Nat.reduceLT,Nat.reduceEqDiff,Nat.reduceAdd,zD,reduceCtorEq,d3];exact fin _ false (by simp only[zB];rfl) (by rw[aEu,d1,d2',d3];rfl)
       have d3:=Ag c3;simp only[↓zP,zJ,Nat.reduceLT,Nat.reduceEqDiff,Nat.reduceAdd,zD,reduceCtorEq,d3,f11,y3,yr,oL (aV w),oL (aV t)];refine fH (dtw _) ?_;simp only[↓zP,zJ,Nat.reduceLT,Nat.reduceEqDiff,Nat.reduceAdd,zD,f11,y3,oL (aV w)];refine fH (dww _) ?_;simp only[↓zP,zJ,Nat.reduceLT,Nat.reduceEqDiff,Nat.reduceAdd,zD,reduceCtorEq];exact fin _ (!decide (aP.dot t w>aP.dot w w)) (by simp only[zB,Bool.not_not]) (by rw[aEu,d1,d2',d3];rfl)
     have d2:(tn==0)=false:=(by simp[c2]);have d2':decide (tn=0)=false:=Ag c2;simp only[↓zP,zJ,Nat.reduceLT,Nat.reduceEqDiff,Nat.reduceAdd,zD,reduceCtorEq,d1,d2,mG];exact fin _ true (by simp only[zB];rfl) (by rw[aEu,d1,d2'];rfl)
   have eC:(aP.dot n x != d)=true:=(by simp[hc]);simp only[↓zP,zG,eC];exact⟨g0,g1,g3,gn,hf,aIo fun h=>absurd h hc⟩
 rintro f H1 hk ⟨g0,g1,g3,gn,hf,bV⟩;rw[Ay] at bV
 have :DZ l n d a b=true:=by
  unfold DZ;rw[Ax];intro x hx;by_cases h:aP.dot n x=d
  . simp[bV x hx h]
  simp[h]
 show K f [] H1;apply hK;simp only[↓zP,zG,Nat.reduceLT];refine Rx ?_;rw[this];rfl
theorem aAu (tag:Nat) {l:List aP.V} {M B:Nat} (hl:∀v∈l,cH M v) (hM:M<=2^18) (hlen:l.length<2^30) {n a b:aP.V} {d:Int} (hq:cH B n) (hs:3*(B*M)<2^62) (ha:cH M a) (hb:cH M b) (H:aA):
 Sg 304 [.bB tag 3 (cJ l),.agg (cT n),.int .i64 d,.agg (cT a),.agg (cT b)] H (.ret (.bool (DZ l n d a b))) H:=(aTq hl hM hlen hq hs ha hb H).DE tag
theorem ff {α:Type} (f:α->Bool) (z:α):∀l:List α,l.all f=(List.range l.length).all fun k=>f (l.getD k z):=fun l=>by
 rw[Cg,Ax,Ax];constructor
 . intro h k hk;have hk:=Au.1 hk;have :l.getD k z=l[k]:=by simp[List.getD,hk]
   rw[this];exact h _ (Ac hk)
 intro h x hx;obtain⟨k,hk,rfl⟩:=Ei hx;have :=h k (Au.2 hk)
 rwa [show l.getD k z=l[k] by simp[List.getD,hk]] at this
theorem aHj {l:List aP.V} {n:aP.V} {d:Int} (a b:Nat):DZ l n d (l.getD a V0) (l.getD b V0)=Li n (fun i=>l.getD i V0) (kC (fun i=>l.getD i V0) l.length n d) a b:=by unfold DZ Li kC;rw[List.all_filter,ff _ V0];rfl
theorem XL {on:List Nat} (hs:on.Pairwise (· < ·)) {p:Nat->Bool} {b:Nat} (h:on.find? p=some b):b∈on/\p b=true/\∀k∈on,k<b->p k=false:=by
 obtain⟨h1,xs,bs,rfl,h2⟩:=List.find?_eq_some_iff_append.1 h;refine⟨by simp,h1,fun k hk hkb=>?_⟩
 rcases Ap.1 hk with hk|hk
 . simpa using h2 k hk
 rcases Am.1 hk with rfl|hk
 . omega
 rw[List.pairwise_append] at hs;have :=(Ck.1 hs.2.1).1 k hk;omega
theorem mi {l:List aP.V} {M B:Nat} (hl:∀v∈l,cH M v) (hM:M<=2^18) (hlen:l.length<=64) {n:aP.V} {d:Int} (hq:cH B n) (hs:3*(B*M)<2^62)
 {L:List Nat} (hP:Poly (fun i=>l.getD i V0) l.length n d L) (H:aA):
 Sg 263 [.bB 0 3 (cJ l),.agg (cT n),.int .i64 d] H (.ret (.bB 0 1 (yR L))) H:=by
 have Qv:Nat.blt 0 2=true:=rfl;refine eQ fit fG aZv (Ak rfl) (by simp only[sf,dK Qv,cS]) ?_ H;have hPn:=fun k (hk:k∈L)=>hP.RH hk;obtain⟨s0,r,m,jw,W,hL⟩:=hP.ex
 have FH:∀i,i<m->iter (uK n (fun i=>l.getD i V0) (kC (fun i=>l.getD i V0) l.length n d)) i s0∈L:=fun i hi=>by rw[hL];exact Bj.2 ⟨i,Au.2 hi,rfl⟩
 have SY:=OW (fun i=>l.getD i V0) l.length n d
 have bIw:m<=l.length:=by have h1:=W.le;have h2:=Dh (fun k=>decide (aP.dot n (l.getD k V0)=d)) (List.range l.length);rw[Bv] at h2;exact Ce h1 h2
 unfold aOt;dsimp only;have cW:∀k (h:k<l.length),l.getD k V0=l[k]:=fun k h=>by simp[List.getD,h]
 have hs0:s0<l.length/\aP.dot n (l.getD s0 V0)=d:=dW.1 (show s0∈kC (fun i=>l.getD i V0) l.length n d by rw[jw];simp)
 have aEp:∀k,k<s0->k<l.length->aP.dot n (l.getD k V0)≠d:=fun k h1 h2 h3=>by
  have :k∈kC (fun i=>l.getD i V0) l.length n d:=dW.2 ⟨h2,h3⟩;rw[jw] at this SY
  rcases Am.1 this with h|h
  . omega
  have :=(Ck.1 SY).1 k h;omega
 refine bQ ?_;refine Ty ?_;refine fD ?_;refine Tz ?_;refine fD ?_;refine Tz ?_;refine bR ?_;refine aJ fun K hK=>?_;refine Tz ?_;refine bP [8] (fun i vs H'=>H'=((⟨0,.nil⟩:aA).alloc (.cells (cT n) false))/\vs=[.int .i64 (if i<=s0 then -1 else(s0:Int))]) 0 (s0+1) (Az _) (by omega) (by decide) ?_ ?_ ?_ ?_ ?_
 . exact zq
 . exact⟨rfl,by simp only[sm,zB,seval];rw[if_pos (Az _)]⟩
 . rintro i f H1 h0 hi hk e1 ⟨rfl,hv⟩;simp only[zM] at hv;have f0:f 0=.bB 0 3 (cJ l):=hk 0 rfl;have d1:decide ((i:Int)<(l.length:Int))=decide (i<l.length):=by rw[Bs];omega
   by_cases h1:i<=s0
   . rw[if_pos h1] at hv;have WD:decide ((i:Int)<(l.length:Int))=true:=Aj (by omega);have d2:decide ((-1:Int)<0)=true:=rfl;simp only[↓zP,zG,seval,e1,f0,aU,WD,hv];exact⟨trivial,trivial,Bn AV.bool (Aj (by omega)).symm⟩
   rw[if_neg h1] at hv;have d2:decide ((s0:Int)<0)=false:=Ag (by omega);by_cases hx:i<l.length
   . have WD:decide ((i:Int)<(l.length:Int))=true:=Aj (by omega);simp only[↓zP,zG,seval,e1,f0,aU,WD,hv,d2];exact⟨trivial,trivial,Bn AV.bool (Ag (by omega)).symm⟩
   have WD:decide ((i:Int)<(l.length:Int))=false:=Ag (by omega);simp only[↓zP,zG,seval,e1,f0,aU,WD];exact⟨trivial,trivial,Bn AV.bool (Ag (by omega)).symm⟩
 . rintro i f H1 h0 hi hk e1 ⟨rfl,hv⟩;simp only[zM] at hv;have f0:f 0=.bB 0 3 (cJ l):=hk 0 rfl;have f2:f 2=.int .i64 d:=hk 2 rfl;have f4:f 4=.ref 0 0:=hk 4 rfl;have ML:i<l.length:=by omega
   have hg:=dC ML;have hd:=qF hq (hl _ (Ac ML)) hs;have hbi:=aEp i;rw[cW i ML] at hbi;have hsi:i=s0->aP.dot n l[i]=d:=fun h=>by rw[<-cW i ML,h];exact hs0.2
   generalize l[i]=x at *;refine aL ?_;refine bQ ?_;refine Dz ?_;simp only[↓zP,zJ,seval,zD,f0,f4,e1,aB,aU,ML,hg,oL (aV n),oL (aV x)];refine fH (hd _) ?_;simp only[↓zP,zJ,seval,zD,f2];refine bR ?_;by_cases hc:i=s0
   . have eC:(aP.dot n x==d)=true:=(by simp[hsi hc]);simp only[↓zP,zJ,seval,eC,e1];exact⟨trivial,by rw[if_neg (by omega),hc]⟩
   have eC:(aP.dot n x==d)=false:=(by simp[hbi (by omega) ML]);simp only[↓zP,zJ,seval,eC,hv];exact⟨trivial,by rw[if_pos (by omega),if_pos (by omega)]⟩
 rintro f H1 hk ⟨rfl,hv⟩;simp only[zM] at hv;rw[if_neg (by omega)] at hv;have f0:f 0=.bB 0 3 (cJ l):=hk 0 rfl;have fd2:f 2=.int .i64 d:=hk 2 rfl;have f4:f 4=.ref 0 0:=hk 4 rfl;have f7:f 7=.aR:=hk 7 rfl;show K f [] _;apply hK;clear hK K;refine bQ ?_;simp only[↓zP,zG,seval,hv];refine bR ?_;refine aJ fun K hK=>?_;generalize Up:kC (fun i=>l.getD i V0) l.length n d=on at *;generalize vm:iter (uK n (fun i=>l.getD i V0) on)=it at *
 have fF:∀k∈on,k<l.length:=fun k hk=>by rw[<-Up] at hk;exact(dW.1 hk).1
 refine aL ?_;refine iM [7,8] (fun M' vs H'=>∃i,i<m/\M'=m -i/\∃v,vs=[v,.int .i64 (it i s0:Nat)]/\H'.get 0=some (.cells (cT n) false)/\1<=H'.next/\Own H' 1 v (yR ((List.range i).map fun i=>it i s0))) m (by rfl) ?_ ?_
 . exact⟨0,W.pos,rfl,.aR,by simp only[sm,zB,seval,f7,hv];rw[<-vm];rfl,by simp only[zI,seval],by simp only[zI,seval],.nil _ _⟩
 rintro M' f2 H2 eO ⟨i,hi,rfl,v,sU,g0,gn,ho⟩;simp only[zM] at sU;obtain⟨v7,v8⟩:=sU;have k0:f2 0=.bB 0 3 (cJ l):=by rw[eO 0 rfl];simp only[zB,seval];exact f0
 have k2:f2 2=.int .i64 d:=by rw[eO 2 rfl];simp only[zB,seval];exact fd2
 have k4:f2 4=.ref 0 0:=by rw[eO 4 rfl];simp only[zB,seval];exact f4
 have k10:f2 10=.int .i64 s0:=eO 10 rfl;have hle:i<=l.length:=by omega
 have d1:decide ((i:Int)<=(l.length:Int))=true:=Aj (by omega);have ML:((List.range i).map fun i=>it i s0).length=i:=by simp
 refine aJ fun K2 bW=>?_
 have key:∀f':dE,f' 0=.bB 0 3 (cJ l)->f' 2=.int .i64 d->f' 4=.ref 0 0->f' 10=.int .i64 s0->f' 7=v->f' 8=.int .i64 (it i s0:Nat)->K2 f' [] H2:=by
  intro f3 w0 w2 w4 w10 w7 w8;apply bW;clear bW K2;obtain⟨hoa,hSa⟩:=W.side i;have SS:=hSa.1;rw[vm] at hoa SS;have AN:uK n (fun i=>l.getD i V0) on (it i s0)=it (i+1) s0:=by rw[<-vm];rfl
  have LM:=hPn _ (FH i hi);rw[AN] at LM;unfold aP.RH at LM;obtain⟨_,hp1,hp2⟩:=XL SY LM;have hal:=fF _ hoa;have Uk:=fF _ SS;have vd:aP.dot n (l.getD (it (i+1) s0) V0)=d:=by rw[<-Up] at SS;exact(dW.1 SS).2
  have bFc:∀k,k<l.length->aP.dot n (l.getD k V0)=d->k∈on:=fun k h1 h2=>by rw[<-Up];exact dW.2 ⟨h1,h2⟩
  have Qp:i+1=m->it (i+1) s0=s0:=fun h=>by rw[h,<-vm];exact W.back
  have bEo:i+1<m->it (i+1) s0≠s0:=fun h=>by rw[<-vm];exact W.first (i+1) (by omega) h
  have hrs:(List.range (i+1)).map (fun i=>it i s0)=(List.range i).map (fun i=>it i s0)++[it i s0]:=by rw[Ff,Cx];rfl
  generalize ha:it i s0=a at *;generalize hb:it (i+1) s0=b at *;generalize hX:(List.range i).map (fun i=>it i s0)=X at *;obtain⟨H5,z1,z2,z3,z4,z5⟩:=Has.push (.inr ho) (ys:=[[AV.int .i64 (a:Nat)]]) (bytes:=8) rfl (by rw[eK,ML,Aq,Bm];omega);have y0:=(z4 0 (by omega) (by rw[g0];simp)).trans g0;have yo:Own H5 1 (.bB (H2.next+2) 1 (yR (X++[a]))) (yR (X++[a])):=.inr ⟨H2.next,rfl,by omega,z3⟩;have hna:=hl _ (Ac hal);refine aL ?_;refine bQ ?_;simp only[↓zP,zJ,seval,w7,w8];rw[eL];simp only[z1,cF,seval];refine bR ?_;rw[show yR X++[[AV.int .i64 (a:Int)]]=yR (X++[a]) from by simp[yR]];refine bQ ?_;refine Tz ?_;refine bR ?_;refine aJ fun K2 bW=>?_;refine Ty ?_;refine bP [11] (fun k vs H'=>H'=H5/\vs=[.int .i64 (if k<=b then -1 else(b:Int))]) 0 (b+1) (Az _) (by omega) (by decide) ?_ ?_ ?_ ?_ ?_
  . exact zq
  . exact⟨rfl,by simp only[sm,zB,seval];rw[if_pos (Az _)]⟩
  . rintro k f5 H6 h0 hkb Um e5 ⟨rfl,WN⟩;simp only[zM] at WN;have u0:f5 0=.bB 0 3 (cJ l):=by rw[Um 0 rfl];simp only[zB,seval];exact w0
    by_cases h1:k<=b
    . rw[if_pos h1] at WN;have WD:decide ((k:Int)<(l.length:Int))=true:=Aj (by omega);have d2:decide ((-1:Int)<0)=true:=rfl;simp only[↓zP,zG,seval,e5,u0,aU,WD,WN];exact⟨trivial,trivial,Bn AV.bool (Aj (by omega)).symm⟩
    rw[if_neg h1] at WN;have d2:decide ((b:Int)<0)=false:=Ag (by omega);by_cases hx:k<l.length
    . have WD:decide ((k:Int)<(l.length:Int))=true:=Aj (by omega);simp only[↓zP,zG,seval,e5,u0,aU,WD,WN,d2];exact⟨trivial,trivial,Bn AV.bool (Ag (by omega)).symm⟩
    have WD:decide ((k:Int)<(l.length:Int))=false:=Ag (by omega);simp only[↓zP,zG,seval,e5,u0,aU,WD];exact⟨trivial,trivial,Bn AV.bool (Ag (by omega)).symm⟩
  . rintro k f5 H6 h0 hkb Um e5 ⟨rfl,WN⟩;simp only[zM] at WN;have u0:f5 0=.bB 0 3 (cJ l):=by rw[Um 0 rfl];simp only[zB,seval];exact w0
    have u2:f5 2=.int .i64 d:=(by rw[Um 2 rfl];simp only[zB,seval];exact w2);have u4:f5 4=.ref 0 0:=(by rw[Um 4 rfl];simp only[zB,seval];exact w4);have u8:f5 8=.int .i64 (a:Nat):=(by rw[Um 8 rfl];simp only[zB,seval];exact w8);have tQ:k<l.length:=(by omega);have Zi:=dC tQ;have hga:=dC hal;have hnk:=hl _ (Ac tQ);have hd:=qF hq hnk hs;have hsd:=aAu 0 hl hM (by omega) hq hs (d:=d) hna hnk;rw[if_pos (show k<=b by omega)] at WN
    have hpk:(decide (k≠a)&&Li n (fun i=>l.getD i V0) on a k)=decide (k=b)\/k∉on:=by
     by_cases ow:k∈on
     . left;by_cases jt:k=b
       . subst jt;rw[hp1];simp
       rw[hp2 k ow (by omega)];simp[jt]
     exact .inr ow
    have hVR:DZ l n d l[a] l[k]=Li n (fun i=>l.getD i V0) on a k:=by rw[<-cW a hal,<-cW k tQ,aHj,Up]
    have hdk:aP.dot n l[k]=d->k∈on:=fun h=>bFc k tQ (by rw[cW k tQ];exact h);have bEi:k∈on->aP.dot n l[k]=d:=fun h=>by rw[<-Up] at h;have :=(dW.1 h).2;rwa [cW k tQ] at this
    generalize l[k]=x at *;generalize l[a]=y at *;refine aL ?_;refine aJ fun K3 Lp=>?_;refine Dz ?_
    have no:∀f6:dE,f6 65=.bool false->f6 11=.int .i64 (-1)->k≠b->K3 f6 [] H6:=by intro f6 v65 v11 aEq;apply Lp;simp only[↓zP,zJ,seval,v65];exact⟨trivial,by rw[v11,if_pos (show k+1<=b by omega)]⟩
    by_cases LP:k=a
    . have eC:(((k:Nat):Int) != ((a:Nat):Int))=false:=by rw[LP];simp
      have aEq:k≠b:=fun h=>by rw[<-h,LP] at hp1;simp at hp1
      simp only[↓zP,zJ,seval,zD,e5,u8,eC];exact no _ zq (by simp only[zB,seval];exact WN) aEq
    have eC:(((k:Nat):Int) != ((a:Nat):Int))=true:=(by rw[De];omega);simp only[↓zP,zJ,seval,zD,e5,u0,u4,u8,y0,eC,aB,aU,tQ,Zi,oL (aV n),oL (aV x)];refine fH (hd _) ?_;simp only[↓zP,zJ,seval,zD,u2];by_cases Ze:aP.dot n x=d
    . have fV:(aP.dot n x==d)=true:=(by simp[Ze]);have ow:=hdk Ze
      have bFm:DZ l n d y x=decide (k=b):=by
       rcases hpk with h|h
       . rw[hVR];simpa [LP] using h
       exact absurd ow h
      rw[fV];apply Lp;clear Lp K3 no;refine Rp true zq (fun _=>?_) (fun h=>by cases h);refine bQ ?_;refine Dz ?_;simp only[↓zP,zJ,seval,zD,e5,u0,u2,u4,u8,y0,aB,aU,tQ,hal,Zi,hga,oL (aV n),oL (aV x),oL (aV y)];refine fH (hsd _) ?_;rw[bFm];simp only[↓zP,zJ,seval,zD];refine bR ?_;by_cases jt:k=b
      . have d3:=Aj jt;simp only[↓zP,zJ,seval,d3,e5];exact⟨trivial,by rw[if_neg (by omega),jt]⟩
      have d3:=Ag jt;simp only[↓zP,zJ,seval,d3,WN];exact⟨trivial,by rw[if_pos (show k+1<=b by omega)]⟩
    have fV:(aP.dot n x==d)=false:=(by simp[Ze]);have aEq:k≠b:=fun h=>Ze (bEi (by rw[h];exact SS));rw[fV];exact no _ zq (by simp only[zB,seval];exact WN) aEq
  rintro f5 H6 Um ⟨rfl,WN⟩;simp only[zM] at WN;rw[if_neg (by omega)] at WN;have u10:f5 10=.int .i64 s0:=by rw[Um 10 rfl];simp only[zB,seval];exact w10
  have u7:f5 7=.bB (H2.next+2) 1 (yR (X++[a])):=Um 7 rfl;show K2 f5 [] _;apply bW;clear bW K2;by_cases him:i+1=m
  . have fV:(((b:Nat):Int)==((s0:Nat):Int))=true:=by rw[Qp him];simp
    simp only[↓zP,zG,seval,WN,u10,fV];apply hK;clear hK K;simp only[↓zP,zG,seval,u7];refine Rx ?_;have hLe:L=X++[a]:=(by rw[hL,<-him];exact hrs);refine⟨.bB (H2.next+2) 1 (yR (X++[a])),0,rfl,fun nw=>?_⟩;rw[hLe];have MK:=EV (X++[a]);simp[fT,jH,MK,JD]
  have fV:(((b:Nat):Int)==((s0:Nat):Int))=false:=by have :=bEo (by omega);rw[Bl];omega
  have d3:decide (((b:Nat):Int)<0)=false:=Ag (by omega);simp only[↓zP,zJ,seval,WN,u10,fV,d3];exact⟨m -(i+1),by omega,i+1,by omega,rfl,_,by rw[u7,hb],y0,by omega,by rw[hrs];exact yo⟩
 rcases ho with ⟨e1,e2⟩|⟨k,e1,e2,e3⟩
 . have hi0:i=0:=by
    have :=Bn List.length e2;rw[eK,ML] at this;simpa using this
   subst hi0;rw[e1] at v7;have WD:decide ((0:Int)<=(l.length:Int))=true:=Aj (by omega);simp only[↓zP,zG,seval,v7,k0,aU];refine⟨fun _=>?_,fun h=>absurd (Int.natCast_nonneg _) h⟩;exact ZaL
 rw[e1] at v7;simp only[↓zP,zG,seval,v7,k0,aU,eK,ML,d1];exact ZaL
theorem Vk (tag:Nat) {l:List aP.V} {M B:Nat} (hl:∀v∈l,cH M v) (hM:M<=2^18) (hlen:l.length<=64) {n:aP.V} {d:Int} (hq:cH B n) (hs:3*(B*M)<2^62)
 {L:List Nat} (hP:Poly (fun i=>l.getD i V0) l.length n d L) (H:aA):
 Sg 263 [.bB tag 3 (cJ l),.agg (cT n),.int .i64 d] H (.ret (.bB 0 1 (yR L))) H:=(mi hl hM hlen hq hs hP H).DE tag
end Go.Proofs.YtgggiembljfnhaaGreatDoor
