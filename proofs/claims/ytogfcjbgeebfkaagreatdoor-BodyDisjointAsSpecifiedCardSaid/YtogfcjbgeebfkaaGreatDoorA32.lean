/-
  Part of the proof of statement 7
-/
import Derived.Test.YtogfcjbgeebfkaaGreatDoorA30
import Derived.Test.YtogfcjbgeebfkaaGreatDoorA31
import Derived.Test.YtogfcjbgeebfkaaGreatDoorA17
import Derived.Test.YtogfcjbgeebfkaaGreatDoorA15
set_option linter.unusedVariables false
set_option linter.unusedSimpArgs false
set_option maxRecDepth 100000
set_option maxHeartbeats 16000000
namespace Go.Proofs.YtogfcjbgeebfkaaGreatDoor
open Go Go.Av Go.aD Go.lP
attribute [local congr] aY aS aV aQ bD aX aW aH bE
attribute [local irreducible] FC bT eX
theorem qN{a b:aD.V}{A B:Nat}(ha:bL A a)(hb:bL B b)(hs:3*(A*B)<2^62)(H:aA):Sg 235 [.agg (cE a),.agg (cE b)] H (.ret (.int .i64 (aD.dot a b))) H:=by
 obtain⟨a1,a2,a3⟩:=ha;obtain⟨b1,b2,b3⟩:=hb;have m1:=bS a1 b1;have m2:=bS a2 b2;have m3:=bS a3 b3;have w1:=fX m1 A0;have w2:=fX m2 A0;have w3:=fX m3 A0;have w4:IntKind.i64.wrap (a.x*b.x+a.y*b.y)=a.x*b.x+a.y*b.y:=fX (B:=2*(A*B)) A0 A0;have w5:IntKind.i64.wrap (a.x*b.x+a.y*b.y+a.z*b.z)=a.x*b.x+a.y*b.y+a.z*b.z:=fX (B:=3*(A*B)) A0 A0;refine So bCi Zah ?_ H;unfold aRc;dsimp only;simp only[↓zP,zJ,Nat.reduceLT,Nat.reduceEqDiff,Nat.reduceAdd,Nat.reduceLeDiff,cE,pZ,w1,w2,w3,w4,w5]
 (refine Rx ?_;rfl)
theorem Mw{a b:aD.V}{A B:Nat}(ha:bL A a)(hb:bL B b)(hs:A*B<2^61)(H:aA):Sg 216 [.agg (cE a),.agg (cE b)] H (.ret (.agg (cE (aD.aU a b)))) H:=by
 obtain⟨a1,a2,a3⟩:=ha;obtain⟨b1,b2,b3⟩:=hb;have w1:=fX (bS a2 b3) A0;have w2:=fX (bS a3 b2) A0;have w3:=fX (bS a3 b1) A0;have w4:=fX (bS a1 b3) A0;have w5:=fX (bS a1 b2) A0;have w6:=fX (bS a2 b1) A0;have w7:=Ru (bS a2 b3) (bS a3 b2) hs;have w8:=Ru (bS a3 b1) (bS a1 b3) hs;have w9:=Ru (bS a1 b2) (bS a2 b1) hs;refine Sp bBx Zah Zah ?_ H;unfold aQr;dsimp only;simp only[zJ,Nat.reduceLT,Nat.reduceEqDiff,Nat.reduceAdd,Nat.reduceLeDiff,cE,pZ,w1,w2,w3,w4,w5,w6,w7,w8,w9]
 (refine Rx ?_;rfl)
def gF(v:aD.V):Nat->Nat
 |0=>0
 |i+1=>Int.gcd (gF v i) (v.at i)
theorem aYl(v:aD.V):gF v 3=fG v:=by rw[<-QW];simp only[gF,V.at,Int.gcd,Cy,Nat.gcd_zero_left]
theorem aAx{v:aD.V}{B:Nat}(h:bL B v):∀i,gF v i<=B
 |0=>Bp _
 |i+1=>Vr (a:=(gF v i:Int)) (by rw[Cy];exact aAx h i) (bL.c h i)
theorem ux{v:aD.V}:fG v=0↔v=V0:=by
 constructor
 . intro h;refine Fl fun hc=>?_;have :=rO hc;omega
 rintro rfl;rfl
theorem aKr(v:aD.V)(i:Nat):(gD v).at i=v.at i / (fG v:Int):=by
 match i with
 |0=>rfl
 |1=>rfl
 |i+2=>rfl
theorem aFo(v:aD.V)(i:Nat):(fG v:Int)∣v.at i:=by
 match i with
 |0=>exact Fa ..
 |1=>exact Hr (Ea ..) (Fa ..)
 |i+2=>exact Hr (Ea ..) (Ea ..)
def Yg(n:aD.V)(e:Int):List AV:=[.int .i64 n.x,.int .i64 n.y,.int .i64 n.z,.int .i64 e]
theorem aDx{v:aD.V}{B:Nat}(hv:bL B v)(hB:B<2^60)(H:aA):Sg 279 [.agg (c3 fun i=>cI (v.at i))] H (.ret (.agg (Yg (gD v) (if v=V0 then 31 else 0)))) H:=by
 refine Sp bDl (by simp only[sf,iI fun i _=>cK _]) (by simp only[sf,Yg]) ?_ H;unfold aSf;dsimp only;have hl:=fun i (hi:i<3)=>pG (c:=fun i=>cI (v.at i)) (fun i _=>cJ _) hi;have h54:(c3 fun i=>cI (v.at i)).length=54:=fI fun _ _=>cJ _;have o0:=vU (z:=0) A1 A1;refine bX ?_;simp only[↓zP,zJ,Nat.reduceLT];refine gG ?_;simp only[↓zP,zI];refine bO (o0 _) ?_;simp only[↓zP,zJ,Nat.reduceLT,Nat.reduceEqDiff,Nat.reduceAdd];refine bY ?_;refine aT fun K hK=>?_;simp only[↓zP,zG,Nat.reduceLT];refine cP [] (fun i vs H'=>H'.get 0=some (.cells (c3 fun i=>cI (v.at i)) false)/\H'.get 1=some (.cells [.int .i64 0,.int .i64 0,.int .i64 0,.int .i64 0] false)/\H'.get 2=some (.cells (cI (gF v i)) false)/\H'.next=3) 0 3 A1 A1 A1 ?_ ?_ ?_ ?_ ?_
 . simp only[zB];rfl
 . exact⟨by simp only[zI,Nat.reduceAdd,Nat.reduceEqDiff],by simp only[zI,Nat.reduceAdd,Nat.reduceEqDiff],by simp only[zI,Nat.reduceAdd,Nat.reduceEqDiff];rfl,by simp only[zI,Nat.reduceAdd]⟩
 . rintro i f H1 h0 hi hk e1 ⟨g0,g1,g2,gn⟩;simp only[↓zP,zJ,Nat.reduceLT,e1];exact tB A0
 . rintro i f H1 h0 hi hk e1 ⟨g0,g1,g2,gn⟩;have f1:f 1=.ref 0 0:=hk 1 rfl;have f3:f 3=.ref 2 0:=hk 3 rfl;have hb:=aAx hv i;have hvb:=bL.c hv i;have hg:=Zo (a:=(gF v i:Int)) (b:=v.at i) (by rw[Cy];omega) A0;refine aP ?_;refine Dz ?_;simp only[↓zP,zJ,Nat.reduceLT,Nat.reduceEqDiff,Nat.reduceAdd,zD,reduceCtorEq,f1,f3,e1,g0,g2,aG,hi,h54,hl i hi,show i*18+18<=54 by omega];refine dM (hg _) ?_;simp only[↓zP,zJ,Nat.reduceEqDiff,Nat.reduceAdd,zD,reduceCtorEq,f3,g2];exact⟨g0,g1,rfl,gn⟩
 rintro f H1 hk ⟨g0,g1,g2,gn⟩;rw[aYl] at g2;have f1:f 1=.ref 0 0:=hk 1 rfl;have f2:f 2=.ref 1 0:=hk 2 rfl;have f3:f 3=.ref 2 0:=hk 3 rfl;have hb:=aAx hv 3;rw[aYl] at hb;have Qg:(cI ((fG v:Nat):Int)).getD 0 aB=.bool false:=rfl;have hsg:=aDz (z:=((fG v:Nat):Int)) (Vn (by rw[Cy];omega));show K f [] H1;apply hK;clear hK K;refine bX ?_;simp only[↓zP,zJ,Nat.reduceLT,Nat.reduceLeDiff,f3,g2,Qg];refine bY ?_;refine aT fun K hK=>?_;simp only[↓zP,zJ,Nat.reduceLT,Nat.reduceEqDiff,Nat.reduceAdd,f3,g2];refine bO (hsg _) ?_;by_cases yL:v=V0
 . have Yz:fG v=0:=ux.2 yL;have rP:(aEo ((fG v:Nat):Int)==0)=true:=by rw[Yz];rfl
   rw[if_pos yL];simp only[↓zP,zJ,Nat.reduceLT,Nat.reduceEqDiff,Nat.reduceAdd,rP,f2,g1];refine⟨rfl,_,by simp only[↓zP,zR,Nat.reduceEqDiff,Nat.reduceAdd,f2];rfl,?_⟩;subst yL;rfl
 have vq:=rO yL
 have rP:(aEo ((fG v:Nat):Int)==0)=false:=by rw[Dr];unfold aEo;rw[if_neg A0,if_neg A0];decide
 rw[if_neg yL];simp only[↓zP,zJ,Nat.reduceLT,rP];apply hK;clear hK K;refine bX ?_;simp only[↓zP,zJ,Nat.reduceLT,Nat.reduceEqDiff,Nat.reduceAdd];refine bY ?_;refine aT fun K hK=>?_;have hpn:=tC hv;have bMf:∀i,i<3->(AV.int .i64 ((gD v).at i))=(cE (gD v)).getD i aB:=fun i hi=>(jL _ hi).symm;simp only[↓zP,zG,Nat.reduceLT,gn];refine cP [] (fun i vs H'=>H'.get 0=some (.cells (c3 fun i=>cI (v.at i)) false)/\H'.get 1=some (.cells [.int .i64 0,.int .i64 0,.int .i64 0,.int .i64 0] false)/\H'.get 2=some (.cells (cI ((fG v:Nat):Int)) false)/\H'.get 3=some (.cells ((cE (gD v)).take i++[AV.int .i64 0,.int .i64 0,.int .i64 0,.int .i64 0].drop i) false)) 0 3 A1 A1 A1 ?_ ?_ ?_ ?_ ?_
 . simp only[zB];rfl
 . refine⟨?_,?_,?_,?_⟩
   . simp only[zI,Nat.reduceEqDiff,gn];exact g0
   . simp only[zI,Nat.reduceEqDiff,gn];exact g1
   . simp only[zI,Nat.reduceEqDiff,gn];exact g2
   simp only[zI,gn]
 . rintro i f5 H5 h0 hi WA e5 ⟨q0,q1,q2,q3⟩;simp only[↓zP,zJ,Nat.reduceLT,e5];exact tB A0
 . rintro i f5 H5 h0 hi WA e5 ⟨q0,q1,q2,q3⟩;have k1:f5 1=.ref 0 0:=by rw[WA 1 rfl];simp only[zB,Nat.reduceEqDiff];exact f1
   have k3:f5 3=.ref 2 0:=(by rw[WA 3 rfl];simp only[zB,Nat.reduceEqDiff];exact f3);have k5:f5 5=.ref 3 0:=WA 5 rfl;have hvb:=bL.c hv i;have hq:=Zq (n:=v.at i) (m:=((fG v:Nat):Int)) A0 (aFo v i) A0 (by rw[Cy];omega);rw[<-aKr] at hq;have hpb:=bL.c hpn i;have hsm:=Sm (z:=(gD v).at i) A0 A0;refine aP ?_;refine bX ?_;refine Dz ?_;simp only[↓zP,zJ,Nat.reduceLT,Nat.reduceEqDiff,Nat.reduceAdd,zD,reduceCtorEq,k1,k3,e5,q0,q2,aG,hi,h54,hl i hi,show i*18+18<=54 by omega];refine dM (hq _) ?_;simp only[Nat.reduceAdd];refine dM (hsm _) ?_;simp only[↓zP,zJ,Nat.reduceLT,Nat.reduceEqDiff,Nat.reduceAdd,zD,reduceCtorEq];refine bY ?_
   match i,hi with
   |0,_=>simp only[↓zP,zJ,Nat.reduceLT,Nat.reduceEqDiff,Nat.reduceAdd,Nat.reduceLeDiff,k5,e5,aG,q3,cE];exact⟨q0,q1,q2,rfl⟩
   |1,_=>simp only[↓zP,zJ,Nat.reduceLT,Nat.reduceEqDiff,Nat.reduceAdd,Nat.reduceLeDiff,k5,e5,aG,q3,cE];exact⟨q0,q1,q2,rfl⟩
   |2,_=>simp only[↓zP,zJ,Nat.reduceLT,Nat.reduceEqDiff,Nat.reduceAdd,Nat.reduceLeDiff,Nat.reduceMul,k5,e5,aG,q3,cE];exact⟨q0,q1,q2,rfl⟩
 rintro f5 H5 WA ⟨q0,q1,q2,q3⟩;have k2:f5 2=.ref 1 0:=by rw[WA 2 rfl];simp only[zB,Nat.reduceEqDiff];exact f2
 have k5:f5 5=.ref 3 0:=WA 5 rfl;have hsm:=aa hpn A0;have e3:(cE (gD v)).take 3++[AV.int .i64 0,.int .i64 0,.int .i64 0,.int .i64 0].drop 3=Yg (gD v) 0:=rfl;rw[e3] at q3;have d3:(Yg (gD v) 0).take 3=cE (gD v):=rfl;have d4:(Yg (gD v) 0).length=4:=rfl;show K f5 [] H5;apply hK;clear hK K;refine bX ?_;simp only[↓zP,zJ,Nat.reduceLT,Nat.reduceEqDiff,Nat.reduceLeDiff,k5,q3,d3,d4];refine bO (hsm _) ?_;simp only[↓zP,zG,Nat.reduceLT];refine bY ?_;simp only[↓zP,zJ,Nat.reduceLT,Nat.reduceEqDiff,Nat.reduceAdd,k5,k2,q3,q1,d4,oL d4];refine⟨rfl,_,by simp only[↓zP,zR,Nat.reduceEqDiff,k2,oL d4];rfl,?_⟩
 first|rfl|(rw[if_neg yL];rfl)
theorem Zy{a b c:aD.V}{M:Nat}(ha:bL M a)(hb:bL M b)(hc:bL M c)(hM:M<=2^18)(H:aA):Sg 234 [.agg (cE a),.agg (cE b),.agg (cE c)] H (.ret (.agg (cE (gD (aD.aU (aD.sub b a) (aD.sub c a)))))) H:=by
 have hu:=fW hb ha;have hw:=fW hc ha;have hn:=iD hu hw;have hMM:(M+M)*(M+M)<=2^19*2^19:=Ba A0 A0;refine Sp bCh Zah Zah ?_ H;unfold aRb;dsimp only;refine bX ?_;refine Ty ?_;refine gG ?_;refine gZ 1 A1 (by simp only[pK,seval,zI,Option.isNone_none,Du]) fun H1 n1 e1=>?_;simp only[zI,seval] at n1 e1;simp only[↓zP,zJ,seval,zD,e1,oL (aM a),oL (aM b)];refine dM (xR hb ha A0 _) ?_;simp only[↓zP,zJ,seval,zD,e1,oL (aM a),oL (aM c)];refine dM (xR hc ha A0 _) ?_;simp only[seval];refine dM (Mw hu hw A0 _) ?_;generalize hN:aD.aU (aD.sub b a) (aD.sub c a)=N at *;simp only[↓zP,zJ,seval,zD,n1,e1,oL (aM N)];refine bY ?_;generalize hB:2*((M+M)*(M+M))=B at *;generalize hX:(H1.set 4 _).set 4 _=H2;have g3:H2.get 3=some (.cells [.int .i64 0,.int .i64 0,.int .i64 0] false):=by subst hX;simp only[seval,zI,e1]
 have g4:H2.get 4=some (.cells (cE N) false):=by subst hX;simp only[seval,zI]
 have gn:H2.next=5:=by subst hX;simp only[aA.bA];exact n1
 clear hX e1 n1;have iN:∀i,CU (N.at i):=fun i=>by have :=bL.c hn i;unfold CU;omega
 have hp:=aDx hn A0;refine bX ?_;simp only[↓zP,zJ,seval,g4,oL (aM N)];refine bO (CD iN _) ?_;refine bO (hp _) ?_;have d4:∀e,(Yg (gD N) e).length=4:=fun _=>rfl;have d3:∀e,(Yg (gD N) e).take 3=cE (gD N):=fun _=>rfl;simp only[↓zP,zJ,seval,oL (d4 _),gn];refine bY ?_;simp only[↓zP,zJ,seval,oL (d4 _),d3,g3,gn,oL (aM (gD N))];refine⟨rfl,_,by simp only[↓zP,zR,seval,oL (aM (gD N))];rfl,?_⟩;rfl
theorem EH{α:Type}{f g:α->Bool}:∀{l:List α},(∀x∈l,f x=g x)->l.any f=l.any g
 |[],_=>rfl
 |x::l,h=>by rw[List.any_cons,List.any_cons,h x Bc,EH fun y hy=>h y (Aw _ hy)]
theorem te{l:List aD.V}{M B:Nat}(hl:∀v∈l,bL M v)(hlen:l.length<2^30){n:aD.V}{d:Int}(hq:bL B n)(hs:3*(B*M)<2^62)(H:aA):
 Sg 237 [.bC 0 3 (bK l),.agg (cE n),.int .i64 d] H (.ret (.bool (EC l (n,d)))) H:=by
 have RJ:Nat.blt 0 2=true:=rfl;refine So bCk (by simp only[sf,cF RJ,bV]) ?_ H;unfold aRe;dsimp only;refine Ty ?_;refine cP [7] (fun i vs H'=>H'=((⟨0,.nil⟩:aA).alloc (.cells (cE n) false))/\vs=[.bool ((l.take i).any fun v=>decide (aD.dot n v<d))]/\∀v∈l.take i,aD.dot n v<=d) 0 l.length (Bp _) A0 A1 ?_ ?_ ?_ ?_ ?_
 . exact zq
 . exact⟨rfl,by simp only[sm,zB,seval];rfl,fun v hv=>by simp at hv⟩
 . rintro i f H1 h0 hi hk e1 ⟨rfl,hv,hle⟩;have f0:f 0=.bC 0 3 (bK l):=hk 0 rfl;simp only[↓zP,zG,seval,e1,f0,aR];exact tB A0
 . rintro i f H1 h0 hi hk e1 ⟨rfl,hv,hle⟩;simp only[zM] at hv;have f0:f 0=.bC 0 3 (bK l):=hk 0 rfl;have f2:f 2=.int .i64 d:=hk 2 rfl;have f4:f 4=.ref 0 0:=hk 4 rfl;have hg:=cH hi;have hm:=Ah hi;have hd:=qN hq (hl _ hm) hs
   have NN:(l.take (i+1)).any (fun v=>decide (aD.dot n v<d))=((l.take i).any (fun v=>decide (aD.dot n v<d))||decide (aD.dot n l[i]<d)):=by rw[Ax,Jj];simp[hi]
   have hx:∀v,v∈l.take (i+1)->v∈l.take i\/v=l[i]:=fun v hv=>by
    exact Zaq
   have vQ:aD.dot n l[i]>d->EC l (n,d)=false:=fun h=>by
    unfold EC
    have :l.all (fun v=>decide (aD.dot n v<=d))=false:=by rw[Kd];exact⟨l[i],hm,by simp;omega⟩
    rw[this];rfl
   generalize (l.take i).any (fun v=>decide (aD.dot n v<d))=b at *;generalize l[i]=x at *;rw[NN];refine aP ?_;refine bX ?_;refine Dz ?_;simp only[↓zP,zJ,seval,zD,f0,f4,e1,aG,aR,hi,hg,oL (aM n),oL (aM x)];refine dM (hd _) ?_;simp only[↓zP,zJ,seval,zD];refine bY ?_;by_cases c:aD.dot n x>d
   . have c1:=Aj c;simp only[↓zP,zG,seval,f2,c1];refine Rx ?_;rw[vQ c];rfl
   have c1:=Ad c
   have ZD:∀v∈l.take (i+1),aD.dot n v<=d:=fun v hv=>by
    rcases hx v hv with h|rfl
    . exact hle v h
    omega
   cases b with
   |true=>simp only[↓zP,zJ,seval,f2,c1,hv,Bool.true_or];exact⟨trivial,trivial,ZD⟩
   |false=>simp only[↓zP,zJ,seval,f2,c1,hv,Bool.false_or];exact⟨trivial,trivial,ZD⟩
 rintro f H1 hk ⟨rfl,hv,hle⟩;simp only[zM] at hv;rw[Ay] at hv hle
 have :EC l (n,d)=l.any fun v=>decide (aD.dot n v<d):=by
  unfold EC
  have h1:l.all (fun v=>decide (aD.dot n v<=d))=true:=by rw[Bg];exact fun v hv=>Aj (hle v hv)
  rw[h1,Ct,List.not_all_eq_any_not];refine EH fun v hv=>?_;have :=hle v hv;rw[Di,Cs,Dr,Bf];show aD.dot n v≠d↔_;omega
 rw[this];simp only[↓zP,seval,hv];exact ZaB
theorem Wv(tag:Nat){l:List aD.V}{M B:Nat}(hl:∀v∈l,bL M v)(hlen:l.length<2^30){n:aD.V}{d:Int}(hq:bL B n)(hs:3*(B*M)<2^62)(H:aA):
 Sg 237 [.bC tag 3 (bK l),.agg (cE n),.int .i64 d] H (.ret (.bool (EC l (n,d)))) H:=(te hl hlen hq hs H).HE tag
def zX(L:aD.V×Int->List Nat)(S:List (aD.V×Int)):AV:=jH 5 (S.map (cL L))
theorem jC(L:aD.V×Int->List Nat)(S:List (aD.V×Int)):(S=[]/\zX L S=.bB)\/(S≠[]/\zX L S=.bC 0 5 (S.map (cL L))):=by
 unfold zX jH;by_cases h:S=[]
 . exact .inl ⟨h,by rw[if_pos (by simp[h])]⟩
 exact .inr ⟨h,by rw[if_neg Zay]⟩
theorem LO(L:aD.V×Int->List Nat)(S:List (aD.V×Int)):(zX L S).free=true:=tq (dN (qH L) S)
theorem tj(L:aD.V×Int->List Nat)(S:List (aD.V×Int))(hlen:S.length<2^30)(n:aD.V)(H:aA):
 Sg 236 [zX L S,.agg (cE n)] H (.ret (.bool (S.any fun q=>decide (q.1=n)))) H:=by
 refine So bCj (by simp only[sf,LO,bV]) ?_ H;unfold aRd;dsimp only;refine Ty ?_;refine cP [] (fun i vs H'=>H'=((⟨0,.nil⟩:aA).alloc (.cells (cE n) false))/\∀q∈S.take i,q.1≠n) 0 S.length (Bp _) A0 A1 ?_ ?_ ?_ ?_ ?_
 . exact zq
 . exact⟨rfl,fun v hv=>by simp at hv⟩
 . rintro i f H1 h0 hi hk e1 ⟨rfl,cG⟩;have f0:f 0=zX L S:=hk 0 rfl
   exact Zaw
 . rintro i f H1 h0 hi hk e1 ⟨rfl,cG⟩
   have f0:f 0=.bC 0 5 (S.map (cL L)):=by
    rw[hk 0 rfl];simp only[zB,seval,fO,Dk]
    rcases jC L S with ⟨h,e⟩|⟨h,e⟩
    . rw[h] at hi;exact absurd hi (Ar _)
    exact e
   have f3:f 3=.ref 0 0:=hk 3 rfl;have hg:(S.map (cL L)).getD i []=cL L S[i]:=fB hi;have d3:(cL L S[i]).take 3=cE S[i].1:=rfl;have d5:(cL L S[i]).length=5:=rfl;refine aP ?_;refine bX ?_;refine Dz ?_;simp only[↓zP,zJ,seval,zD,f0,f3,e1,aG,Ai,hi,hg,d3,d5,oL (aM n),nM];refine bY ?_;by_cases c:S[i].1=n
   . have c1:=Aj c;simp only[↓zP,zG,seval,c1];refine Rx ?_;have :S.any (fun q=>decide (q.1=n))=true:=Cv.2 ⟨S[i],Ah hi,c1⟩;rw[this];rfl
   have c1:=Ad c;simp only[↓zP,zG,seval,c1];refine⟨trivial,fun q hq=>?_⟩;rw[Ax,Aq] at hq
   rcases hq with h|h
   . exact cG q h
   simp[hi] at h;subst h;exact c
 rintro f H1 hk ⟨rfl,cG⟩;rw[Ay] at cG
 have :S.any (fun q=>decide (q.1=n))=false:=by rw[Gu];exact fun q hq=>by simpa using cG q hq
 rw[this];refine Tx ?_;exact ZaB
def uH(q:aD.V×Int):List (aD.V×Int)->List (aD.V×Int)
 |[]=>[q]
 |s::r=>if tZ q.1 s.1 then q::s::r else s::uH q r
theorem UD{q:aD.V×Int}:∀{S:List (aD.V×Int)} {i:Nat},(∀s∈S.take i,tZ q.1 s.1=false)->uH q S=S.take i++uH q (S.drop i)
 |[],i,_=>by simp
 |s::r,0,_=>by simp
 |s::r,i+1,h=>by have h1:=h s A2;have ih:=UD (q:=q) (S:=r) (i:=i) fun x hx=>h x (by simp[hx]);simp only[uH,h1,Ds,Ig,Ge];rw[<-ih];rfl
theorem PH(q:aD.V×Int):∀S:List (aD.V×Int),(uH q S).length=S.length+1
 |[]=>rfl
 |s::r=>by
  unfold uH;split
  . rfl
  rw[As,PH q r];rfl
theorem aAr(L:aD.V×Int->List Nat)(q:aD.V×Int):(cL L q).length=5:=rfl
theorem Zv(L:aD.V×Int->List Nat)(S:List (aD.V×Int))(hlen:S.length<2^20)(q:aD.V×Int)(H:aA):
 Sg 238 [zX L S,.agg (cL L q)] H (.ret (.bC (H.next+2) 5 ((uH q S).map (cL L)))) (H.alloc .tok):=by
 have cG:uH q S≠[]:=fun h=>by have :=PH q S;rw[h] at this;simp at this
 refine CV eC (by simp only[sf,LO,qH]) (by simpa using cG) (dN (qH L) _) ?_ H;refine eH fit bCl (Al rfl) ?_;unfold aRf;dsimp only;have q3:(cL L q).take 3=cE q.1:=rfl;have q5:=aAr L q;refine Ty ?_;refine cP [5,6] (fun i vs H'=>∃v X put,vs=[v,.bool put]/\H'.get 0=some (.cells (cL L q) false)/\1<=H'.next/\Own H' 5 v (X.map (cL L))/\X.length<=i+1/\(if put then X++S.drop i=uH q S else X=S.take i/\∀s∈S.take i,tZ q.1 s.1=false)) 0 S.length (Bp _) A0 A1 ?_ ?_ ?_ ?_ ?_
 . exact zq
 . exact⟨.bB,[],false,by simp only[sm,zB,seval],by simp only[zI,seval],by simp only[zI,seval],.nil _ _,by simp,by simp⟩
 . rintro i f H1 h0 hi hk e1 ⟨v,X,put,hv,g0,gn,ho,hX,hp⟩;have f0:f 0=zX L S:=hk 0 rfl
   exact Zaw
 . rintro i f H1 h0 hi hk e1 ⟨v,X,put,hv,g0,gn,ho,hX,hp⟩;simp only[zM] at hv
   have f0:f 0=.bC 0 5 (S.map (cL L)):=by
    rw[hk 0 rfl];simp only[zB,seval,fO,Dk]
    rcases jC L S with ⟨h,e⟩|⟨h,e⟩
    . rw[h] at hi;exact absurd hi (Ar _)
    exact e
   have f3:f 3=.ref 0 0:=hk 3 rfl;have hg:(S.map (cL L)).getD i []=cL L S[i]:=fB hi;have d3:(cL L S[i]).take 3=cE S[i].1:=rfl;have d5:(cL L S[i]).length=5:=rfl;have hls:=Sr q.1 S[i].1;have hdr:S.drop i=S[i]::S.drop (i+1):=Ef hi;have uA:S.take (i+1)=S.take i++[S[i]]:=(by rw[Ax];simp[hi]);rw[hdr] at hp;rw[uA]
   have hnp:(∀s∈S.take i,tZ q.1 s.1=false)->uH q S=S.take i++uH q (S[i]::S.drop (i+1)):=fun h=>by
    have :=UD h
    rwa [hdr] at this
   generalize S[i]=s at *;generalize hT:S.take i=T at *;generalize S.drop (i+1)=D at *
   have push:∀(HA:aA) (w:AV) (Y:List (aD.V×Int)) (x:aD.V×Int),Own HA 5 w (Y.map (cL L))->Y.length<2^21->HA.get 0=some (.cells (cL L q) false)->1<=HA.next->
    ∃H5,fZ HA 5 56 false w [cL L x]=some (.bC (HA.next+2) 5 ((Y++[x]).map (cL L)),H5)/\H5.get 0=some (.cells (cL L q) false)/\1<=H5.next/\Own H5 5 (.bC (HA.next+2) 5 ((Y++[x]).map (cL L))) ((Y++[x]).map (cL L)):=fun HA w Y x ho hY h0 h1=>by
    obtain⟨H5,z1,z2,z3,z4,z5⟩:=Has.push (.inr ho) (ys:=[cL L x]) (bytes:=56) rfl (by simp only[Ai,As,Bw];omega);refine⟨H5,by rw[z1,Cn];rfl,(z4 0 A0 (by rw[h0];simp)).trans h0,by omega,.inr ⟨HA.next,rfl,by omega,z3⟩⟩
   refine aP ?_;refine bX ?_;refine Dz ?_;simp only[↓zP,zJ,seval,zD,f0,f3,e1,g0,aG,Ai,hi,hg,d3,d5,q3,q5];refine dM (hls _) ?_;simp only[↓zP,zJ,seval,zD];refine bY ?_;refine aT fun K hK=>?_
   have key:∀(f':cW) (HA:aA) (w:AV) (Y:List (aD.V×Int)) (NT:Bool),f' 5=w->f' 6=.bool NT->f' 0=.bC 0 5 (S.map (cL L))->f' 7=.int .i64 i->HA.get 0=some (.cells (cL L q) false)->1<=HA.next->Own HA 5 w (Y.map (cL L))->Y.length<=i+1->
    (if NT then Y++s::D=uH q S else Y=T/\∀s'∈T++[s],tZ q.1 s'.1=false)->K f' [] HA:=by
    intro f' HA w Y NT v5 v6 v0 v7 h0 h1 hY hYl eU;apply hK;clear hK K;obtain⟨H5,z1,z2,z3,z4⟩:=push HA w Y s hY A0 h0 h1;simp only[↓zP,zJ,seval,v5,v0,v7,aG,Ai,hi,hg,d5,oL d5];rw[eL];simp only[z1,bQ,seval,v6];refine⟨_,Y++[s],NT,rfl,z2,z3,z4,by simp;omega,?_⟩
    cases NT with
    |true=>simp only[if_true] at eU ⊢;rw[<-eU];simp
    |false=>simp only[Au,Ca] at eU ⊢;rw[eU.1];exact⟨rfl,eU.2⟩
   clear hK
   cases put with
   |true=>simp only[if_true] at hp;simp only[↓zP,zJ,seval,hv];exact key _ H1 v X true (by simp only[zB,seval];exact hv.1) (by simp only[zB,seval];exact hv.2) (by simp only[zB,seval];exact f0) (by simp only[zB,seval];exact e1) g0 gn ho hX (by simpa using hp)
   |false=>
    simp only[Au,Ca] at hp;obtain⟨rfl,fL⟩:=hp
    cases hb:tZ q.1 s.1 with
    |false=>
     simp only[↓zP,zJ,seval,hv];refine key _ H1 v X false (by simp only[zB,seval];exact hv.1) (by simp only[zB,seval];exact hv.2) (by simp only[zB,seval];exact f0) (by simp only[zB,seval];exact e1) g0 gn ho hX ?_;simp only[Au,Ca];refine⟨trivial,fun s' BL=>?_⟩
     rcases Aq.1 BL with h|h
     . exact fL s' h
     rw[Cc] at h;subst h;exact hb
    |true=>obtain⟨H5,z1,z2,z3,z4⟩:=push H1 v X q ho A0 g0 gn;simp only[↓zP,zJ,seval,hv,f3,g0,q5,oL q5];rw[eL];simp only[z1,bQ,seval];have hXl:X.length=i:=(by rw[<-hT];simp;omega);refine key _ H5 _ (X++[q]) true zq zq (by simp only[zB,seval];exact f0) (by simp only[zB,seval];exact e1) z2 z3 z4 (by simp[hXl]) ?_;simp only[if_true];rw[hnp fL,uH,if_pos hb];simp
 rintro f H1 hk ⟨v,X,put,hv,g0,gn,ho,hX,hp⟩;simp only[zM] at hv;have f3:f 3=.ref 0 0:=hk 3 rfl
 cases put with
 |true=>simp only[if_true] at hp;rw[Ja,Cr] at hp;simp only[↓zP,zJ,seval,hv];refine Rx ?_;exact⟨v,rfl,hp▸ho⟩
 |false=>simp only[Au,Ca] at hp;obtain⟨rfl,fL⟩:=hp;obtain⟨H5,z1,z2,z3,z4,z5⟩:=Has.push (.inr ho) (ys:=[cL L q]) (bytes:=56) rfl (by simp only[Ai,As,Bw];omega);simp only[↓zP,zJ,seval,hv,f3,g0,q5,oL q5];rw[eL];simp only[z1,bQ,seval];refine Rx ?_;refine⟨_,rfl,?_⟩;rw[UD fL,Ja];rw[show S.take S.length++uH q []=S.take S.length++[q] from rfl,Cn];exact .inr ⟨H1.next,rfl,by omega,z3⟩
theorem sZ(b:Bool)(A B:Prop):fD aB b A B=B:=rfl
theorem XA(x:Int)(H:aA):Sg 336 [.int .i64 x] H (.ret (.int .i64 (vB x))) H:=by
 refine So bDy Zac ?_ H;unfold aSr;dsimp only;unfold vB;by_cases h:x<0
 . have d1:=Aj h;simp only[↓zP,zJ,Nat.reduceLT,Nat.reduceEqDiff,d1];refine Rx ?_;rw[if_pos h];rfl
 have d1:=Ad h;by_cases h2:x>0
 . have d2:=Aj h2;simp only[↓zP,zJ,Nat.reduceLT,Nat.reduceEqDiff,d1,d2];refine Rx ?_;rw[if_neg h,if_pos h2];rfl
 have d2:=Ad h2;simp only[↓zP,zJ,Nat.reduceLT,Nat.reduceEqDiff,d1,d2];refine Rx ?_;rw[if_neg h,if_neg h2];rfl
theorem aEe(n c:aD.V)(H:aA):Sg 311 [.agg (cE n),.agg (cE c)] H (.ret (.int .i64 (aD.sD n c))) H:=by
 refine So bDx Zah ?_ H;unfold aSq;dsimp only;simp only[↓zP,zJ,Nat.reduceLT,Nat.reduceEqDiff];refine cP [] (fun i vs H'=>H'=((⟨0,.nil⟩:aA).alloc (.cells (cE n) false)).alloc (.cells (cE c) false)/\∀k,k<i->n.at k=0) 0 3 A1 A1 A1 ?_ ?_ ?_ ?_ ?_
 . simp only[zB];rfl
 . exact⟨rfl,fun k hk=>absurd hk (Ar _)⟩
 . rintro i f H1 h0 hi hk e1 ⟨rfl,hz⟩;simp only[↓zP,zJ,Nat.reduceLT,e1];exact tB A0
 . rintro i f H1 h0 hi hk e1 ⟨rfl,hz⟩;have f2:f 2=.ref 0 0:=hk 2 rfl;have f3:f 3=.ref 1 0:=hk 3 rfl;have hi3:i+1<=3:=by omega
   refine aP ?_;by_cases hn:n.at i=0
   . have hb:(n.at i != 0)=false:=(by simp[hn]);simp only[↓zP,zJ,Nat.reduceLT,Nat.reduceEqDiff,e1,f2,aG,hi,aM,jL n hi,hi3,hb];refine⟨trivial,fun k hk=>?_⟩;by_cases hki:k=i
     . subst hki;exact hn
     exact hz k A0
   have hb:(n.at i != 0)=true:=by simp[hn]
   have w:IntKind.i64.wrap (vB (n.at i)*vB (c.at i))=vB (n.at i)*vB (c.at i):=fX (B:=1*1) (by rw[Ex];exact Ba (Ns _) (Ns _)) A1
   simp only[↓zP,zJ,Nat.reduceLT,Nat.reduceEqDiff,e1,f2,aG,hi,aM,jL n hi,hi3,hb];refine Dz ?_;simp only[↓zP,zJ,Nat.reduceLT,Nat.reduceEqDiff,Nat.reduceAdd,zD,reduceCtorEq,e1,f2,aG,hi,aM,jL n hi,hi3];refine dM (XA (n.at i) _) ?_;simp only[↓zP,zJ,Nat.reduceLT,Nat.reduceEqDiff,Nat.reduceAdd,zD,reduceCtorEq,e1,f3,aG,hi,aM,jL c hi,hi3];refine dM (XA (c.at i) _) ?_;simp only[↓zP,zJ,Nat.reduceLT,Nat.reduceEqDiff,Nat.reduceAdd,zD,reduceCtorEq,w];refine Rx ?_;rw[jw n c hi hz hn,Dy];rfl
 rintro f H1 hk ⟨rfl,hz⟩;simp only[↓zP];refine Rx ?_;rw[Sy n c hz];rfl
def okV(n a b x:aD.V):Bool:= !(decide (aD.sD n (aD.aU (aD.sub b a) (aD.sub x a))<0)||(decide (aD.sD n (aD.aU (aD.sub b a) (aD.sub x a))=0)&&(decide (aD.dot (aD.sub x a) (aD.sub b a)<0)||decide (aD.dot (aD.sub x a) (aD.sub b a)>aD.dot (aD.sub b a) (aD.sub b a)))))
def EV(l:List aD.V)(n:aD.V)(d:Int)(a b:aD.V):Bool:=l.all fun x=> !decide (aD.dot n x=d)||okV n a b x
theorem aXh{l:List aD.V}{M B:Nat}(hl:∀v∈l,bL M v)(hM:M<=2^18)(hlen:l.length<2^30){n a b:aD.V}{d:Int}(hq:bL B n)(hs:3*(B*M)<2^62)(ha:bL M a)(hb:bL M b)(H:aA):
 Sg 280 [.bC 0 3 (bK l),.agg (cE n),.int .i64 d,.agg (cE a),.agg (cE b)] H (.ret (.bool (EV l n d a b))) H:=by
 have RJ:Nat.blt 0 2=true:=rfl;have hw:=fW hb ha;have hMM:(M+M)*(M+M)<=2^19*2^19:=Ba A0 A0;have sw:=xR hb ha A0;have dww:=qN hw hw A0;refine So bDm (by simp only[sf,cF RJ,bV]) ?_ H;unfold aSg;dsimp only;refine bX ?_;simp only[↓zP,zJ,Nat.reduceLT,Nat.reduceEqDiff,Nat.reduceAdd];refine gG ?_;simp only[↓zP,zJ,Nat.reduceLT,Nat.reduceEqDiff,Nat.reduceAdd,oL (aM b),oL (aM a)];refine bO (sw _) ?_;simp only[↓zP,zJ,Nat.reduceLT,Nat.reduceEqDiff,Nat.reduceAdd,oL (aM (aD.sub b a))];refine bY ?_;have hMW:(M+M)*M<=2^19*2^18:=Ba A0 hM;generalize hwv:aD.sub b a=w at *;refine aT fun K hK=>?_;simp only[↓zP,zG,Nat.reduceLT];refine cP [] (fun i vs H'=>H'.get 0=some (.cells (cE n) false)/\H'.get 1=some (.cells (cE a) false)/\H'.get 3=some (.cells (cE w) false)/\4<=H'.next/\bM H'/\∀x∈l.take i,aD.dot n x=d->okV n a b x=true) 0 l.length (Bp _) A0 A1 ?_ ?_ ?_ ?_ ?_
 . simp only[zB];rfl
 . refine⟨by simp only[zI,Nat.reduceAdd,Nat.reduceEqDiff],by simp only[zI,Nat.reduceAdd,Nat.reduceEqDiff],by simp only[zI,Nat.reduceAdd,Nat.reduceEqDiff],by simp only[zI,Nat.reduceAdd,Nat.reduceLeDiff],?_,fun v hv=>by simp at hv⟩;exact((((((bM.nil 0).alloc _).alloc _).alloc _).alloc _).set A2 _)
 . rintro i f H1 h0 hi hk e1 ⟨g0,g1,g3,gn,hf,fL⟩;have f0:f 0=.bC 0 3 (bK l):=hk 0 rfl;simp only[↓zP,zJ,Nat.reduceLT,Nat.reduceEqDiff,e1,f0,aR];exact tB A0
 . rintro i f H1 h0 hi hk e1 ⟨g0,g1,g3,gn,hf,fL⟩;have f0:f 0=.bC 0 3 (bK l):=hk 0 rfl;have f2:f 2=.int .i64 d:=hk 2 rfl;have f6:f 6=.ref 0 0:=hk 6 rfl;have f8:f 8=.ref 1 0:=hk 8 rfl;have f11:f 11=.ref 3 0:=hk 11 rfl;have hg:=cH hi;have hm:=Ah hi;have hx:=hl _ hm
   have uA:∀v,v∈l.take (i+1)->v∈l.take i\/v=l[i]:=fun v hv=>by
    exact Zaq
   have aTy:aD.dot n l[i]=d->okV n a b l[i]=false->EV l n d a b=false:=fun h1 h2=>by unfold EV;rw[Kd];exact⟨l[i],hm,by simp[h1,h2]⟩
   generalize l[i]=x at *;have hd:=qN hq hx hs
   have aMk:(aD.dot n x=d->okV n a b x=true)->∀v∈l.take (i+1),aD.dot n v=d->okV n a b v=true:=fun h v hv=>by
    rcases uA v hv with h1|rfl
    . exact fL v h1
    exact h
   refine aP ?_;refine aT fun K2 dL=>?_;refine bX ?_;refine Dz ?_;simp only[↓zP,zJ,Nat.reduceLT,Nat.reduceEqDiff,Nat.reduceAdd,zD,reduceCtorEq,f0,f6,e1,g0,aG,aR,hi,hg,oL (aM n),oL (aM x)];refine dM (hd _) ?_;simp only[↓zP,zJ,Nat.reduceLT,Nat.reduceEqDiff,Nat.reduceAdd,zD,reduceCtorEq,f2];refine bY ?_;by_cases hc:aD.dot n x=d
   . have rP:(aD.dot n x != d)=false:=(by simp[hc]);have ht:=fW hx ha;have st:=xR hx ha A0;have cr:=Mw hw ht A0;have lf:=aEe n (aD.aU w (aD.sub x a));have dtw:=qN ht hw A0
     have aIt:okV n a b x= !(decide (aD.sD n (aD.aU w (aD.sub x a))<0)||(decide (aD.sD n (aD.aU w (aD.sub x a))=0)&&(decide (aD.dot (aD.sub x a) w<0)||decide (aD.dot (aD.sub x a) w>aD.dot w w)))):=by unfold okV;rw[hwv]
     simp only[↓zP,zG,rP];apply dL;clear dL K2;refine bX ?_;refine gZ 1 A1 hf.at1 fun H2 n2 e2=>?_;have q1:=(e2 1).trans g1;simp only[↓zP,zJ,Nat.reduceLT,Nat.reduceEqDiff,Nat.reduceAdd,zD,reduceCtorEq,f0,f8,e1,q1,aG,aR,hi,hg,oL (aM x),oL (aM a)];refine dM (st _) ?_;generalize hto:aD.sub x a=t at *;simp only[↓zP,zJ,Nat.reduceLT,Nat.reduceEqDiff,Nat.reduceAdd,zD,oL (aM t)];generalize hX:(H2.set H1.next _).set H1.next _=H3;have y0:H3.get 0=some (.cells (cE n) false):=(by subst hX;rw[aA.aC,if_neg A0,aA.aC,if_neg A0,e2];exact g0);have y1:H3.get 1=some (.cells (cE a) false):=(by subst hX;rw[aA.aC,if_neg A0,aA.aC,if_neg A0,e2];exact g1);have y3:H3.get 3=some (.cells (cE w) false):=(by subst hX;rw[aA.aC,if_neg A0,aA.aC,if_neg A0,e2];exact g3);have yr:H3.get H1.next=some (.cells (cE t) false):=Zag;have yn:4<=H3.next:=by subst hX;simp only[aA.bA];omega
     have yf:bM H3:=fun j hj=>by subst hX;simp only[aA.bA] at hj;rw[aA.aC,if_neg A0,aA.aC,if_neg A0,e2];exact hf j A0
     clear hX;refine gG ?_;refine Dz ?_;simp only[↓zP,zJ,Nat.reduceLT,Nat.reduceEqDiff,Nat.reduceAdd,zD,reduceCtorEq,f6,f11,y0,y3,yr,oL (aM n),oL (aM w),oL (aM t)];refine dM (cr _) ?_;generalize aD.aU w t=cw at *;simp only[Nat.reduceAdd];refine dM (lf _) ?_;generalize aD.sD n cw=tn at *;simp only[↓zP,zJ,Nat.reduceLT,Nat.reduceEqDiff,Nat.reduceAdd,zD,reduceCtorEq];refine bY ?_;refine aT fun K2 dL=>?_;refine Dz ?_
     have fin:∀(f':cW) (r:Bool),f' 63=.bool (!r)->okV n a b x=r->K2 f' [] H3:=by
      intro f' r v63 hr;apply dL;clear dL K2
      cases r with
      |true=>simp only[↓zP,zJ,v63];exact⟨y0,y1,y3,yn,yf,aMk fun _=>hr⟩
      |false=>simp only[↓zP,zJ,Nat.reduceLT,v63];refine Rx ?_;rw[aTy hc hr];rfl
     clear dL;by_cases c1:tn<0
     . have d1:=Aj c1;simp only[↓zP,zJ,Nat.reduceLT,Nat.reduceEqDiff,Nat.reduceAdd,zD,reduceCtorEq,d1,sZ];exact fin _ false (by simp only[zB];rfl) (by rw[aIt,d1];rfl)
     have d1:=Ad c1;by_cases c2:tn=0
     . have d2:(tn==0)=true:=(by simp[c2]);have d2':decide (tn=0)=true:=Aj c2;simp only[↓zP,zJ,Nat.reduceLT,Nat.reduceEqDiff,Nat.reduceAdd,zD,reduceCtorEq,d1,d2,f11,y3,yr,oL (aM w),oL (aM t)];refine dM (dtw _) ?_;by_cases c3:aD.dot t w<0
       . have d3:=Aj c3;simp only[↓zP,zJ,Nat.reduceLT,Nat.reduceEqDiff,Nat.reduceAdd,zD,reduceCtorEq,d3];exact fin _ false (by simp only[zB];rfl) (by rw[aIt,d1,d2',d3];rfl)
       have d3:=Ad c3;simp only[↓zP,zJ,Nat.reduceLT,Nat.reduceEqDiff,Nat.reduceAdd,zD,reduceCtorEq,d3,f11,y3,yr,oL (aM w),oL (aM t)];refine dM (dtw _) ?_;simp only[↓zP,zJ,Nat.reduceLT,Nat.reduceEqDiff,Nat.reduceAdd,zD,f11,y3,oL (aM w)];refine dM (dww _) ?_;simp only[↓zP,zJ,Nat.reduceLT,Nat.reduceEqDiff,Nat.reduceAdd,zD,reduceCtorEq];exact fin _ (!decide (aD.dot t w>aD.dot w w)) (by simp only[zB,Bool.not_not]) (by rw[aIt,d1,d2',d3];rfl)
     have d2:(tn==0)=false:=(by simp[c2]);have d2':decide (tn=0)=false:=Ad c2;simp only[↓zP,zJ,Nat.reduceLT,Nat.reduceEqDiff,Nat.reduceAdd,zD,reduceCtorEq,d1,d2,sZ];exact fin _ true (by simp only[zB];rfl) (by rw[aIt,d1,d2'];rfl)
   have rP:(aD.dot n x != d)=true:=(by simp[hc]);simp only[↓zP,zG,rP];exact⟨g0,g1,g3,gn,hf,aMk fun h=>absurd h hc⟩
 rintro f H1 hk ⟨g0,g1,g3,gn,hf,fL⟩;rw[Ay] at fL
 have :EV l n d a b=true:=by
  unfold EV;rw[Bg];intro x hx;by_cases h:aD.dot n x=d
  . simp[fL x hx h]
  simp[h]
 show K f [] H1;apply hK;simp only[↓zP,zG,Nat.reduceLT];refine Rx ?_;rw[this];rfl
theorem aEh(tag:Nat){l:List aD.V}{M B:Nat}(hl:∀v∈l,bL M v)(hM:M<=2^18)(hlen:l.length<2^30){n a b:aD.V}{d:Int}(hq:bL B n)(hs:3*(B*M)<2^62)(ha:bL M a)(hb:bL M b)(H:aA):
 Sg 280 [.bC tag 3 (bK l),.agg (cE n),.int .i64 d,.agg (cE a),.agg (cE b)] H (.ret (.bool (EV l n d a b))) H:=(aXh hl hM hlen hq hs ha hb H).HE tag
theorem lg{α:Type}(f:α->Bool)(z:α):∀l:List α,l.all f=(List.range l.length).all fun k=>f (l.getD k z):=fun l=>by
 rw[Di,Bg,Bg];constructor
 . intro h k hk;have hk:=Az.1 hk;have :l.getD k z=l[k]:=by simp[List.getD,hk]
   rw[this];exact h _ (Ah hk)
 intro h x hx;obtain⟨k,hk,rfl⟩:=Dt hx;have :=h k (Az.2 hk)
 rwa [show l.getD k z=l[k] by simp[List.getD,hk]] at this
theorem aLi{l:List aD.V}{n:aD.V}{d:Int}(a b:Nat):EV l n d (l.getD a V0) (l.getD b V0)=ND n (fun i=>l.getD i V0) (gC (fun i=>l.getD i V0) l.length n d) a b:=by unfold EV ND gC;rw[List.all_filter,lg _ V0];rfl
theorem Yq{on:List Nat}(hs:on.Pairwise (· < ·)){p:Nat->Bool}{b:Nat}(h:on.find? p=some b):b∈on/\p b=true/\∀k∈on,k<b->p k=false:=by
 obtain⟨h1,xs,bs,rfl,h2⟩:=List.find?_eq_some_iff_append.1 h;refine⟨by simp,h1,fun k hk hkb=>?_⟩
 rcases Aq.1 hk with hk|hk
 . simpa using h2 k hk
 rcases Am.1 hk with rfl|hk
 . omega
 rw[List.pairwise_append] at hs;have :=(Co.1 hs.2.1).1 k hk;omega
theorem tt{l:List aD.V}{M B:Nat}(hl:∀v∈l,bL M v)(hM:M<=2^18)(hlen:l.length<=64){n:aD.V}{d:Int}(hq:bL B n)(hs:3*(B*M)<2^62)
 {L:List Nat} (hP:Poly (fun i=>l.getD i V0) l.length n d L) (H:aA):
 Sg 239 [.bC 0 3 (bK l),.agg (cE n),.int .i64 d] H (.ret (.bC 0 1 (vS L))) H:=by
 have RJ:Nat.blt 0 2=true:=rfl;refine eS fit eC bCm (Al rfl) (by simp only[sf,cF RJ,bV]) ?_ H;have hPn:=fun k (hk:k∈L)=>hP.Se hk;obtain⟨s0,r,m,Xo,W,hL⟩:=hP.ex
 have vP:∀i,i<m->iter (sH n (fun i=>l.getD i V0) (gC (fun i=>l.getD i V0) l.length n d)) i s0∈L:=fun i hi=>by rw[hL];exact Bm.2 ⟨i,Az.2 hi,rfl⟩
 have Tt:=Po (fun i=>l.getD i V0) l.length n d
 have bMc:m<=l.length:=by have h1:=W.le;have h2:=Db (fun k=>decide (aD.dot n (l.getD k V0)=d)) (List.range l.length);rw[Bu] at h2;exact By h1 h2
 unfold aRg;dsimp only;have cS:∀k (h:k<l.length),l.getD k V0=l[k]:=fun k h=>by simp[List.getD,h]
 have hs0:s0<l.length/\aD.dot n (l.getD s0 V0)=d:=bU.1 (show s0∈gC (fun i=>l.getD i V0) l.length n d by rw[Xo];simp)
 have aIm:∀k,k<s0->k<l.length->aD.dot n (l.getD k V0)≠d:=fun k h1 h2 h3=>by
  have :k∈gC (fun i=>l.getD i V0) l.length n d:=bU.2 ⟨h2,h3⟩;rw[Xo] at this Tt
  rcases Am.1 this with h|h
  . omega
  have :=(Co.1 Tt).1 k h;omega
 refine bX ?_;refine Ty ?_;refine gG ?_;refine Tz ?_;refine gG ?_;refine Tz ?_;refine bY ?_;refine aT fun K hK=>?_;refine Tz ?_;refine cP [8] (fun i vs H'=>H'=((⟨0,.nil⟩:aA).alloc (.cells (cE n) false))/\vs=[.int .i64 (if i<=s0 then -1 else(s0:Int))]) 0 (s0+1) (Bp _) A0 A1 ?_ ?_ ?_ ?_ ?_
 . exact zq
 . exact⟨rfl,by simp only[sm,zB,seval];rw[if_pos (Bp _)]⟩
 . rintro i f H1 h0 hi hk e1 ⟨rfl,hv⟩;simp only[zM] at hv;have f0:f 0=.bC 0 3 (bK l):=hk 0 rfl;have d1:decide ((i:Int)<(l.length:Int))=decide (i<l.length):=by rw[Bk];omega
   by_cases h1:i<=s0
   . rw[if_pos h1] at hv;have Xd:decide ((i:Int)<(l.length:Int))=true:=Aj A0;have d2:decide ((-1:Int)<0)=true:=rfl;simp only[↓zP,zG,seval,e1,f0,aR,Xd,hv];exact⟨trivial,trivial,Ao AV.bool (Aj A0).symm⟩
   rw[if_neg h1] at hv;have d2:decide ((s0:Int)<0)=false:=Ad A0;by_cases hx:i<l.length
   . have Xd:decide ((i:Int)<(l.length:Int))=true:=Aj A0;simp only[↓zP,zG,seval,e1,f0,aR,Xd,hv,d2];exact Za8
   have Xd:decide ((i:Int)<(l.length:Int))=false:=Ad A0;simp only[↓zP,zG,seval,e1,f0,aR,Xd];exact Za8
 . rintro i f H1 h0 hi hk e1 ⟨rfl,hv⟩;simp only[zM] at hv;have f0:f 0=.bC 0 3 (bK l):=hk 0 rfl;have f2:f 2=.int .i64 d:=hk 2 rfl;have f4:f 4=.ref 0 0:=hk 4 rfl;have HH:i<l.length:=by omega
   have hg:=cH HH;have hd:=qN hq (hl _ (Ah HH)) hs;have hbi:=aIm i;rw[cS i HH] at hbi;have hsi:i=s0->aD.dot n l[i]=d:=fun h=>by rw[<-cS i HH,h];exact hs0.2
   generalize l[i]=x at *;refine aP ?_;refine bX ?_;refine Dz ?_;simp only[↓zP,zJ,seval,zD,f0,f4,e1,aG,aR,HH,hg,oL (aM n),oL (aM x)];refine dM (hd _) ?_;simp only[↓zP,zJ,seval,zD,f2];refine bY ?_;by_cases hc:i=s0
   . have rP:(aD.dot n x==d)=true:=(by simp[hsi hc]);simp only[↓zP,zJ,seval,rP,e1];exact⟨trivial,by rw[if_neg A0,hc]⟩
   have rP:(aD.dot n x==d)=false:=(by simp[hbi A0 HH]);simp only[↓zP,zJ,seval,rP,hv];exact⟨trivial,by rw[if_pos A0,if_pos A0]⟩
 rintro f H1 hk ⟨rfl,hv⟩;simp only[zM] at hv;rw[if_neg A0] at hv;have f0:f 0=.bC 0 3 (bK l):=hk 0 rfl;have fd2:f 2=.int .i64 d:=hk 2 rfl;have f4:f 4=.ref 0 0:=hk 4 rfl;have f7:f 7=.bB:=hk 7 rfl;show K f [] _;apply hK;clear hK K;refine bX ?_;simp only[↓zP,zG,seval,hv];refine bY ?_;refine aT fun K hK=>?_;generalize WB:gC (fun i=>l.getD i V0) l.length n d=on at *;generalize aBk:iter (sH n (fun i=>l.getD i V0) on)=it at *
 have dT:∀k∈on,k<l.length:=fun k hk=>by rw[<-WB] at hk;exact(bU.1 hk).1
 refine aP ?_;refine iA [7,8] (fun M' vs H'=>∃i,i<m/\M'=m -i/\∃v,vs=[v,.int .i64 (it i s0:Nat)]/\H'.get 0=some (.cells (cE n) false)/\1<=H'.next/\Own H' 1 v (vS ((List.range i).map fun i=>it i s0))) m (by rfl) ?_ ?_
 . exact⟨0,W.pos,rfl,.bB,by simp only[sm,zB,seval,f7,hv];rw[<-aBk];rfl,by simp only[zI,seval],by simp only[zI,seval],.nil _ _⟩
 rintro M' f2 H2 eW ⟨i,hi,rfl,v,qK,g0,gn,ho⟩;simp only[zM] at qK;obtain⟨v7,v8⟩:=qK;have k0:f2 0=.bC 0 3 (bK l):=by rw[eW 0 rfl];simp only[zB,seval];exact f0
 have k2:f2 2=.int .i64 d:=by rw[eW 2 rfl];simp only[zB,seval];exact fd2
 have k4:f2 4=.ref 0 0:=by rw[eW 4 rfl];simp only[zB,seval];exact f4
 have k10:f2 10=.int .i64 s0:=eW 10 rfl;have hle:i<=l.length:=by omega
 have d1:decide ((i:Int)<=(l.length:Int))=true:=Aj A0;have HH:((List.range i).map fun i=>it i s0).length=i:=by simp
 refine aT fun K2 dL=>?_
 have key:∀f':cW,f' 0=.bC 0 3 (bK l)->f' 2=.int .i64 d->f' 4=.ref 0 0->f' 10=.int .i64 s0->f' 7=v->f' 8=.int .i64 (it i s0:Nat)->K2 f' [] H2:=by
  intro f3 w0 w2 w4 w10 w7 w8;apply dL;clear dL K2;obtain⟨hoa,hSa⟩:=W.side i;have Tp:=hSa.1;rw[aBk] at hoa Tp;have BK:sH n (fun i=>l.getD i V0) on (it i s0)=it (i+1) s0:=by rw[<-aBk];rfl
  have Mh:=hPn _ (vP i hi);rw[BK] at Mh;unfold aD.Se at Mh;obtain⟨_,hp1,hp2⟩:=Yq Tt Mh;have hal:=dT _ hoa;have Vy:=dT _ Tp;have ou:aD.dot n (l.getD (it (i+1) s0) V0)=d:=by rw[<-WB] at Tp;exact(bU.1 Tp).2
  have bIh:∀k,k<l.length->aD.dot n (l.getD k V0)=d->k∈on:=fun k h1 h2=>by rw[<-WB];exact bU.2 ⟨h1,h2⟩
  have SG:i+1=m->it (i+1) s0=s0:=fun h=>by rw[h,<-aBk];exact W.back
  have bHs:i+1<m->it (i+1) s0≠s0:=fun h=>by rw[<-aBk];exact W.first (i+1) A0 h
  have hrs:(List.range (i+1)).map (fun i=>it i s0)=(List.range i).map (fun i=>it i s0)++[it i s0]:=by rw[Ei,Cn];rfl
  generalize ha:it i s0=a at *;generalize hb:it (i+1) s0=b at *;generalize hX:(List.range i).map (fun i=>it i s0)=X at *;obtain⟨H5,z1,z2,z3,z4,z5⟩:=Has.push (.inr ho) (ys:=[[AV.int .i64 (a:Nat)]]) (bytes:=8) rfl (by rw[dD,HH,As,Bw];omega);have y0:=(z4 0 A0 (by rw[g0];simp)).trans g0;have yo:Own H5 1 (.bC (H2.next+2) 1 (vS (X++[a]))) (vS (X++[a])):=.inr ⟨H2.next,rfl,by omega,z3⟩;have hna:=hl _ (Ah hal);refine aP ?_;refine bX ?_;simp only[↓zP,zJ,seval,w7,w8];rw[eL];simp only[z1,bQ,seval];refine bY ?_;rw[show vS X++[[AV.int .i64 (a:Int)]]=vS (X++[a]) from by simp[vS]];refine bX ?_;refine Tz ?_;refine bY ?_;refine aT fun K2 dL=>?_;refine Ty ?_;refine cP [11] (fun k vs H'=>H'=H5/\vs=[.int .i64 (if k<=b then -1 else(b:Int))]) 0 (b+1) (Bp _) A0 A1 ?_ ?_ ?_ ?_ ?_
  . exact zq
  . exact⟨rfl,by simp only[sm,zB,seval];rw[if_pos (Bp _)]⟩
  . rintro k f5 H6 h0 hkb WA e5 ⟨rfl,Xs⟩;simp only[zM] at Xs;have u0:f5 0=.bC 0 3 (bK l):=by rw[WA 0 rfl];simp only[zB,seval];exact w0
    by_cases h1:k<=b
    . rw[if_pos h1] at Xs;have Xd:decide ((k:Int)<(l.length:Int))=true:=Aj A0;have d2:decide ((-1:Int)<0)=true:=rfl;simp only[↓zP,zG,seval,e5,u0,aR,Xd,Xs];exact⟨trivial,trivial,Ao AV.bool (Aj A0).symm⟩
    rw[if_neg h1] at Xs;have d2:decide ((b:Int)<0)=false:=Ad A0;by_cases hx:k<l.length
    . have Xd:decide ((k:Int)<(l.length:Int))=true:=Aj A0;simp only[↓zP,zG,seval,e5,u0,aR,Xd,Xs,d2];exact Za8
    have Xd:decide ((k:Int)<(l.length:Int))=false:=Ad A0;simp only[↓zP,zG,seval,e5,u0,aR,Xd];exact Za8
  . rintro k f5 H6 h0 hkb WA e5 ⟨rfl,Xs⟩;simp only[zM] at Xs;have u0:f5 0=.bC 0 3 (bK l):=by rw[WA 0 rfl];simp only[zB,seval];exact w0
    have u2:f5 2=.int .i64 d:=(by rw[WA 2 rfl];simp only[zB,seval];exact w2);have u4:f5 4=.ref 0 0:=(by rw[WA 4 rfl];simp only[zB,seval];exact w4);have u8:f5 8=.int .i64 (a:Nat):=(by rw[WA 8 rfl];simp only[zB,seval];exact w8);have AB:k<l.length:=A0;have ff:=cH AB;have hga:=cH hal;have hnk:=hl _ (Ah AB);have hd:=qN hq hnk hs;have Oz:=aEh 0 hl hM A0 hq hs (d:=d) hna hnk;rw[if_pos (show k<=b by omega)] at Xs
    have hpk:(decide (k≠a)&&ND n (fun i=>l.getD i V0) on a k)=decide (k=b)\/k∉on:=by
     by_cases Us:k∈on
     . left;by_cases o6:k=b
       . subst o6;rw[hp1];simp
       rw[hp2 k Us A0];simp[o6]
     exact .inr Us
    have hVR:EV l n d l[a] l[k]=ND n (fun i=>l.getD i V0) on a k:=by rw[<-cS a hal,<-cS k AB,aLi,WB]
    have hdk:aD.dot n l[k]=d->k∈on:=fun h=>bIh k AB (by rw[cS k AB];exact h);have bHm:k∈on->aD.dot n l[k]=d:=fun h=>by rw[<-WB] at h;have :=(bU.1 h).2;rwa [cS k AB] at this
    generalize l[k]=x at *;generalize l[a]=y at *;refine aP ?_;refine aT fun K3 BH=>?_;refine Dz ?_
    have no:∀f6:cW,f6 65=.bool false->f6 11=.int .i64 (-1)->k≠b->K3 f6 [] H6:=by intro f6 v65 v11 aIn;apply BH;simp only[↓zP,zJ,seval,v65];exact⟨trivial,by rw[v11,if_pos (show k+1<=b by omega)]⟩
    by_cases Mj:k=a
    . have rP:(((k:Nat):Int) != ((a:Nat):Int))=false:=by rw[Mj];simp
      have aIn:k≠b:=fun h=>by rw[<-h,Mj] at hp1;simp at hp1
      simp only[↓zP,zJ,seval,zD,e5,u8,rP];exact no _ zq (by simp only[zB,seval];exact Xs) aIn
    have rP:(((k:Nat):Int) != ((a:Nat):Int))=true:=(by rw[Gw];omega);simp only[↓zP,zJ,seval,zD,e5,u0,u4,u8,y0,rP,aG,aR,AB,ff,oL (aM n),oL (aM x)];refine dM (hd _) ?_;simp only[↓zP,zJ,seval,zD,u2];by_cases ey:aD.dot n x=d
    . have wV:(aD.dot n x==d)=true:=(by simp[ey]);have Us:=hdk ey
      have bIu:EV l n d y x=decide (k=b):=by
       rcases hpk with h|h
       . rw[hVR];simpa [Mj] using h
       exact absurd Us h
      rw[wV];apply BH;clear BH K3 no;refine HN true zq (fun _=>?_) (fun h=>by cases h);refine bX ?_;refine Dz ?_;simp only[↓zP,zJ,seval,zD,e5,u0,u2,u4,u8,y0,aG,aR,AB,hal,ff,hga,oL (aM n),oL (aM x),oL (aM y)];refine dM (Oz _) ?_;rw[bIu];simp only[↓zP,zJ,seval,zD];refine bY ?_;by_cases o6:k=b
      . have d3:=Aj o6;simp only[↓zP,zJ,seval,d3,e5];exact⟨trivial,by rw[if_neg A0,o6]⟩
      have d3:=Ad o6;simp only[↓zP,zJ,seval,d3,Xs];exact⟨trivial,by rw[if_pos (show k+1<=b by omega)]⟩
    have wV:(aD.dot n x==d)=false:=(by simp[ey]);have aIn:k≠b:=fun h=>ey (bHm (by rw[h];exact Tp));rw[wV];exact no _ zq (by simp only[zB,seval];exact Xs) aIn
  rintro f5 H6 WA ⟨rfl,Xs⟩;simp only[zM] at Xs;rw[if_neg A0] at Xs;have u10:f5 10=.int .i64 s0:=by rw[WA 10 rfl];simp only[zB,seval];exact w10
  have u7:f5 7=.bC (H2.next+2) 1 (vS (X++[a])):=WA 7 rfl;show K2 f5 [] _;apply dL;clear dL K2;by_cases him:i+1=m
  . have wV:(((b:Nat):Int)==((s0:Nat):Int))=true:=by rw[SG him];simp
    simp only[↓zP,zG,seval,Xs,u10,wV];apply hK;clear hK K;simp only[↓zP,zG,seval,u7];refine Rx ?_;have hLe:L=X++[a]:=(by rw[hL,<-him];exact hrs);refine⟨.bC (H2.next+2) 1 (vS (X++[a])),0,rfl,fun nw=>?_⟩;rw[hLe];have yB:=FY (X++[a]);simp[gT,kT,yB,ED]
  have wV:(((b:Nat):Int)==((s0:Nat):Int))=false:=by have :=bHs A0;rw[Dr];omega
  have d3:decide (((b:Nat):Int)<0)=false:=Ad A0;simp only[↓zP,zJ,seval,Xs,u10,wV,d3];exact⟨m -(i+1),by omega,i+1,by omega,rfl,_,by rw[u7,hb],y0,by omega,by rw[hrs];exact yo⟩
 rcases ho with ⟨e1,e2⟩|⟨k,e1,e2,e3⟩
 . have hi0:i=0:=by
    have :=Ao List.length e2;rw[dD,HH] at this;simpa using this
   subst hi0;rw[e1] at v7;have Xd:decide ((0:Int)<=(l.length:Int))=true:=Aj A0;simp only[↓zP,zG,seval,v7,k0,aR];refine⟨fun _=>?_,fun h=>absurd (Int.natCast_nonneg _) h⟩;refine key _ ?_ ?_ ?_ ?_ ?_ ?_
   . simp only[zB,seval];exact k0
   . simp only[zB,seval];exact k2
   . simp only[zB,seval];exact k4
   . simp only[zB,seval];exact k10
   . simp only[zB,seval];rw[v7,e1]
   simp only[zB,seval];exact v8
 rw[e1] at v7;simp only[↓zP,zG,seval,v7,k0,aR,dD,HH,d1];refine key _ ?_ ?_ ?_ ?_ ?_ ?_
 . simp only[zB,seval];exact k0
 . simp only[zB,seval];exact k2
 . simp only[zB,seval];exact k4
 . simp only[zB,seval];exact k10
 . simp only[zB,seval];rw[v7,e1]
 simp only[zB,seval];exact v8
theorem Wz(tag:Nat){l:List aD.V}{M B:Nat}(hl:∀v∈l,bL M v)(hM:M<=2^18)(hlen:l.length<=64){n:aD.V}{d:Int}(hq:bL B n)(hs:3*(B*M)<2^62)
 {L:List Nat} (hP:Poly (fun i=>l.getD i V0) l.length n d L) (H:aA):
 Sg 239 [.bC tag 3 (bK l),.agg (cE n),.int .i64 d] H (.ret (.bC 0 1 (vS L))) H:=(tt hl hM hlen hq hs hP H).HE tag
end Go.Proofs.YtogfcjbgeebfkaaGreatDoor
