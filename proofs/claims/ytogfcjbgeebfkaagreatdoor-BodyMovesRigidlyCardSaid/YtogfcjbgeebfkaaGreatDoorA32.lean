/-
  Part of the proof of statement 9
-/
import Derived.Test.YtogfcjbgeebfkaaGreatDoorA30
import Derived.Test.YtogfcjbgeebfkaaGreatDoorA31
import Derived.Test.YtogfcjbgeebfkaaGreatDoorA17
import Derived.Test.YtogfcjbgeebfkaaGreatDoorA15
set_option linter.unusedSimpArgs false
set_option linter.unusedVariables false
set_option maxRecDepth 100000
set_option maxHeartbeats 16000000
namespace Go.Proofs.YtogfcjbgeebfkaaGreatDoor
open Go Go.Av Go.aC Go.jG
attribute [local congr] aX aQ aR aL bA aW aS aG bB
attribute [local irreducible] FC bT eI
variable{a b:aC.V}{B:Nat}
theorem sG{A:Nat}(I:bN A a)(X:bN B b)(c:3*(A*B)<2^62)(H:aA):Sg 235 [.agg (cG a),.agg (cG b)] H (.ret (.int .i64 (aC.dot a b))) H:=by
 obtain⟨a1,Q,s⟩:=I;obtain⟨R,L,k⟩:=X;have C:=bZ a1 R;have Y:=bZ Q L;have K:=bZ s k;have w1:=gW C A0;have w2:=gW Y A0;have G:=gW K A0;have t:IntKind.i64.wrap (a.x*b.x+a.y*b.y)=a.x*b.x+a.y*b.y:=gW (B:=2*(A*B)) A0 A0;have M:IntKind.i64.wrap (a.x*b.x+a.y*b.y+a.z*b.z)=a.x*b.x+a.y*b.y+a.z*b.z:=gW (B:=3*(A*B)) A0 A0;refine So bIz Zae ?_ H;unfold aWu;dsimp only;simp only[↓zP,zJ,Nat.reduceLT,Nat.reduceEqDiff,Nat.reduceAdd,Nat.reduceLeDiff,cG,AR,w1,w2,G,t,M]
 (refine Rx ?_;rfl)
theorem OQ{A:Nat}(I:bN A a)(X:bN B b)(M:A*B<2^61)(H:aA):Sg 216 [.agg (cG a),.agg (cG b)] H (.ret (.agg (cG (aC.aY a b)))) H:=by
 obtain⟨a1,Q,s⟩:=I;obtain⟨R,L,k⟩:=X;have w1:=gW (bZ Q k) A0;have w2:=gW (bZ s L) A0;have G:=gW (bZ s R) A0;have t:=gW (bZ a1 k) A0;have d:=gW (bZ a1 L) A0;have p:=gW (bZ Q R) A0;have c:=TJ (bZ Q k) (bZ s L) M;have z:=TJ (bZ s R) (bZ a1 k) M;have e:=TJ (bZ a1 L) (bZ Q R) M;refine Sp bIp Zae Zae ?_ H;unfold aWk;dsimp only;simp only[zJ,Nat.reduceLT,Nat.reduceEqDiff,Nat.reduceAdd,Nat.reduceLeDiff,cG,AR,w1,w2,G,t,d,p,c,z,e]
 (refine Rx ?_;rfl)
def gF(v:aC.V):Nat->Nat
 |0=>0
 |i+1=>Int.gcd (gF v i) (v.at i)
theorem bEr(v:aC.V):gF v 3=fZ v:=by grind[Rl,gF,V.at,Int.gcd,Int.natAbs_natCast,Nat.gcd_zero_left]
theorem aFc{v:aC.V}{B:Nat}(h:bN B v):∀i,gF v i<=B
 |0=>Bk _
 |i+1=>Xg (a:=(gF v i:Int)) (by exact aFc h i) (bN.c h i)
variable{v:aC.V}
theorem aBt:fZ v=0↔v=V0:=by
 constructor
 . intro h;refine Fc fun R=>?_;have :=tT R;omega
 rintro rfl;rfl
theorem aQe(v:aC.V)(i:Nat):(iK v).at i=v.at i / (fZ v:Int):=by
 match i with
 |0=>rfl
 |1=>rfl
 |i+2=>rfl
theorem aKj(v:aC.V)(i:Nat):(fZ v:Int)∣v.at i:=by
 match i with
 |0=>exact En ..
 |1=>exact Gs (Dq ..) (En ..)
 |i+2=>exact Gs (Dq ..) (Dq ..)
def b8(n:aC.V)(e:Int):List AV:=[.int .i64 n.x,.int .i64 n.y,.int .i64 n.z,.int .i64 e]
theorem aIr(J:bN B v)(S:B<2^60)(H:aA):Sg 279 [.agg (c3 fun i=>cI (v.at i))] H (.ret (.agg (b8 (iK v) (if v=V0 then 31 else 0)))) H:=by
 refine Sp bJz Za8 (by simp only[sf,b8]) ?_ H;unfold aXu;dsimp only;have U:=fun i (F:i<3)=>qR (c:=fun i=>cI (v.at i)) (fun i _=>cC _) F;have A:(c3 fun i=>cI (v.at i)).length=54:=gG fun _ _=>cC _;have P:=yO (z:=0) A1 A1;refine bP ?_;simp only[↓zP,zJ,Nat.reduceLT];refine fW ?_;refine Wz ?_;refine bQ ?_;refine aM fun K hK=>?_;simp only[↓zP,zG,Nat.reduceLT];refine cL [] (fun i vs H'=>H'.get 0=some (.cells (c3 fun i=>cI (v.at i)) false)/\H'.get 1=some (.cells [.int .i64 0,.int .i64 0,.int .i64 0,.int .i64 0] false)/\H'.get 2=some (.cells (cI (gF v i)) false)/\H'.next=3) 0 3 A1 A1 A1 ?_ ?_ ?_ ?_ ?_
 . exact Za3
 . exact⟨by simp only[zI,Nat.reduceAdd,Nat.reduceEqDiff],by simp only[zI,Nat.reduceAdd,Nat.reduceEqDiff],by simp only[zI,Nat.reduceAdd,Nat.reduceEqDiff];rfl,by simp only[zI,Nat.reduceAdd]⟩
 . rintro i f H1 o F E T ⟨g0,g,d,l⟩;exact ZbR
 . rintro i f H1 o F E T ⟨g0,g,d,l⟩;have N:f 1=.ref 0 0:=E 1 rfl;have M:f 3=.ref 2 0:=E 3 rfl;have X:=aFc J i;have y:=bN.c J i;have t:=jj (a:=(gF v i:Int)) (b:=v.at i) (by rw[Cp];omega) A0;refine aJ ?_;refine Dz ?_;simp only[↓zP,zJ,Nat.reduceLT,Nat.reduceEqDiff,Nat.reduceAdd,zD,reduceCtorEq,N,M,T,g0,d,aD,F,A,U i F,show i*18+18<=54 by omega];refine gH (t _) ?_;simp only[↓zP,zJ,Nat.reduceEqDiff,Nat.reduceAdd,zD,reduceCtorEq,M,d];exact⟨g0,g,rfl,l⟩
 rintro f H1 E ⟨g0,g,d,l⟩;rw[bEr] at d;have N:f 1=.ref 0 0:=E 1 rfl;have s:f 2=.ref 1 0:=E 2 rfl;have M:f 3=.ref 2 0:=E 3 rfl;have X:=aFc J 3;rw[bEr] at X;have Q:(cI ((fZ v:Nat):Int)).getD 0 aB=.bool false:=rfl;have W:=aIt (z:=((fZ v:Nat):Int)) (aFb (by rw[Cp];omega));show K f [] H1;apply hK;clear hK K;refine bP ?_;refine Wz ?_;refine bQ ?_;refine aM fun K hK=>?_;refine Wy ?_;by_cases e:v=V0
 . have C:fZ v=0:=aBt.2 e;have p:(aJk ((fZ v:Nat):Int)==0)=true:=by rw[C];rfl
   rw[if_pos e];refine Wy ?_;refine⟨rfl,_,by simp only[↓zP,zR,Nat.reduceEqDiff,Nat.reduceAdd,s];rfl,?_⟩;subst e;rfl
 have q:=tT e
 have p:(aJk ((fZ v:Nat):Int)==0)=false:=by rw[Cy];unfold aJk;rw[if_neg A0,if_neg A0];decide
 rw[if_neg e];refine Wy ?_;apply hK;clear hK K;refine bP ?_;refine Wz ?_;refine bQ ?_;refine aM fun K hK=>?_;have w:=vD J;have I:∀i,i<3->(AV.int .i64 ((iK v).at i))=(cG (iK v)).getD i aB:=fun i F=>(iC _ F).symm;refine Wy ?_;refine cL [] (fun i vs H'=>H'.get 0=some (.cells (c3 fun i=>cI (v.at i)) false)/\H'.get 1=some (.cells [.int .i64 0,.int .i64 0,.int .i64 0,.int .i64 0] false)/\H'.get 2=some (.cells (cI ((fZ v:Nat):Int)) false)/\H'.get 3=some (.cells ((cG (iK v)).take i++[AV.int .i64 0,.int .i64 0,.int .i64 0,.int .i64 0].drop i) false)) 0 3 A1 A1 A1 ?_ ?_ ?_ ?_ ?_
 . exact Za3
 . refine⟨?_,?_,?_,?_⟩
   . simp only[zI,Nat.reduceEqDiff,l];exact g0
   . simp only[zI,Nat.reduceEqDiff,l];exact g
   . simp only[zI,Nat.reduceEqDiff,l];exact d
   simp only[zI,l]
 . rintro i j r o F h u ⟨k,q1,q2,q3⟩;simp only[↓zP,zJ,Nat.reduceLT,u];exact tB A0
 . rintro i j r o F h u ⟨k,q1,q2,q3⟩;have k1:j 1=.ref 0 0:=by rw[h 1 rfl];simp only[zB,Nat.reduceEqDiff];exact N
   have k3:j 3=.ref 2 0:=(by rw[h 3 rfl];simp only[zB,Nat.reduceEqDiff];exact M);have k5:j 5=.ref 3 0:=h 5 rfl;have y:=bN.c J i;have D:=jk (n:=v.at i) (m:=((fZ v:Nat):Int)) A0 (aKj v i) A0 (by rw[Cp];omega);rw[<-aQe] at D;have G:=bN.c w i;have L:=Tw (z:=(iK v).at i) A0 A0;refine aJ ?_;refine bP ?_;refine Dz ?_;simp only[↓zP,zJ,Nat.reduceLT,Nat.reduceEqDiff,Nat.reduceAdd,zD,reduceCtorEq,k1,k3,u,k,q2,aD,F,A,U i F,show i*18+18<=54 by omega];refine gH (D _) ?_;simp only[Nat.reduceAdd];refine gH (L _) ?_;simp only[↓zP,zJ,Nat.reduceLT,Nat.reduceEqDiff,Nat.reduceAdd,zD,reduceCtorEq];refine bQ ?_
   match i,F with
   |0,_=>simp only[↓zP,zJ,Nat.reduceLT,Nat.reduceEqDiff,Nat.reduceAdd,Nat.reduceLeDiff,k5,u,aD,q3,cG];exact⟨k,q1,q2,rfl⟩
   |1,_=>simp only[↓zP,zJ,Nat.reduceLT,Nat.reduceEqDiff,Nat.reduceAdd,Nat.reduceLeDiff,k5,u,aD,q3,cG];exact⟨k,q1,q2,rfl⟩
   |2,_=>simp only[↓zP,zJ,Nat.reduceLT,Nat.reduceEqDiff,Nat.reduceAdd,Nat.reduceLeDiff,Nat.reduceMul,k5,u,aD,q3,cG];exact⟨k,q1,q2,rfl⟩
 rintro j r h ⟨k,q1,q2,q3⟩;have k2:j 2=.ref 1 0:=by rw[h 2 rfl];simp only[zB,Nat.reduceEqDiff];exact s
 have k5:j 5=.ref 3 0:=h 5 rfl;have L:=jx w A0;have O:(cG (iK v)).take 3++[AV.int .i64 0,.int .i64 0,.int .i64 0,.int .i64 0].drop 3=b8 (iK v) 0:=rfl;rw[O] at q3;have d3:(b8 (iK v) 0).take 3=cG (iK v):=rfl;have x:(b8 (iK v) 0).length=4:=rfl;show K j [] r;apply hK;clear hK K;refine bP ?_;refine Wz ?_;refine bQ ?_;have :=oL x;refine Wz ?_;refine⟨rfl,_,by simp only[↓zP,zR,Nat.reduceEqDiff,k2,oL x];rfl,?_⟩
 first|rfl|(rw[if_neg e];rfl)
variable{M:Nat}
theorem jv{c:aC.V}(I:bN M a)(X:bN M b)(R:bN M c)(g:M<=2^18)(H:aA):Sg 234 [.agg (cG a),.agg (cG b),.agg (cG c)] H (.ret (.agg (cG (iK (aC.aY (aC.sub b a) (aC.sub c a)))))) H:=by
 have K:=gU X I;have L:=gU R I;have A:=iQ K L;have d:(M+M)*(M+M)<=2^19*2^19:=Be A0 A0;refine Sp bIy Zae Zae ?_ H;unfold aWt;dsimp only;refine bP ?_;refine Ty ?_;refine fW ?_;refine fT 1 A1 Zcv fun H1 n1 T=>?_;simp only[zI,seval] at n1 T;have :=oL (aT a);have :=oL (aT b);have :=AL X I A0;have :=oL (aT c);have :=AL R I A0;have :=OQ K L A0;refine Wz ?_;generalize F:aC.aY (aC.sub b a) (aC.sub c a)=N at *;have :=oL (aT N);refine Wz ?_;refine bQ ?_;generalize S:2*((M+M)*(M+M))=B at *;generalize hX:(H1.set 4 _).set 4 _=w;have C:=Kx (i:=3) hX;have o:=Kv (i:=4) hX;have l:w.next=5:=by subst hX;simp only[aA.aZ];exact n1
 clear hX T n1;have J:∀i,IJ (N.at i):=fun i=>by have :=bN.c A i;unfold IJ;omega
 have m:=aIr A A0;refine bP ?_;have :=EV J;refine Wz ?_;have x:∀e,(b8 (iK N) e).length=4:=fun _=>rfl;have d3:∀e,(b8 (iK N) e).take 3=cG (iK N):=fun _=>rfl;simp only[↓zP,zJ,seval,oL (x _),l];refine bQ ?_;simp only[↓zP,zJ,seval,oL (x _),d3,C,l,oL (aT (iK N))];refine⟨rfl,_,by simp only[↓zP,zR,seval,oL (aT (iK N))];rfl,?_⟩;rfl
theorem HH{α:Type}{f g:α->Bool}:∀{l:List α},(∀x∈l,f x=g x)->l.any f=l.any g
 |[],_=>rfl
 |x::l,h=>by rw[List.any_cons,List.any_cons,h x Az,HH fun y Q=>h y (As _ Q)]
variable{l:List aC.V}
theorem aAw(U:∀v∈l,bN M v)(Q:l.length<2^30){n:aC.V}{d:Int}(D:bN B n)(g:3*(B*M)<2^62)(H:aA):
 Sg 237 [.bJ 0 3 (bR l),.agg (cG n),.int .i64 d] H (.ret (.bool (GW l (n,d)))) H:=by
 have w:Nat.blt 0 2=true:=rfl;refine So bJb (by simp only[sf,cT w,bV]) ?_ H;unfold aWw;dsimp only;refine Ty ?_;refine cL [7] (fun i vs H'=>H'=((⟨0,.nil⟩:aA).alloc (.cells (cG n) false))/\vs=[.bool ((l.take i).any fun v=>decide (aC.dot n v<d))]/\∀v∈l.take i,aC.dot n v<=d) 0 l.length (Bk _) A0 A1 ?_ ?_ ?_ ?_ ?_
 . exact zq
 . exact⟨rfl,by simp only[sm,zB,seval];rfl,fun v J=>by simp at J⟩
 . rintro i f H1 o F E T ⟨rfl,J,k⟩;have A:f 0=.bJ 0 3 (bR l):=E 0 rfl;simp only[↓zP,zG,seval,T,A,aU];exact tB A0
 . rintro i f H1 o F E T ⟨rfl,J,k⟩;simp only[zM] at J;have A:f 0=.bJ 0 3 (bR l):=E 0 rfl;have s:f 2=.int .i64 d:=E 2 rfl;have m:f 4=.ref 0 0:=E 4 rfl;have t:=cH F;have p:=Ac F;have hd:=sG D (U _ p) g
   have a:(l.take (i+1)).any (fun v=>decide (aC.dot n v<d))=((l.take i).any (fun v=>decide (aC.dot n v<d))||decide (aC.dot n l[i]<d)):=by rw[Ao,Is];simp[F]
   have C:∀v,v∈l.take (i+1)->v∈l.take i\/v=l[i]:=fun v J=>by
    exact Zam
   have j:aC.dot n l[i]>d->GW l (n,d)=false:=fun h=>by
    unfold GW
    have :l.all (fun v=>decide (aC.dot n v<=d))=false:=by rw[Ie];exact⟨l[i],p,by simp;omega⟩
    rw[this];rfl
   generalize (l.take i).any (fun v=>decide (aC.dot n v<d))=b at *;generalize l[i]=x at *;rw[a];refine aJ ?_;refine bP ?_;refine Dz ?_;have := @aU;have :=oL (aT n);have :=oL (aT x);refine Wz ?_;refine bQ ?_;by_cases c:aC.dot n x>d
   . have y:=Ag c;simp only[↓zP,zG,seval,s,y];refine Rx ?_;rw[j c];rfl
   have y:=Ab c
   have e:∀v∈l.take (i+1),aC.dot n v<=d:=fun v J=>by
    rcases C v J with h|rfl
    . exact k v h
    omega
   cases b with
   |true=>simp only[↓zP,zJ,seval,s,y,J,Bool.true_or];exact⟨trivial,trivial,e⟩
   |false=>simp only[↓zP,zJ,seval,s,y,J,Bool.false_or];exact⟨trivial,trivial,e⟩
 rintro f H1 E ⟨rfl,J,k⟩;simp only[zM] at J;rw[Aq] at J k
 have :GW l (n,d)=l.any fun v=>decide (aC.dot n v<d):=by
  unfold GW
  have O:l.all (fun v=>decide (aC.dot n v<=d))=true:=by rw[Bh];exact fun v J=>Ag (k v J)
  rw[O,Dk,List.not_all_eq_any_not];refine HH fun v J=>?_;have :=k v J;rw[Dc,Cx,Cy,Br];show aC.dot n v≠d↔_;omega
 rw[this];simp only[↓zP,seval,J];exact ZaD
theorem Yk(tag:Nat){l:List aC.V}{M B:Nat}(U:∀v∈l,bN M v)(Q:l.length<2^30){n:aC.V}{d:Int}(D:bN B n)(a:3*(B*M)<2^62)(H:aA):
 Sg 237 [.bJ tag 3 (bR l),.agg (cG n),.int .i64 d] H (.ret (.bool (GW l (n,d)))) H:=(aAw U Q D a H).KD tag
def CR(L:aC.V×Int->List Nat)(S:List (aC.V×Int)):AV:=mB 5 (S.map (cX L))
theorem kZ(L:aC.V×Int->List Nat)(S:List (aC.V×Int)):(S=[]/\CR L S=.bE)\/(S≠[]/\CR L S=.bJ 0 5 (S.map (cX L))):=by
 unfold CR mB;by_cases h:S=[]
 . exact .inl ⟨h,by rw[if_pos (by simp[h])]⟩
 exact .inr ⟨h,by rw[if_neg Zcx]⟩
theorem NB(L:aC.V×Int->List Nat)(S:List (aC.V×Int)):(CR L S).free=true:=aBb (dP (rZ L) S)
theorem aAy(L:aC.V×Int->List Nat)(S:List (aC.V×Int))(Q:S.length<2^30)(n:aC.V)(H:aA):
 Sg 236 [CR L S,.agg (cG n)] H (.ret (.bool (S.any fun q=>decide (q.1=n)))) H:=by
 refine So bJa (by simp only[sf,NB,bV]) ?_ H;unfold aWv;dsimp only;refine Ty ?_;refine cL [] (fun i vs H'=>H'=((⟨0,.nil⟩:aA).alloc (.cells (cG n) false))/\∀q∈S.take i,q.1≠n) 0 S.length (Bk _) A0 A1 ?_ ?_ ?_ ?_ ?_
 . exact zq
 . exact⟨rfl,fun v J=>by simp at J⟩
 . rintro i f H1 o F E T ⟨rfl,z⟩;have A:f 0=CR L S:=E 0 rfl
   rcases kZ L S with ⟨h,e⟩|⟨h,e⟩
   . rw[e] at A;subst h;simp only[↓zP,zG,seval,T,A];exact Zcu
   rw[e] at A;simp only[↓zP,zG,seval,T,A,Ah];exact tB A0
 . rintro i f H1 o F E T ⟨rfl,z⟩
   have A:f 0=.bJ 0 5 (S.map (cX L)):=by
    exact Za6
   have a:f 3=.ref 0 0:=E 3 rfl;have t:(S.map (cX L)).getD i []=cX L S[i]:=eO F;have d3:(cX L S[i]).take 3=cG S[i].1:=rfl;have d:(cX L S[i]).length=5:=rfl;refine aJ ?_;refine bP ?_;refine Dz ?_;simp only[↓zP,zJ,seval,zD,A,a,T,aD,Ah,F,t,d3,d,oL (aT n),oZ];refine bQ ?_;by_cases c:S[i].1=n
   . have y:=Ag c;simp only[↓zP,zG,seval,y];refine Rx ?_;have :S.any (fun q=>decide (q.1=n))=true:=Cj.2 ⟨S[i],Ac F,y⟩;rw[this];rfl
   have y:=Ab c;simp only[↓zP,zG,seval,y];refine⟨trivial,fun q D=>?_⟩;rw[Ao,Ar] at D
   rcases D with h|h
   . exact z q h
   simp[F] at h;subst h;exact c
 rintro f H1 E ⟨rfl,z⟩;rw[Aq] at z
 have :S.any (fun q=>decide (q.1=n))=false:=by rw[Eh];exact fun q D=>by simpa using z q D
 rw[this];refine Tx ?_;exact ZaD
def wW(q:aC.V×Int):List (aC.V×Int)->List (aC.V×Int)
 |[]=>[q]
 |s::r=>if wS q.1 s.1 then q::s::r else s::wW q r
theorem Vb{q:aC.V×Int}:∀{S:List (aC.V×Int)} {i:Nat},(∀s∈S.take i,wS q.1 s.1=false)->wW q S=S.take i++wW q (S.drop i)
 |[],i,_=>by simp
 |s::r,0,_=>by simp
 |s::r,i+1,h=>by have O:=h s A2;have z:=Vb (q:=q) (S:=r) (i:=i) fun x C=>h x (by simp[C]);simp only[wW,O,Gf,Iv,Gk];rw[<-z];rfl
theorem QX(q:aC.V×Int):∀S:List (aC.V×Int),(wW q S).length=S.length+1
 |[]=>rfl
 |s::r=>by
  unfold wW;split
  . rfl
  rw[Ba,QX q r];rfl
theorem aEu(L:aC.V×Int->List Nat)(q:aC.V×Int):(cX L q).length=5:=rfl
theorem jq(L:aC.V×Int->List Nat)(S:List (aC.V×Int))(Q:S.length<2^20)(q:aC.V×Int)(H:aA):
 Sg 238 [CR L S,.agg (cX L q)] H (.ret (.bJ (H.next+2) 5 ((wW q S).map (cX L)))) (H.alloc .tok):=by
 have z:wW q S≠[]:=fun h=>by have :=QX q S;rw[h] at this;simp at this
 refine FF eE (by simp only[sf,NB,rZ]) (by simpa using z) (dP (rZ L) _) ?_ H;refine dM fit bJc (Ai rfl) ?_;unfold aWx;dsimp only;have q3:(cX L q).take 3=cG q.1:=rfl;have q5:=aEu L q;refine Ty ?_;refine cL [5,6] (fun i vs H'=>∃v X put,vs=[v,.bool put]/\H'.get 0=some (.cells (cX L q) false)/\1<=H'.next/\Own H' 5 v (X.map (cX L))/\X.length<=i+1/\(if put then X++S.drop i=wW q S else X=S.take i/\∀s∈S.take i,wS q.1 s.1=false)) 0 S.length (Bk _) A0 A1 ?_ ?_ ?_ ?_ ?_
 . exact zq
 . exact⟨.bE,[],false,by simp only[sm,zB,seval],by simp only[zI,seval],by simp only[zI,seval],.nil _ _,by simp,by simp⟩
 . rintro i f H1 o F E e1 ⟨v,X,put,J,g0,l,R,hX,m⟩;have A:f 0=CR L S:=E 0 rfl
   rcases kZ L S with ⟨h,e⟩|⟨h,e⟩
   . rw[e] at A;subst h;simp only[↓zP,zG,seval,e1,A];exact Zcu
   rw[e] at A;simp only[↓zP,zG,seval,e1,A,Ah];exact tB A0
 . rintro i f H1 o F E e1 ⟨v,X,put,J,g0,l,R,hX,m⟩;simp only[zM] at J
   have A:f 0=.bJ 0 5 (S.map (cX L)):=by
    exact Za6
   have f3:f 3=.ref 0 0:=E 3 rfl;have t:(S.map (cX L)).getD i []=cX L S[i]:=eO F;have d3:(cX L S[i]).take 3=cG S[i].1:=rfl;have d:(cX L S[i]).length=5:=rfl;have y:=UC q.1 S[i].1;have B:S.drop i=S[i]::S.drop (i+1):=Fb F;have uL:S.take (i+1)=S.take i++[S[i]]:=(by rw[Ao];simp[F]);rw[B] at m;rw[uL]
   have j:(∀s∈S.take i,wS q.1 s.1=false)->wW q S=S.take i++wW q (S[i]::S.drop (i+1)):=fun h=>by
    have :=Vb h
    rwa [B] at this
   generalize S[i]=s at *;generalize hT:S.take i=T at *;generalize S.drop (i+1)=D at *
   have push:∀(I:aA) (w:AV) (Y:List (aC.V×Int)) (x:aC.V×Int),Own I 5 w (Y.map (cX L))->Y.length<2^21->I.get 0=some (.cells (cX L q) false)->1<=I.next->
    ∃r,gE I 5 56 false w [cX L x]=some (.bJ (I.next+2) 5 ((Y++[x]).map (cX L)),r)/\r.get 0=some (.cells (cX L q) false)/\1<=r.next/\Own r 5 (.bJ (I.next+2) 5 ((Y++[x]).map (cX L))) ((Y++[x]).map (cX L)):=fun I w Y x R p o O=>by
    obtain⟨r,Z,c,C,a,N⟩:=Has.push (.inr R) (ys:=[cX L x]) (bytes:=56) rfl (by simp only[Ah,Ba,Ca];omega);refine⟨r,by rw[Z,Cd];rfl,(a 0 A0 (by rw[o];simp)).trans o,by omega,.inr ⟨I.next,rfl,by omega,C⟩⟩
   refine aJ ?_;refine bP ?_;refine Dz ?_;simp only[↓zP,zJ,seval,zD,A,f3,e1,g0,aD,Ah,F,t,d3,d,q3,q5];refine gH (y _) ?_;simp only[↓zP,zJ,seval,zD];refine bQ ?_;refine aM fun K hK=>?_
   have key:∀(u:dD) (I:aA) (w:AV) (Y:List (aC.V×Int)) (k:Bool),u 5=w->u 6=.bool k->u 0=.bJ 0 5 (S.map (cX L))->u 7=.int .i64 i->I.get 0=some (.cells (cX L q) false)->1<=I.next->Own I 5 w (Y.map (cX L))->Y.length<=i+1->
    (if k then Y++s::D=wW q S else Y=T/\∀s'∈T++[s],wS q.1 s'.1=false)->K u [] I:=by
    intro u I w Y k U n v0 g o O p P G;apply hK;clear hK K;obtain⟨r,Z,c,C,a⟩:=push I w Y s p A0 o O;simp only[↓zP,zJ,seval,U,v0,g,aD,Ah,F,t,d,oL d];rw[eL];simp only[Z,bX,seval,n];refine⟨_,Y++[s],k,rfl,c,C,a,by simp;omega,?_⟩
    cases k with
    |true=>simp only[if_true] at G ⊢;rw[<-G];simp
    |false=>simp only[Bs,Cv] at G ⊢;rw[G.1];exact⟨rfl,G.2⟩
   clear hK
   cases put with
   |true=>simp only[if_true] at m;refine Wz ?_;exact key _ H1 v X true (by simp only[zB,seval];exact J.1) (by simp only[zB,seval];exact J.2) Zb6 ZbZ g0 l R hX (by simpa using m)
   |false=>
    simp only[Bs,Cv] at m;obtain⟨rfl,W⟩:=m
    cases hb:wS q.1 s.1 with
    |false=>
     refine Wz ?_;refine key _ H1 v X false (by simp only[zB,seval];exact J.1) (by simp only[zB,seval];exact J.2) Zb6 ZbZ g0 l R hX ?_;simp only[Bs,Cv];refine⟨trivial,fun s' b=>?_⟩
     rcases Ar.1 b with h|h
     . exact W s' h
     rw[Bw] at h;subst h;exact hb
    |true=>obtain⟨r,Z,c,C,a⟩:=push H1 v X q R A0 g0 l;have :=oL q5;refine Wz ?_;rw[eL];simp only[Z,bX,seval];have M:X.length=i:=(by rw[<-hT];simp;omega);refine key _ r _ (X++[q]) true zq zq Zb6 ZbZ c C a (by simp[M]) ?_;simp only[if_true];rw[j W,wW,if_pos hb];simp
 rintro f H1 E ⟨v,X,put,J,g0,l,R,hX,m⟩;simp only[zM] at J;have f3:f 3=.ref 0 0:=E 3 rfl
 cases put with
 |true=>simp only[if_true] at m;rw[Jx,Bx] at m;refine Wz ?_;refine Rx ?_;exact⟨v,rfl,m▸R⟩
 |false=>simp only[Bs,Cv] at m;obtain⟨rfl,W⟩:=m;obtain⟨r,Z,c,C,a,N⟩:=Has.push (.inr R) (ys:=[cX L q]) (bytes:=56) rfl (by simp only[Ah,Ba,Ca];omega);have :=oL q5;refine Wz ?_;rw[eL];simp only[Z,bX,seval];refine Rx ?_;refine⟨_,rfl,?_⟩;rw[Vb W,Jx];rw[show S.take S.length++wW q []=S.take S.length++[q] from rfl,Cd];exact .inr ⟨H1.next,rfl,by omega,C⟩
theorem qA(b:Bool)(A B:Prop):gI aB b A B=B:=rfl
theorem Yq(x:Int)(H:aA):Sg 336 [.int .i64 x] H (.ret (.int .i64 (yR x))) H:=by
 refine So bKl Zac ?_ H;unfold aYf;dsimp only;unfold yR;by_cases h:x<0
 . have S:=Ag h;simp only[↓zP,zJ,Nat.reduceLT,Nat.reduceEqDiff,S];refine Rx ?_;rw[if_pos h];rfl
 have S:=Ab h;by_cases Z:x>0
 . have e:=Ag Z;simp only[↓zP,zJ,Nat.reduceLT,Nat.reduceEqDiff,S,e];refine Rx ?_;rw[if_neg h,if_pos Z];rfl
 have e:=Ab Z;simp only[↓zP,zJ,Nat.reduceLT,Nat.reduceEqDiff,S,e];refine Rx ?_;rw[if_neg h,if_neg Z];rfl
theorem aIy(n c:aC.V)(H:aA):Sg 311 [.agg (cG n),.agg (cG c)] H (.ret (.int .i64 (aC.uH n c))) H:=by
 refine So bKk Zae ?_ H;unfold aYe;dsimp only;refine Wz ?_;refine cL [] (fun i vs H'=>H'=((⟨0,.nil⟩:aA).alloc (.cells (cG n) false)).alloc (.cells (cG c) false)/\∀k,k<i->n.at k=0) 0 3 A1 A1 A1 ?_ ?_ ?_ ?_ ?_
 . exact Za3
 . exact⟨rfl,fun k E=>absurd E (Al _)⟩
 . rintro i f H1 o F E T ⟨rfl,s⟩;exact ZbR
 . rintro i f H1 o F E T ⟨rfl,s⟩;have a:f 2=.ref 0 0:=E 2 rfl;have b:f 3=.ref 1 0:=E 3 rfl;have Z:i+1<=3:=by omega
   refine aJ ?_;by_cases A:n.at i=0
   . have X:(n.at i != 0)=false:=(by simp[A]);simp only[↓zP,zJ,Nat.reduceLT,Nat.reduceEqDiff,T,a,aD,F,aT,iC n F,Z,X];refine⟨trivial,fun k E=>?_⟩;by_cases l:k=i
     . subst l;exact A
     exact s k A0
   have X:(n.at i != 0)=true:=by simp[A]
   have w:IntKind.i64.wrap (yR (n.at i)*yR (c.at i))=yR (n.at i)*yR (c.at i):=gW (B:=1*1) (by rw[El];exact Be (PN _) (PN _)) A1
   simp only[↓zP,zJ,Nat.reduceLT,Nat.reduceEqDiff,T,a,aD,F,aT,iC n F,Z,X];refine Dz ?_;simp only[↓zP,zJ,Nat.reduceLT,Nat.reduceEqDiff,Nat.reduceAdd,zD,reduceCtorEq,T,a,aD,F,aT,iC n F,Z];refine gH (Yq (n.at i) _) ?_;simp only[↓zP,zJ,Nat.reduceLT,Nat.reduceEqDiff,Nat.reduceAdd,zD,reduceCtorEq,T,b,aD,F,aT,iC c F,Z];refine gH (Yq (c.at i) _) ?_;simp only[↓zP,zJ,Nat.reduceLT,Nat.reduceEqDiff,Nat.reduceAdd,zD,reduceCtorEq,w];refine Rx ?_;rw[td n c F s A,Hj];rfl
 rintro f H1 E ⟨rfl,s⟩;simp only[↓zP];refine Rx ?_;rw[UG n c s];rfl
def okV(n a b x:aC.V):Bool:= !(decide (aC.uH n (aC.aY (aC.sub b a) (aC.sub x a))<0)||(decide (aC.uH n (aC.aY (aC.sub b a) (aC.sub x a))=0)&&(decide (aC.dot (aC.sub x a) (aC.sub b a)<0)||decide (aC.dot (aC.sub x a) (aC.sub b a)>aC.dot (aC.sub b a) (aC.sub b a)))))
def HV(l:List aC.V)(n:aC.V)(d:Int)(a b:aC.V):Bool:=l.all fun x=> !decide (aC.dot n x=d)||okV n a b x
theorem bDb(U:∀v∈l,bN M v)(hM:M<=2^18)(Q:l.length<2^30){n a b:aC.V}{d:Int}(hq:bN B n)(hs:3*(B*M)<2^62)(I:bN M a)(hb:bN M b)(H:aA):
 Sg 280 [.bJ 0 3 (bR l),.agg (cG n),.int .i64 d,.agg (cG a),.agg (cG b)] H (.ret (.bool (HV l n d a b))) H:=by
 have Tc:Nat.blt 0 2=true:=rfl;have L:=gU hb I;have an:(M+M)*(M+M)<=2^19*2^19:=Be A0 A0;have sw:=AL hb I A0;have ag:=sG L L A0;refine So bKa (by simp only[sf,cT Tc,bV]) ?_ H;unfold aXv;dsimp only;refine bP ?_;refine Wz ?_;refine fW ?_;have :=oL (aT b);have :=oL (aT a);have :=oL (aT (aC.sub b a));refine Wz ?_;refine bQ ?_;have al:(M+M)*M<=2^19*2^18:=Be A0 hM;generalize af:aC.sub b a=w at *;refine aM fun K hK=>?_;simp only[↓zP,zG,Nat.reduceLT];refine cL [] (fun i vs H'=>H'.get 0=some (.cells (cG n) false)/\H'.get 1=some (.cells (cG a) false)/\H'.get 3=some (.cells (cG w) false)/\4<=H'.next/\bH H'/\∀x∈l.take i,aC.dot n x=d->okV n a b x=true) 0 l.length (Bk _) A0 A1 ?_ ?_ ?_ ?_ ?_
 . exact Za3
 . refine⟨by simp only[zI,Nat.reduceAdd,Nat.reduceEqDiff],by simp only[zI,Nat.reduceAdd,Nat.reduceEqDiff],by simp only[zI,Nat.reduceAdd,Nat.reduceEqDiff],by simp only[zI,Nat.reduceAdd,Nat.reduceLeDiff],?_,fun v J=>by simp at J⟩;exact((((((bH.nil 0).alloc _).alloc _).alloc _).alloc _).set A2 _)
 . rintro i f H1 o F E T ⟨g0,g,g3,gn,N,W⟩;have A:f 0=.bJ 0 3 (bR l):=E 0 rfl;exact Zcq
 . rintro i f H1 o F E T ⟨g0,g,g3,gn,N,W⟩;have A:f 0=.bJ 0 3 (bR l):=E 0 rfl;have s:f 2=.int .i64 d:=E 2 rfl;have f6:f 6=.ref 0 0:=E 6 rfl;have f8:f 8=.ref 1 0:=E 8 rfl;have z:f 11=.ref 3 0:=E 11 rfl;have hg:=cH F;have hm:=Ac F;have C:=U _ hm
   have uL:∀v,v∈l.take (i+1)->v∈l.take i\/v=l[i]:=fun v J=>by
    exact Zam
   have aj:aC.dot n l[i]=d->okV n a b l[i]=false->HV l n d a b=false:=fun O Z=>by unfold HV;rw[Ie];exact⟨l[i],hm,by simp[O,Z]⟩
   generalize l[i]=x at *;have hd:=sG hq C hs
   have ad:(aC.dot n x=d->okV n a b x=true)->∀v∈l.take (i+1),aC.dot n v=d->okV n a b v=true:=fun h v J=>by
    rcases uL v J with O|rfl
    . exact W v O
    exact h
   refine aJ ?_;refine aM fun D cY=>?_;refine bP ?_;refine Dz ?_;simp only[↓zP,zJ,Nat.reduceLT,Nat.reduceEqDiff,Nat.reduceAdd,zD,reduceCtorEq,A,f6,T,g0,aD,aU,F,hg,oL (aT n),oL (aT x)];refine gH (hd _) ?_;simp only[↓zP,zJ,Nat.reduceLT,Nat.reduceEqDiff,Nat.reduceAdd,zD,reduceCtorEq,s];refine bQ ?_;by_cases R:aC.dot n x=d
   . have p:(aC.dot n x != d)=false:=(by simp[R]);have q:=gU C I;have st:=AL C I A0;have cr:=OQ L q A0;have lf:=aIy n (aC.aY w (aC.sub x a));have ab:=sG q L A0
     have a7:okV n a b x= !(decide (aC.uH n (aC.aY w (aC.sub x a))<0)||(decide (aC.uH n (aC.aY w (aC.sub x a))=0)&&(decide (aC.dot (aC.sub x a) w<0)||decide (aC.dot (aC.sub x a) w>aC.dot w w)))):=by unfold okV;rw[af]
     simp only[↓zP,zG,p];apply cY;clear cY D;refine bP ?_;refine fT 1 A1 N.vm fun H2 n2 P=>?_;have q1:=(P 1).trans g;simp only[↓zP,zJ,Nat.reduceLT,Nat.reduceEqDiff,Nat.reduceAdd,zD,reduceCtorEq,A,f8,T,q1,aD,aU,F,hg,oL (aT x),oL (aT a)];refine gH (st _) ?_;generalize ak:aC.sub x a=t at *;have :=oL (aT t);refine Wy ?_;generalize G:(H2.set H1.next _).set H1.next _=X;have y0:=Kw G P g0;have y1:=Kw G P g;have c:=Kw G P g3;have yr:=Kz G;have yn:4<=X.next:=by subst G;simp only[aA.aZ];omega
     have yf:bH X:=fun j Y=>by subst G;simp only[aA.aZ] at Y;rw[aA.aH,if_neg A0,aA.aH,if_neg A0,P];exact N j A0
     clear G;refine fW ?_;refine Dz ?_;simp only[↓zP,zJ,Nat.reduceLT,Nat.reduceEqDiff,Nat.reduceAdd,zD,reduceCtorEq,f6,z,y0,c,yr,oL (aT n),oL (aT w),oL (aT t)];refine gH (cr _) ?_;generalize aC.aY w t=cw at *;simp only[Nat.reduceAdd];refine gH (lf _) ?_;generalize aC.uH n cw=k at *;refine Wy ?_;refine bQ ?_;refine aM fun D cY=>?_;refine Dz ?_
     have y:∀(u:dD) (r:Bool),u 63=.bool (!r)->okV n a b x=r->D u [] X:=by
      intro u r ae hr;apply cY;clear cY D
      cases r with
      |true=>simp only[↓zP,zJ,ae];exact⟨y0,y1,c,yn,yf,ad fun _=>hr⟩
      |false=>refine Wy ?_;refine Rx ?_;rw[aj R hr];rfl
     clear cY;by_cases c1:k<0
     . have S:=Ag c1;simp only[↓zP,zJ,Nat.reduceLT,Nat.reduceEqDiff,Nat.reduceAdd,zD,reduceCtorEq,S,qA];exact y _ false Za3 (by rw[a7,S];rfl)
     have S:=Ab c1;by_cases m:k=0
     . have e:(k==0)=true:=(by simp[m]);have a6:decide (k=0)=true:=Ag m;simp only[↓zP,zJ,Nat.reduceLT,Nat.reduceEqDiff,Nat.reduceAdd,zD,reduceCtorEq,S,e,z,c,yr,oL (aT w),oL (aT t)];refine gH (ab _) ?_;by_cases c3:aC.dot t w<0
       . have d3:=Ag c3;refine Wy ?_;exact y _ false Za3 (by rw[a7,S,a6,d3];rfl)
       have d3:=Ab c3;simp only[↓zP,zJ,Nat.reduceLT,Nat.reduceEqDiff,Nat.reduceAdd,zD,reduceCtorEq,d3,z,c,yr,oL (aT w),oL (aT t)];refine gH (ab _) ?_;simp only[↓zP,zJ,Nat.reduceLT,Nat.reduceEqDiff,Nat.reduceAdd,zD,z,c,oL (aT w)];refine gH (ag _) ?_;simp only[↓zP,zJ,Nat.reduceLT,Nat.reduceEqDiff,Nat.reduceAdd,zD,reduceCtorEq];exact y _ (!decide (aC.dot t w>aC.dot w w)) (by simp only[zB,Bool.not_not]) (by rw[a7,S,a6,d3];rfl)
     have e:(k==0)=false:=(by simp[m]);have a6:decide (k=0)=false:=Ab m;simp only[↓zP,zJ,Nat.reduceLT,Nat.reduceEqDiff,Nat.reduceAdd,zD,reduceCtorEq,S,e,qA];exact y _ true Za3 (by rw[a7,S,a6];rfl)
   have p:(aC.dot n x != d)=true:=(by simp[R]);simp only[↓zP,zG,p];exact⟨g0,g,g3,gn,N,ad fun h=>absurd h R⟩
 rintro f H1 E ⟨g0,g,g3,gn,N,W⟩;rw[Aq] at W
 have :HV l n d a b=true:=by
  unfold HV;rw[Bh];intro x C;by_cases h:aC.dot n x=d
  . simp[W x C h]
  simp[h]
 show K f [] H1;apply hK;simp only[↓zP,zG,Nat.reduceLT];refine Rx ?_;rw[this];rfl
theorem aJb(tag:Nat){l:List aC.V}{M B:Nat}(U:∀v∈l,bN M v)(g:M<=2^18)(Q:l.length<2^30){n a b:aC.V}{d:Int}(D:bN B n)(c:3*(B*M)<2^62)(I:bN M a)(X:bN M b)(H:aA):
 Sg 280 [.bJ tag 3 (bR l),.agg (cG n),.int .i64 d,.agg (cG a),.agg (cG b)] H (.ret (.bool (HV l n d a b))) H:=(bDb U g Q D c I X H).KD tag
theorem vd{α:Type}(f:α->Bool)(z:α):∀l:List α,l.all f=(List.range l.length).all fun k=>f (l.getD k z):=fun l=>by
 rw[Dc,Bh,Bh];constructor
 . intro h k E;have E:=Ax.1 E;have :l.getD k z=l[k]:=by simp[List.getD,E]
   rw[this];exact h _ (Ac E)
 intro h x C;obtain⟨k,E,rfl⟩:=Cz C;have :=h k (Ax.2 E)
 rwa [show l.getD k z=l[k] by simp[List.getD,E]] at this
theorem aQu{n:aC.V}{d:Int}(a b:Nat):HV l n d (l.getD a V0) (l.getD b V0)=OY n (fun i=>l.getD i V0) (iE (fun i=>l.getD i V0) l.length n d) a b:=by unfold HV OY iE;rw[List.all_filter,vd _ V0];rfl
theorem cz{I:List Nat}(M:I.Pairwise (· < ·)){p:Nat->Bool}{b:Nat}(h:I.find? p=some b):b∈I/\p b=true/\∀k∈I,k<b->p k=false:=by
 obtain⟨O,xs,N,rfl,Z⟩:=List.find?_eq_some_iff_append.1 h;refine⟨by simp,O,fun k hk c=>?_⟩
 rcases Ar.1 hk with hk|hk
 . simpa using Z k hk
 rcases Bd.1 hk with rfl|hk
 . omega
 rw[List.pairwise_append] at M;have :=(Ck.1 M.2.1).1 k hk;omega
theorem aBc(U:∀v∈l,bN M v)(hM:M<=2^18)(Q:l.length<=64){n:aC.V}{d:Int}(hq:bN B n)(hs:3*(B*M)<2^62)
 {L:List Nat} (G:Poly (fun i=>l.getD i V0) l.length n d L) (H:aA):
 Sg 239 [.bJ 0 3 (bR l),.agg (cG n),.int .i64 d] H (.ret (.bJ 0 1 (yL L))) H:=by
 have Tc:Nat.blt 0 2=true:=rfl;refine eP fit eE bJd (Ai rfl) (by simp only[sf,cT Tc,bV]) ?_ H;have b4:=fun k (E:k∈L)=>G.Tm E;obtain⟨Y,r,m,Ta,W,hL⟩:=G.ex
 have vW:∀i,i<m->iter (uM n (fun i=>l.getD i V0) (iE (fun i=>l.getD i V0) l.length n d)) i Y∈L:=fun i F=>by rw[hL];exact Bb.2 ⟨i,Ax.2 F,rfl⟩
 have VU:=RA (fun i=>l.getD i V0) l.length n d
 have bk:m<=l.length:=by have O:=W.le;have Z:=Db (fun k=>decide (aC.dot n (l.getD k V0)=d)) (List.range l.length);rw[Bv] at Z;exact Ay O Z
 unfold aWy;dsimp only;have dA:∀k (h:k<l.length),l.getD k V0=l[k]:=fun k h=>by simp[List.getD,h]
 have aE:Y<l.length/\aC.dot n (l.getD Y V0)=d:=cJ.1 (show Y∈iE (fun i=>l.getD i V0) l.length n d by rw[Ta];simp)
 have bc:∀k,k<Y->k<l.length->aC.dot n (l.getD k V0)≠d:=fun k O Z h3=>by
  have :k∈iE (fun i=>l.getD i V0) l.length n d:=cJ.2 ⟨Z,h3⟩;rw[Ta] at this VU
  rcases Bd.1 this with h|h
  . omega
  have :=(Ck.1 VU).1 k h;omega
 refine bP ?_;refine Ty ?_;refine fW ?_;refine Tz ?_;refine fW ?_;refine Tz ?_;refine bQ ?_;refine aM fun K hK=>?_;refine Tz ?_;refine cL [8] (fun i vs H'=>H'=((⟨0,.nil⟩:aA).alloc (.cells (cG n) false))/\vs=[.int .i64 (if i<=Y then -1 else(Y:Int))]) 0 (Y+1) (Bk _) A0 A1 ?_ ?_ ?_ ?_ ?_
 . exact zq
 . exact⟨rfl,by simp only[sm,zB,seval];rw[if_pos (Bk _)]⟩
 . rintro i f H1 h0 F E T ⟨rfl,J⟩;simp only[zM] at J;have A:f 0=.bJ 0 3 (bR l):=E 0 rfl;have d1:decide ((i:Int)<(l.length:Int))=decide (i<l.length):=by rw[Aw];omega
   by_cases O:i<=Y
   . rw[if_pos O] at J;have bt:decide ((i:Int)<(l.length:Int))=true:=Ag A0;have d2:decide ((-1:Int)<0)=true:=rfl;simp only[↓zP,zG,seval,T,A,aU,bt,J];exact⟨trivial,trivial,Am AV.bool (Ag A0).symm⟩
   rw[if_neg O] at J;have d2:decide ((Y:Int)<0)=false:=Ab A0;by_cases hx:i<l.length
   . have bt:decide ((i:Int)<(l.length:Int))=true:=Ag A0;simp only[↓zP,zG,seval,T,A,aU,bt,J,d2];exact ZaW
   have bt:decide ((i:Int)<(l.length:Int))=false:=Ab A0;simp only[↓zP,zG,seval,T,A,aU,bt];exact ZaW
 . rintro i f H1 h0 F E T ⟨rfl,J⟩;simp only[zM] at J;have A:f 0=.bJ 0 3 (bR l):=E 0 rfl;have s:f 2=.int .i64 d:=E 2 rfl;have f4:f 4=.ref 0 0:=E 4 rfl;have e:i<l.length:=by omega
   have hg:=cH e;have hd:=sG hq (U _ (Ac e)) hs;have S:=bc i;rw[dA i e] at S;have az:i=Y->aC.dot n l[i]=d:=fun h=>by rw[<-dA i e,h];exact aE.2
   generalize l[i]=x at *;refine aJ ?_;refine bP ?_;refine Dz ?_;have := @aU;have :=oL (aT n);have :=oL (aT x);refine Wy ?_;refine bQ ?_;by_cases R:i=Y
   . have p:(aC.dot n x==d)=true:=(by simp[az R]);simp only[↓zP,zJ,seval,p,T];exact⟨trivial,by rw[if_neg A0,R]⟩
   have p:(aC.dot n x==d)=false:=(by simp[S A0 e]);simp only[↓zP,zJ,seval,p,J];exact⟨trivial,by rw[if_pos A0,if_pos A0]⟩
 rintro f H1 E ⟨rfl,J⟩;simp only[zM] at J;rw[if_neg A0] at J;have A:f 0=.bJ 0 3 (bR l):=E 0 rfl;have b6:f 2=.int .i64 d:=E 2 rfl;have f4:f 4=.ref 0 0:=E 4 rfl;have f7:f 7=.bE:=E 7 rfl;show K f [] _;apply hK;clear hK K;refine bP ?_;simp only[↓zP,zG,seval,J];refine bQ ?_;refine aM fun K hK=>?_;generalize Xw:iE (fun i=>l.getD i V0) l.length n d=I at *;generalize a6:iter (uM n (fun i=>l.getD i V0) I)=q at *
 have fF:∀k∈I,k<l.length:=fun k E=>by rw[<-Xw] at E;exact(cJ.1 E).1
 refine aJ ?_;refine kJ [7,8] (fun M' vs H'=>∃i,i<m/\M'=m -i/\∃v,vs=[v,.int .i64 (q i Y:Nat)]/\H'.get 0=some (.cells (cG n) false)/\1<=H'.next/\Own H' 1 v (yL ((List.range i).map fun i=>q i Y))) m (by rfl) ?_ ?_
 . exact⟨0,W.pos,rfl,.bE,by simp only[sm,zB,seval,f7,J];rw[<-a6];rfl,by simp only[zI,seval],by simp only[zI,seval],.nil _ _⟩
 rintro M' s w N ⟨i,F,rfl,v,rT,g0,gn,ho⟩;simp only[zM] at rT;obtain⟨g,v8⟩:=rT;have k0:s 0=.bJ 0 3 (bR l):=by rw[N 0 rfl];simp only[zB,seval];exact A
 have k2:s 2=.int .i64 d:=by rw[N 2 rfl];simp only[zB,seval];exact b6
 have k4:s 4=.ref 0 0:=by rw[N 4 rfl];simp only[zB,seval];exact f4
 have ag:s 10=.int .i64 Y:=N 10 rfl;have bf:i<=l.length:=by omega
 have d1:decide ((i:Int)<=(l.length:Int))=true:=Ag A0;have e:((List.range i).map fun i=>q i Y).length=i:=by simp
 refine aM fun D cY=>?_
 have key:∀f':dD,f' 0=.bJ 0 3 (bR l)->f' 2=.int .i64 d->f' 4=.ref 0 0->f' 10=.int .i64 Y->f' 7=v->f' 8=.int .i64 (q i Y:Nat)->D f' [] w:=by
  intro f3 w0 w2 t aq w7 w8;apply cY;clear cY D;obtain⟨ak,b3⟩:=W.side i;have VN:=b3.1;rw[a6] at ak VN;have EC:uM n (fun i=>l.getD i V0) I (q i Y)=q (i+1) Y:=by rw[<-a6];rfl
  have OG:=b4 _ (vW i F);rw[EC] at OG;unfold aC.Tm at OG;obtain⟨_,ae,aK⟩:=cz VU OG;have ab:=fF _ ak;have Xr:=fF _ VN;have yg:aC.dot n (l.getD (q (i+1) Y) V0)=d:=by rw[<-Xw] at VN;exact(cJ.1 VN).2
  have b9:∀k,k<l.length->aC.dot n (l.getD k V0)=d->k∈I:=fun k O Z=>by rw[<-Xw];exact cJ.2 ⟨O,Z⟩
  have TS:i+1=m->q (i+1) Y=Y:=fun h=>by rw[h,<-a6];exact W.back
  have ba:i+1<m->q (i+1) Y≠Y:=fun h=>by rw[<-a6];exact W.first (i+1) A0 h
  have aj:(List.range (i+1)).map (fun i=>q i Y)=(List.range i).map (fun i=>q i Y)++[q i Y]:=by rw[Ds,Cd];rfl
  generalize ha:q i Y=a at *;generalize hb:q (i+1) Y=b at *;generalize hX:(List.range i).map (fun i=>q i Y)=X at *;obtain⟨H5,z1,z2,C,z4,z5⟩:=Has.push (.inr ho) (ys:=[[AV.int .i64 (a:Nat)]]) (bytes:=8) rfl (by rw[dQ,e,Ba,Ca];omega);have y0:=(z4 0 A0 (by rw[g0];simp)).trans g0;have yo:Own H5 1 (.bJ (w.next+2) 1 (yL (X++[a]))) (yL (X++[a])):=.inr ⟨w.next,rfl,by omega,C⟩;have aN:=U _ (Ac ab);refine aJ ?_;refine bP ?_;refine Wy ?_;rw[eL];simp only[z1,bX,seval];refine bQ ?_;rw[show yL X++[[AV.int .i64 (a:Int)]]=yL (X++[a]) from by simp[yL]];refine bP ?_;refine Tz ?_;refine bQ ?_;refine aM fun D cY=>?_;refine Ty ?_;refine cL [11] (fun k vs H'=>H'=H5/\vs=[.int .i64 (if k<=b then -1 else(b:Int))]) 0 (b+1) (Bk _) A0 A1 ?_ ?_ ?_ ?_ ?_
  . exact zq
  . exact⟨rfl,by simp only[sm,zB,seval];rw[if_pos (Bk _)]⟩
  . rintro k j H6 h0 c Xv u ⟨rfl,Za⟩;simp only[zM] at Za;have u0:j 0=.bJ 0 3 (bR l):=by rw[Xv 0 rfl];simp only[zB,seval];exact w0
    by_cases O:k<=b
    . rw[if_pos O] at Za;have bt:decide ((k:Int)<(l.length:Int))=true:=Ag A0;have d2:decide ((-1:Int)<0)=true:=rfl;simp only[↓zP,zG,seval,u,u0,aU,bt,Za];exact⟨trivial,trivial,Am AV.bool (Ag A0).symm⟩
    rw[if_neg O] at Za;have d2:decide ((b:Int)<0)=false:=Ab A0;by_cases hx:k<l.length
    . have bt:decide ((k:Int)<(l.length:Int))=true:=Ag A0;simp only[↓zP,zG,seval,u,u0,aU,bt,Za,d2];exact ZaW
    have bt:decide ((k:Int)<(l.length:Int))=false:=Ab A0;simp only[↓zP,zG,seval,u,u0,aU,bt];exact ZaW
  . rintro k j H6 h0 c Xv u ⟨rfl,Za⟩;simp only[zM] at Za;have u0:j 0=.bJ 0 3 (bR l):=by rw[Xv 0 rfl];simp only[zB,seval];exact w0
    have u2:j 2=.int .i64 d:=(by rw[Xv 2 rfl];simp only[zB,seval];exact w2);have u4:j 4=.ref 0 0:=(by rw[Xv 4 rfl];simp only[zB,seval];exact t);have u8:j 8=.int .i64 (a:Nat):=(by rw[Xv 8 rfl];simp only[zB,seval];exact w8);have z:k<l.length:=A0;have Xu:=cH z;have b0:=cH ab;have al:=U _ (Ac z);have hd:=sG hq al hs;have ee:=aJb 0 U hM A0 hq hs (d:=d) aN al;rw[if_pos (show k<=b by omega)] at Za
    have aF:(decide (k≠a)&&OY n (fun i=>l.getD i V0) I a k)=decide (k=b)\/k∉I:=by
     by_cases a7:k∈I
     . left;by_cases yl:k=b
       . subst yl;rw[ae];simp
       rw[aK k a7 A0];simp[yl]
     exact .inr a7
    have b2:HV l n d l[a] l[k]=OY n (fun i=>l.getD i V0) I a k:=by rw[<-dA a ab,<-dA k z,aQu,Xw]
    have b1:aC.dot n l[k]=d->k∈I:=fun h=>b9 k z (by rw[dA k z];exact h);have bb:k∈I->aC.dot n l[k]=d:=fun h=>by rw[<-Xw] at h;have :=(cJ.1 h).2;rwa [dA k z] at this
    generalize l[k]=x at *;generalize l[a]=y at *;refine aJ ?_;refine aM fun K3 CG=>?_;refine Dz ?_
    have no:∀f6:dD,f6 65=.bool false->f6 11=.int .i64 (-1)->k≠b->K3 f6 [] H6:=by intro f6 ar ay ad;apply CG;simp only[↓zP,zJ,seval,ar];exact⟨trivial,by rw[ay,if_pos (show k+1<=b by omega)]⟩
    by_cases Oi:k=a
    . have p:(((k:Nat):Int) != ((a:Nat):Int))=false:=by rw[Oi];simp
      have ad:k≠b:=fun h=>by rw[<-h,Oi] at ae;simp at ae
      simp only[↓zP,zJ,seval,zD,u,u8,p];exact no _ zq (by simp only[zB,seval];exact Za) ad
    have p:(((k:Nat):Int) != ((a:Nat):Int))=true:=(by rw[Gc];omega);simp only[↓zP,zJ,seval,zD,u,u0,u4,u8,y0,p,aD,aU,z,Xu,oL (aT n),oL (aT x)];refine gH (hd _) ?_;simp only[↓zP,zJ,seval,zD,u2];by_cases nv:aC.dot n x=d
    . have o:(aC.dot n x==d)=true:=(by simp[nv]);have a7:=b1 nv
      have b7:HV l n d y x=decide (k=b):=by
       rcases aF with h|h
       . rw[b2];simpa [Oi] using h
       exact absurd a7 h
      rw[o];apply CG;clear CG K3 no;refine KO true zq (fun _=>?_) (fun h=>by cases h);refine bP ?_;refine Dz ?_;simp only[↓zP,zJ,seval,zD,u,u0,u2,u4,u8,y0,aD,aU,z,ab,Xu,b0,oL (aT n),oL (aT x),oL (aT y)];refine gH (ee _) ?_;rw[b7];refine Ww ?_;refine bQ ?_;by_cases yl:k=b
      . have d3:=Ag yl;simp only[↓zP,zJ,seval,d3,u];exact⟨trivial,by rw[if_neg A0,yl]⟩
      have d3:=Ab yl;simp only[↓zP,zJ,seval,d3,Za];exact⟨trivial,by rw[if_pos (show k+1<=b by omega)]⟩
    have o:(aC.dot n x==d)=false:=(by simp[nv]);have ad:k≠b:=fun h=>nv (bb (by rw[h];exact VN));rw[o];exact no _ zq (by simp only[zB,seval];exact Za) ad
  rintro j H6 Xv ⟨rfl,Za⟩;simp only[zM] at Za;rw[if_neg A0] at Za;have af:j 10=.int .i64 Y:=by rw[Xv 10 rfl];simp only[zB,seval];exact aq
  have u7:j 7=.bJ (w.next+2) 1 (yL (X++[a])):=Xv 7 rfl;show D j [] _;apply cY;clear cY D;by_cases an:i+1=m
  . have o:(((b:Nat):Int)==((Y:Nat):Int))=true:=by rw[TS an];simp
    simp only[↓zP,zG,seval,Za,af,o];apply hK;clear hK K;simp only[↓zP,zG,seval,u7];refine Rx ?_;have b5:L=X++[a]:=(by rw[hL,<-an];exact aj);refine⟨.bJ (w.next+2) 1 (yL (X++[a])),0,rfl,fun nw=>?_⟩;rw[b5];have uK:=JF (X++[a]);simp[jB,mJ,uK,GY]
  have o:(((b:Nat):Int)==((Y:Nat):Int))=false:=by have :=ba A0;rw[Cy];omega
  have d3:decide (((b:Nat):Int)<0)=false:=Ab A0;simp only[↓zP,zJ,seval,Za,af,o,d3];exact⟨m -(i+1),by omega,i+1,by omega,rfl,_,by rw[u7,hb],y0,by omega,by rw[aj];exact yo⟩
 rcases ho with ⟨T,P⟩|⟨k,T,P,e3⟩
 . have aO:i=0:=by
    have :=Am List.length P;rw[dQ,e] at this;simpa using this
   subst aO;rw[T] at g;have bt:decide ((0:Int)<=(l.length:Int))=true:=Ag A0;simp only[↓zP,zG,seval,g,k0,aU];refine⟨fun _=>?_,fun h=>absurd (Int.natCast_nonneg _) h⟩;refine key _ ?_ ?_ ?_ ?_ ?_ ?_
   . simp only[zB,seval];exact k0
   . simp only[zB,seval];exact k2
   . simp only[zB,seval];exact k4
   . simp only[zB,seval];exact ag
   . simp only[zB,seval];rw[g,T]
   simp only[zB,seval];exact v8
 rw[T] at g;simp only[↓zP,zG,seval,g,k0,aU,dQ,e,d1];refine key _ ?_ ?_ ?_ ?_ ?_ ?_
 . simp only[zB,seval];exact k0
 . simp only[zB,seval];exact k2
 . simp only[zB,seval];exact k4
 . simp only[zB,seval];exact ag
 . simp only[zB,seval];rw[g,T]
 simp only[zB,seval];exact v8
theorem Yp(tag:Nat){l:List aC.V}{M B:Nat}(U:∀v∈l,bN M v)(g:M<=2^18)(Q:l.length<=64){n:aC.V}{d:Int}(D:bN B n)(a:3*(B*M)<2^62)
 {L:List Nat} (G:Poly (fun i=>l.getD i V0) l.length n d L) (H:aA):
 Sg 239 [.bJ tag 3 (bR l),.agg (cG n),.int .i64 d] H (.ret (.bJ 0 1 (yL L))) H:=(aBc U g Q D a G H).KD tag
end Go.Proofs.YtogfcjbgeebfkaaGreatDoor
