/-
  Part of the proof of statement 13
-/
import Derived.Test.YtogfcjbgeebfkaaGreatDoorB30
import Derived.Test.YtogfcjbgeebfkaaGreatDoorB31
import Derived.Test.YtogfcjbgeebfkaaGreatDoorB17
import Derived.Test.YtogfcjbgeebfkaaGreatDoorB15
set_option linter.unusedVariables false
set_option maxRecDepth 100000
set_option linter.unusedSimpArgs false
set_option maxHeartbeats 16000000
namespace Go.Proofs.YtogfcjbgeebfkaaGreatDoor
open Go Go.Av Go.aH Go.iW
attribute [local congr] aZ aQ aR aL bD aU aS aG bE
attribute [local irreducible] FC bS eE
variable{a b:aH.V}{B:Nat}
theorem rZ{A:Nat}(I:bT A a)(X:bT B b)(M:3*(A*B)<2^62)(H:aB):Sg 235 [.agg (cS a),.agg (cS b)] H (.ret (.int .i64 (aH.dot a b))) H:=by
 obtain⟨a1,e,Q⟩:=I;obtain⟨b1,b2,D⟩:=X;have d:=bY a1 b1;have Y:=bY e b2;have c:=bY Q D;have w1:=gU d A0;have w2:=gU Y A0;have R:=gU c A0;have C:IntKind.i64.wrap (a.x*b.x+a.y*b.y)=a.x*b.x+a.y*b.y:=gU (B:=2*(A*B)) A0 A0;have m:IntKind.i64.wrap (a.x*b.x+a.y*b.y+a.z*b.z)=a.x*b.x+a.y*b.y+a.z*b.z:=gU (B:=3*(A*B)) A0 A0;refine So bIt Zae ?_ H;unfold aWk;dsimp only;simp only[↓zP,zJ,Nat.reduceLT,Nat.reduceEqDiff,Nat.reduceAdd,Nat.reduceLeDiff,cS,AH,w1,w2,R,C,m]
 (refine Rx ?_;rfl)
theorem Nw{A:Nat}(I:bT A a)(X:bT B b)(M:A*B<2^61)(H:aB):Sg 216 [.agg (cS a),.agg (cS b)] H (.ret (.agg (cS (aH.bC a b)))) H:=by
 obtain⟨a1,y,Q⟩:=I;obtain⟨b1,b2,D⟩:=X;have w1:=gU (bY y D) A0;have w2:=gU (bY Q b2) A0;have R:=gU (bY Q b1) A0;have C:=gU (bY a1 D) A0;have m:=gU (bY a1 b2) A0;have U:=gU (bY y b1) A0;have c:=Sx (bY y D) (bY Q b2) M;have p:=Sx (bY Q b1) (bY a1 D) M;have f:=Sx (bY a1 b2) (bY y b1) M;refine Sp bIj Zae Zae ?_ H;unfold aWa;dsimp only;simp only[zJ,Nat.reduceLT,Nat.reduceEqDiff,Nat.reduceAdd,Nat.reduceLeDiff,cS,AH,w1,w2,R,C,m,U,c,p,f]
 (refine Rx ?_;rfl)
def gF(v:aH.V):Nat->Nat
 |0=>0
 |i+1=>Int.gcd (gF v i) (v.at i)
theorem bEh(v:aH.V):gF v 3=fY v:=by grind[RS,gF,V.at,Int.gcd,Int.natAbs_natCast,Nat.gcd_zero_left]
theorem aEn{v:aH.V}{B:Nat}(h:bT B v):∀i,gF v i<=B
 |0=>Bh _
 |i+1=>XQ (a:=(gF v i:Int)) (by exact aEn h i) (bT.c h i)
variable{v:aH.V}
theorem aBb:fY v=0↔v=V0:=by
 constructor
 . intro h;refine Ey fun R=>?_;have :=tA R;omega
 rintro rfl;rfl
theorem aPk(v:aH.V)(i:Nat):(iC v).at i=v.at i / (fY v:Int):=by
 match i with
 |0=>rfl
 |1=>rfl
 |i+2=>rfl
theorem aJr(v:aH.V)(i:Nat):(fY v:Int)∣v.at i:=by
 match i with
 |0=>exact Ei ..
 |1=>exact Gu (Dq ..) (Ei ..)
 |i+2=>exact Gu (Dq ..) (Dq ..)
def aa(n:aH.V)(e:Int):List AV:=[.int .i64 n.x,.int .i64 n.y,.int .i64 n.z,.int .i64 e]
theorem aHx(J:bT B v)(r:B<2^60)(H:aB):Sg 279 [.agg (c3 fun i=>cI (v.at i))] H (.ret (.agg (aa (iC v) (if v=V0 then 31 else 0)))) H:=by
 refine Sp bJv Za2 (by simp only[sf,aa]) ?_ H;unfold aXm;dsimp only;have U:=fun i (F:i<3)=>tG (c:=fun i=>cI (v.at i)) (fun i _=>cL _) F;have x:(c3 fun i=>cI (v.at i)).length=54:=gY fun _ _=>cL _;have t:=xX (z:=0) A1 A1;refine bP ?_;simp only[↓zP,zJ,Nat.reduceLT];refine fQ ?_;refine Wz ?_;refine bQ ?_;refine aP fun K hK=>?_;simp only[↓zP,zG,Nat.reduceLT];refine cH [] (fun i vs H'=>H'.get 0=some (.cells (c3 fun i=>cI (v.at i)) false)/\H'.get 1=some (.cells [.int .i64 0,.int .i64 0,.int .i64 0,.int .i64 0] false)/\H'.get 2=some (.cells (cI (gF v i)) false)/\H'.next=3) 0 3 A1 A1 A1 ?_ ?_ ?_ ?_ ?_
 . exact ZaW
 . exact⟨by simp only[zI,Nat.reduceAdd,Nat.reduceEqDiff],by simp only[zI,Nat.reduceAdd,Nat.reduceEqDiff],by simp only[zI,Nat.reduceAdd,Nat.reduceEqDiff];rfl,by simp only[zI,Nat.reduceAdd]⟩
 . rintro i f H1 G F E T ⟨g0,g,e,I⟩;exact ZbB
 . rintro i f H1 G F E T ⟨g0,g,e,I⟩;have u:f 1=.ref 0 0:=E 1 rfl;have S:f 3=.ref 2 0:=E 3 rfl;have X:=aEn J i;have l:=bT.c J i;have d:=ia (a:=(gF v i:Int)) (b:=v.at i) (by rw[Cs];omega) A0;refine aM ?_;refine Dz ?_;simp only[↓zP,zJ,Nat.reduceLT,Nat.reduceEqDiff,Nat.reduceAdd,zD,reduceCtorEq,u,S,T,g0,e,aI,F,x,U i F,show i*18+18<=54 by omega];refine gV (d _) ?_;simp only[↓zP,zJ,Nat.reduceEqDiff,Nat.reduceAdd,zD,reduceCtorEq,S,e];exact⟨g0,g,rfl,I⟩
 rintro f H1 E ⟨g0,g,e,I⟩;rw[bEh] at e;have u:f 1=.ref 0 0:=E 1 rfl;have P:f 2=.ref 1 0:=E 2 rfl;have S:f 3=.ref 2 0:=E 3 rfl;have X:=aEn J 3;rw[bEh] at X;have O:(cI ((fY v:Nat):Int)).getD 0 aC=.bool false:=rfl;have w:=aHz (z:=((fY v:Nat):Int)) (aEl (by rw[Cs];omega));show K f [] H1;apply hK;clear hK K;refine bP ?_;refine Wz ?_;refine bQ ?_;refine aP fun K hK=>?_;refine Wy ?_;by_cases Z:v=V0
 . have o:fY v=0:=aBb.2 Z;have q:(aIr ((fY v:Nat):Int)==0)=true:=by rw[o];rfl
   rw[if_pos Z];refine Wy ?_;refine⟨rfl,_,by simp only[↓zP,zR,Nat.reduceEqDiff,Nat.reduceAdd,P];rfl,?_⟩;subst Z;rfl
 have j:=tA Z
 have q:(aIr ((fY v:Nat):Int)==0)=false:=by rw[Dc];unfold aIr;rw[if_neg A0,if_neg A0];decide
 rw[if_neg Z];refine Wy ?_;apply hK;clear hK K;refine bP ?_;refine Wz ?_;refine bQ ?_;refine aP fun K hK=>?_;have k:=uE J;have M:∀i,i<3->(AV.int .i64 ((iC v).at i))=(cS (iC v)).getD i aC:=fun i F=>(iY _ F).symm;refine Wy ?_;refine cH [] (fun i vs H'=>H'.get 0=some (.cells (c3 fun i=>cI (v.at i)) false)/\H'.get 1=some (.cells [.int .i64 0,.int .i64 0,.int .i64 0,.int .i64 0] false)/\H'.get 2=some (.cells (cI ((fY v:Nat):Int)) false)/\H'.get 3=some (.cells ((cS (iC v)).take i++[AV.int .i64 0,.int .i64 0,.int .i64 0,.int .i64 0].drop i) false)) 0 3 A1 A1 A1 ?_ ?_ ?_ ?_ ?_
 . exact ZaW
 . refine⟨?_,?_,?_,?_⟩
   . simp only[zI,Nat.reduceEqDiff,I];exact g0
   . simp only[zI,Nat.reduceEqDiff,I];exact g
   . simp only[zI,Nat.reduceEqDiff,I];exact e
   simp only[zI,I]
 . rintro i s N G F h Y ⟨p,q1,q2,q3⟩;simp only[↓zP,zJ,Nat.reduceLT,Y];exact tB A0
 . rintro i s N G F h Y ⟨p,q1,q2,q3⟩;have k1:s 1=.ref 0 0:=by rw[h 1 rfl];simp only[zB,Nat.reduceEqDiff];exact u
   have k3:s 3=.ref 2 0:=(by rw[h 3 rfl];simp only[zB,Nat.reduceEqDiff];exact S);have k5:s 5=.ref 3 0:=h 5 rfl;have l:=bT.c J i;have D:=ib (n:=v.at i) (m:=((fY v:Nat):Int)) A0 (aJr v i) A0 (by rw[Cs];omega);rw[<-aPk] at D;have A:=bT.c k i;have L:=Th (z:=(iC v).at i) A0 A0;refine aM ?_;refine bP ?_;refine Dz ?_;simp only[↓zP,zJ,Nat.reduceLT,Nat.reduceEqDiff,Nat.reduceAdd,zD,reduceCtorEq,k1,k3,Y,p,q2,aI,F,x,U i F,show i*18+18<=54 by omega];refine gV (D _) ?_;simp only[Nat.reduceAdd];refine gV (L _) ?_;simp only[↓zP,zJ,Nat.reduceLT,Nat.reduceEqDiff,Nat.reduceAdd,zD,reduceCtorEq];refine bQ ?_
   match i,F with
   |0,_=>simp only[↓zP,zJ,Nat.reduceLT,Nat.reduceEqDiff,Nat.reduceAdd,Nat.reduceLeDiff,k5,Y,aI,q3,cS];exact⟨p,q1,q2,rfl⟩
   |1,_=>simp only[↓zP,zJ,Nat.reduceLT,Nat.reduceEqDiff,Nat.reduceAdd,Nat.reduceLeDiff,k5,Y,aI,q3,cS];exact⟨p,q1,q2,rfl⟩
   |2,_=>simp only[↓zP,zJ,Nat.reduceLT,Nat.reduceEqDiff,Nat.reduceAdd,Nat.reduceLeDiff,Nat.reduceMul,k5,Y,aI,q3,cS];exact⟨p,q1,q2,rfl⟩
 rintro s N h ⟨p,q1,q2,q3⟩;have k2:s 2=.ref 1 0:=by rw[h 2 rfl];simp only[zB,Nat.reduceEqDiff];exact P
 have k5:s 5=.ref 3 0:=h 5 rfl;have L:=jg k A0;have C:(cS (iC v)).take 3++[AV.int .i64 0,.int .i64 0,.int .i64 0,.int .i64 0].drop 3=aa (iC v) 0:=rfl;rw[C] at q3;have d3:(aa (iC v) 0).take 3=cS (iC v):=rfl;have y:(aa (iC v) 0).length=4:=rfl;show K s [] N;apply hK;clear hK K;refine bP ?_;refine Wz ?_;refine bQ ?_;have :=oL y;refine Wz ?_;refine⟨rfl,_,by simp only[↓zP,zR,Nat.reduceEqDiff,k2,oL y];rfl,?_⟩
 first|rfl|(rw[if_neg Z];rfl)
variable{M:Nat}
theorem je{c:aH.V}(I:bT M a)(X:bT M b)(R:bT M c)(g:M<=2^18)(H:aB):Sg 234 [.agg (cS a),.agg (cS b),.agg (cS c)] H (.ret (.agg (cS (iC (aH.bC (aH.sub b a) (aH.sub c a)))))) H:=by
 have f:=gT X I;have L:=gT R I;have A:=iM f L;have j:(M+M)*(M+M)<=2^19*2^19:=Az A0 A0;refine Sp bIs Zae Zae ?_ H;unfold aWj;dsimp only;refine bP ?_;refine Ty ?_;refine fQ ?_;refine fZ 1 A1 Zcc fun H1 n1 T=>?_;simp only[zI,seval] at n1 T;have :=oL (aW a);have :=oL (aW b);have :=zV X I A0;have :=oL (aW c);have :=zV R I A0;have :=Nw f L A0;refine Wz ?_;generalize k:aH.bC (aH.sub b a) (aH.sub c a)=N at *;have :=oL (aW N);refine Wz ?_;refine bQ ?_;generalize r:2*((M+M)*(M+M))=B at *;generalize hX:(H1.set 4 _).set 4 _=H2;have U:=Kx (i:=3) hX;have l:=Kv (i:=4) hX;have h:H2.next=5:=by subst hX;simp only[aB.bB];exact n1
 clear hX T n1;have d:∀i,JV (N.at i):=fun i=>by have :=bT.c A i;unfold JV;omega
 have m:=aHx A A0;refine bP ?_;have :=EC d;refine Wz ?_;have y:∀e,(aa (iC N) e).length=4:=fun _=>rfl;have d3:∀e,(aa (iC N) e).take 3=cS (iC N):=fun _=>rfl;simp only[↓zP,zJ,seval,oL (y _),h];refine bQ ?_;simp only[↓zP,zJ,seval,oL (y _),d3,U,h,oL (aW (iC N))];refine⟨rfl,_,by simp only[↓zP,zR,seval,oL (aW (iC N))];rfl,?_⟩;rfl
variable{α:Type}
theorem Ri{f g:α->Bool}:∀{l:List α},(∀x∈l,f x=g x)->l.any f=l.any g
 |[],_=>rfl
 |x::l,h=>by grind
variable{l:List aH.V}
theorem aAe(U:∀v∈l,bT M v)(Q:l.length<2^30){n:aH.V}{d:Int}(D:bT B n)(g:3*(B*M)<2^62)(H:aB):
 Sg 237 [.bK 0 3 (bU l),.agg (cS n),.int .i64 d] H (.ret (.bool (GJ l (n,d)))) H:=by
 have N:Nat.blt 0 2=true:=rfl;refine So bIv (by simp only[sf,cT N,cD]) ?_ H;unfold aWm;dsimp only;refine Ty ?_;refine cH [7] (fun i vs H'=>H'=((⟨0,.nil⟩:aB).alloc (.cells (cS n) false))/\vs=[.bool ((l.take i).any fun v=>decide (aH.dot n v<d))]/\∀v∈l.take i,aH.dot n v<=d) 0 l.length (Bh _) A0 A1 ?_ ?_ ?_ ?_ ?_
 . exact zq
 . exact⟨rfl,by simp only[sm,zB,seval];rfl,fun v J=>by simp at J⟩
 . rintro i f H1 G F E T ⟨rfl,J,m⟩;have A:f 0=.bK 0 3 (bU l):=E 0 rfl;simp only[↓zP,zG,seval,T,A,aX];exact tB A0
 . rintro i f H1 G F E T ⟨rfl,J,m⟩;simp only[zM] at J;have A:f 0=.bK 0 3 (bU l):=E 0 rfl;have P:f 2=.int .i64 d:=E 2 rfl;have k:f 4=.ref 0 0:=E 4 rfl;have j:=cG F;have t:=Ag F;have hd:=rZ D (U _ t) g
   have a:(l.take (i+1)).any (fun v=>decide (aH.dot n v<d))=((l.take i).any (fun v=>decide (aH.dot n v<d))||decide (aH.dot n l[i]<d)):=by rw[Ao,Im];simp[F]
   have C:∀v,v∈l.take (i+1)->v∈l.take i\/v=l[i]:=fun v J=>by
    exact Zam
   have p:aH.dot n l[i]>d->GJ l (n,d)=false:=fun h=>by
    unfold GJ
    have :l.all (fun v=>decide (aH.dot n v<=d))=false:=by rw[Jk];exact⟨l[i],t,by simp;omega⟩
    rw[this];rfl
   generalize (l.take i).any (fun v=>decide (aH.dot n v<d))=b at *;generalize l[i]=x at *;rw[a];refine aM ?_;refine bP ?_;refine Dz ?_;have := @aX;have :=oL (aW n);have :=oL (aW x);refine Wz ?_;refine bQ ?_;by_cases c:aH.dot n x>d
   . have I:=Af c;simp only[↓zP,zG,seval,P,I];refine Rx ?_;rw[p c];rfl
   have I:=Ac c
   have e:∀v∈l.take (i+1),aH.dot n v<=d:=fun v J=>by
    rcases C v J with h|rfl
    . exact m v h
    omega
   cases b with
   |true=>simp only[↓zP,zJ,seval,P,I,J,Bool.true_or];exact⟨trivial,trivial,e⟩
   |false=>simp only[↓zP,zJ,seval,P,I,J,Bool.false_or];exact⟨trivial,trivial,e⟩
 rintro f H1 E ⟨rfl,J,m⟩;simp only[zM] at J;rw[Ap] at J m
 have :GJ l (n,d)=l.any fun v=>decide (aH.dot n v<d):=by
  unfold GJ
  have O:l.all (fun v=>decide (aH.dot n v<=d))=true:=by rw[Bi];exact fun v J=>Af (m v J)
  rw[O,Dm,List.not_all_eq_any_not];refine Ri fun v J=>?_;have :=m v J;rw[Eh,Ct,Dc,Bs];show aH.dot n v≠d↔_;omega
 rw[this];simp only[↓zP,seval,J];exact ZaB
theorem YV(tag:Nat){l:List aH.V}{M B:Nat}(U:∀v∈l,bT M v)(Q:l.length<2^30){n:aH.V}{d:Int}(D:bT B n)(a:3*(B*M)<2^62)(H:aB):
 Sg 237 [.bK tag 3 (bU l),.agg (cS n),.int .i64 d] H (.ret (.bool (GJ l (n,d)))) H:=(aAe U Q D a H).JS tag
def BW(L:aH.V×Int->List Nat)(S:List (aH.V×Int)):AV:=lT 5 (S.map (cX L))
theorem kS(L:aH.V×Int->List Nat)(S:List (aH.V×Int)):(S=[]/\BW L S=.bG)\/(S≠[]/\BW L S=.bK 0 5 (S.map (cX L))):=by unfold BW lT;by_cases h:S=[]<;>simp_all
theorem Me(L:aH.V×Int->List Nat)(S:List (aH.V×Int)):(BW L S).free=true:=aAj (dQ (rQ L) S)
theorem aAg(L:aH.V×Int->List Nat)(S:List (aH.V×Int))(Q:S.length<2^30)(n:aH.V)(H:aB):
 Sg 236 [BW L S,.agg (cS n)] H (.ret (.bool (S.any fun q=>decide (q.1=n)))) H:=by
 refine So bIu (by simp only[sf,Me,cD]) ?_ H;unfold aWl;dsimp only;refine Ty ?_;refine cH [] (fun i vs H'=>H'=((⟨0,.nil⟩:aB).alloc (.cells (cS n) false))/\∀q∈S.take i,q.1≠n) 0 S.length (Bh _) A0 A1 ?_ ?_ ?_ ?_ ?_
 . exact zq
 . exact⟨rfl,fun v J=>by simp at J⟩
 . rintro i f H1 G F E T ⟨rfl,s⟩;have A:f 0=BW L S:=E 0 rfl
   rcases kS L S with ⟨h,e⟩|⟨h,e⟩
   . rw[e] at A;subst h;simp only[↓zP,zG,seval,T,A];exact Zca
   rw[e] at A;simp only[↓zP,zG,seval,T,A,Ah];exact tB A0
 . rintro i f H1 G F E T ⟨rfl,s⟩
   have A:f 0=.bK 0 5 (S.map (cX L)):=by
    exact ZaZ
   have a:f 3=.ref 0 0:=E 3 rfl;have d:(S.map (cX L)).getD i []=cX L S[i]:=fT F;have d3:(cX L S[i]).take 3=cS S[i].1:=rfl;have j:(cX L S[i]).length=5:=rfl;refine aM ?_;refine bP ?_;refine Dz ?_;simp only[↓zP,zJ,seval,zD,A,a,T,aI,Ah,F,d,d3,j,oL (aW n),oU];refine bQ ?_;by_cases c:S[i].1=n
   . have I:=Af c;simp only[↓zP,zG,seval,I];refine Rx ?_;have :S.any (fun q=>decide (q.1=n))=true:=Cz.2 ⟨S[i],Ag F,I⟩;rw[this];rfl
   have I:=Ac c;simp only[↓zP,zG,seval,I];refine⟨trivial,fun q D=>?_⟩;rw[Ao,Ar] at D
   rcases D with h|h
   . exact s q h
   simp[F] at h;subst h;exact c
 rintro f H1 E ⟨rfl,s⟩;rw[Ap] at s
 have :S.any (fun q=>decide (q.1=n))=false:=by rw[Fp];exact fun q D=>by simpa using s q D
 rw[this];refine Tx ?_;exact ZaB
def wD(q:aH.V×Int):List (aH.V×Int)->List (aH.V×Int)
 |[]=>[q]
 |s::r=>if vU q.1 s.1 then q::s::r else s::wD q r
theorem VJ{q:aH.V×Int}:∀{S:List (aH.V×Int)} {i:Nat},(∀s∈S.take i,vU q.1 s.1=false)->wD q S=S.take i++wD q (S.drop i)
 |[],i,_=>by simp
 |s::r,0,_=>by simp
 |s::r,i+1,h=>by have O:=h s A3;have K:=VJ (q:=q) (S:=r) (i:=i) fun x C=>h x (by simp[C]);simp only[wD,O,Ft,Gj,Fe];rw[<-K];rfl
theorem QK(q:aH.V×Int):∀S:List (aH.V×Int),(wD q S).length=S.length+1
 |[]=>rfl
 |s::r=>by
  unfold wD;split
  . rfl
  rw[As,QK q r];rfl
theorem aEd(L:aH.V×Int->List Nat)(q:aH.V×Int):(cX L q).length=5:=rfl
theorem ja(L:aH.V×Int->List Nat)(S:List (aH.V×Int))(Q:S.length<2^20)(q:aH.V×Int)(H:aB):
 Sg 238 [BW L S,.agg (cX L q)] H (.ret (.bK (H.next+2) 5 ((wD q S).map (cX L)))) (H.alloc .tok):=by
 have cU:wD q S≠[]:=fun h=>by have :=QK q S;rw[h] at this;simp at this
 refine ER dZ (by simp only[sf,Me,rQ]) (by simpa using cU) (dQ (rQ L) _) ?_ H;refine bZ fit bIw (Ab rfl) ?_;unfold aWn;dsimp only;have q3:(cX L q).take 3=cS q.1:=rfl;have q5:=aEd L q;refine Ty ?_;refine cH [5,6] (fun i vs H'=>∃v X put,vs=[v,.bool put]/\H'.get 0=some (.cells (cX L q) false)/\1<=H'.next/\Own H' 5 v (X.map (cX L))/\X.length<=i+1/\(if put then X++S.drop i=wD q S else X=S.take i/\∀s∈S.take i,vU q.1 s.1=false)) 0 S.length (Bh _) A0 A1 ?_ ?_ ?_ ?_ ?_
 . exact zq
 . exact⟨.bG,[],false,by simp only[sm,zB,seval],by simp only[zI,seval],by simp only[zI,seval],.nil _ _,by simp,by simp⟩
 . rintro i f H1 G F E e1 ⟨v,X,put,J,g0,I,Z,hX,m⟩;have A:f 0=BW L S:=E 0 rfl
   rcases kS L S with ⟨h,e⟩|⟨h,e⟩
   . rw[e] at A;subst h;simp only[↓zP,zG,seval,e1,A];exact Zca
   rw[e] at A;simp only[↓zP,zG,seval,e1,A,Ah];exact tB A0
 . rintro i f H1 G F E e1 ⟨v,X,put,J,g0,I,Z,hX,m⟩;simp only[zM] at J
   have A:f 0=.bK 0 5 (S.map (cX L)):=by
    exact ZaZ
   have f3:f 3=.ref 0 0:=E 3 rfl;have d:(S.map (cX L)).getD i []=cX L S[i]:=fT F;have d3:(cX L S[i]).take 3=cS S[i].1:=rfl;have j:(cX L S[i]).length=5:=rfl;have P:=Tk q.1 S[i].1;have W:S.drop i=S[i]::S.drop (i+1):=Gb F;have t:S.take (i+1)=S.take i++[S[i]]:=(by rw[Ao];simp[F]);rw[W] at m;rw[t]
   have a6:(∀s∈S.take i,vU q.1 s.1=false)->wD q S=S.take i++wD q (S[i]::S.drop (i+1)):=fun h=>by
    have :=VJ h
    rwa [W] at this
   generalize S[i]=s at *;generalize hT:S.take i=T at *;generalize S.drop (i+1)=D at *
   have push:∀(c:aB) (w:AV) (Y:List (aH.V×Int)) (x:aH.V×Int),Own c 5 w (Y.map (cX L))->Y.length<2^21->c.get 0=some (.cells (cX L q) false)->1<=c.next->
    ∃a,fM c 5 56 false w [cX L x]=some (.bK (c.next+2) 5 ((Y++[x]).map (cX L)),a)/\a.get 0=some (.cells (cX L q) false)/\1<=a.next/\Own a 5 (.bK (c.next+2) 5 ((Y++[x]).map (cX L))) ((Y++[x]).map (cX L)):=fun c w Y x Z M G O=>by
    obtain⟨a,n,z,b,r,B⟩:=Has.push (.inr Z) (ys:=[cX L x]) (bytes:=56) rfl (by simp only[Ah,As,Bo];omega);refine⟨a,by rw[n,Cg];rfl,(r 0 A0 (by rw[G];simp)).trans G,by omega,.inr ⟨c.next,rfl,by omega,b⟩⟩
   refine aM ?_;refine bP ?_;refine Dz ?_;simp only[↓zP,zJ,seval,zD,A,f3,e1,g0,aI,Ah,F,d,d3,j,q3,q5];refine gV (P _) ?_;simp only[↓zP,zJ,seval,zD];refine bQ ?_;refine aP fun K hK=>?_
   have key:∀(u:dI) (c:aB) (w:AV) (Y:List (aH.V×Int)) (k:Bool),u 5=w->u 6=.bool k->u 0=.bK 0 5 (S.map (cX L))->u 7=.int .i64 i->c.get 0=some (.cells (cX L q) false)->1<=c.next->Own c 5 w (Y.map (cX L))->Y.length<=i+1->
    (if k then Y++s::D=wD q S else Y=T/\∀l∈T++[s],vU q.1 l.1=false)->K u [] c:=by
    intro u c w Y k C o N g G O M U p;apply hK;clear hK K;obtain⟨a,n,z,b,r⟩:=push c w Y s M A0 G O;simp only[↓zP,zJ,seval,C,N,g,aI,Ah,F,d,j,oL j];rw[eL];simp only[n,bV,seval,o];refine⟨_,Y++[s],k,rfl,z,b,r,by simp;omega,?_⟩
    cases k with
    |true=>simp only[if_true] at p ⊢;rw[<-p];simp
    |false=>simp only[Br,Db] at p ⊢;rw[p.1];exact⟨rfl,p.2⟩
   clear hK
   cases put with
   |true=>simp only[if_true] at m;refine Wz ?_;exact key _ H1 v X true (by simp only[zB,seval];exact J.1) (by simp only[zB,seval];exact J.2) ZbT ZbM g0 I Z hX (by simpa using m)
   |false=>
    simp only[Br,Db] at m;obtain⟨rfl,y⟩:=m
    cases hb:vU q.1 s.1 with
    |false=>
     refine Wz ?_;refine key _ H1 v X false (by simp only[zB,seval];exact J.1) (by simp only[zB,seval];exact J.2) ZbT ZbM g0 I Z hX ?_;simp only[Br,Db];refine⟨trivial,fun l DL=>?_⟩
     rcases Ar.1 DL with h|h
     . exact y l h
     rw[Ca] at h;subst h;exact hb
    |true=>obtain⟨a,n,z,b,r⟩:=push H1 v X q Z A0 g0 I;have :=oL q5;refine Wz ?_;rw[eL];simp only[n,bV,seval];have R:X.length=i:=(by rw[<-hT];simp;omega);refine key _ a _ (X++[q]) true zq zq ZbT ZbM z b r (by simp[R]) ?_;simp only[if_true];rw[a6 y,wD,if_pos hb];simp
 rintro f H1 E ⟨v,X,put,J,g0,I,Z,hX,m⟩;simp only[zM] at J;have f3:f 3=.ref 0 0:=E 3 rfl
 cases put with
 |true=>simp only[if_true] at m;rw[Jq,Bx] at m;refine Wz ?_;refine Rx ?_;exact⟨v,rfl,m▸Z⟩
 |false=>simp only[Br,Db] at m;obtain⟨rfl,y⟩:=m;obtain⟨a,n,z,b,r,B⟩:=Has.push (.inr Z) (ys:=[cX L q]) (bytes:=56) rfl (by simp only[Ah,As,Bo];omega);have :=oL q5;refine Wz ?_;rw[eL];simp only[n,bV,seval];refine Rx ?_;refine⟨_,rfl,?_⟩;rw[VJ y,Jq];rw[show S.take S.length++wD q []=S.take S.length++[q] from rfl,Cg];exact .inr ⟨H1.next,rfl,by omega,b⟩
theorem pW(b:Bool)(A B:Prop):gM aC b A B=B:=rfl
theorem Yb(x:Int)(H:aB):Sg 336 [.int .i64 x] H (.ret (.int .i64 (yA x))) H:=by
 refine So bKr Zad ?_ H;unfold aYh;unfold yA;by_cases h:x<0
 . have p:=Af h;simp only[↓zP,zJ,Nat.reduceLT,Nat.reduceEqDiff,p];refine Rx ?_;rw[if_pos h];rfl
 have p:=Ac h;by_cases Z:x>0
 . have q:=Af Z;simp only[↓zP,zJ,Nat.reduceLT,Nat.reduceEqDiff,p,q];refine Rx ?_;rw[if_neg h,if_pos Z];rfl
 have q:=Ac Z;simp only[↓zP,zJ,Nat.reduceLT,Nat.reduceEqDiff,p,q];refine Rx ?_;rw[if_neg h,if_neg Z];rfl
theorem aIf(n c:aH.V)(H:aB):Sg 311 [.agg (cS n),.agg (cS c)] H (.ret (.int .i64 (aH.tL n c))) H:=by
 refine So bKo Zae ?_ H;unfold aYe;dsimp only;refine Wz ?_;refine cH [] (fun i vs H'=>H'=((⟨0,.nil⟩:aB).alloc (.cells (cS n) false)).alloc (.cells (cS c) false)/\∀k,k<i->n.at k=0) 0 3 A1 A1 A1 ?_ ?_ ?_ ?_ ?_
 . exact ZaW
 . exact⟨rfl,fun k E=>absurd E (Am _)⟩
 . rintro i f H1 G F E T ⟨rfl,s⟩;exact ZbB
 . rintro i f H1 G F E T ⟨rfl,s⟩;have P:f 2=.ref 0 0:=E 2 rfl;have S:f 3=.ref 1 0:=E 3 rfl;have q:i+1<=3:=by omega
   refine aM ?_;by_cases A:n.at i=0
   . have X:(n.at i != 0)=false:=(by simp[A]);simp only[↓zP,zJ,Nat.reduceLT,Nat.reduceEqDiff,T,P,aI,F,aW,iY n F,q,X];refine⟨trivial,fun k E=>?_⟩;by_cases b:k=i
     . subst b;exact A
     exact s k A0
   have X:(n.at i != 0)=true:=by simp[A]
   have w:IntKind.i64.wrap (yA (n.at i)*yA (c.at i))=yA (n.at i)*yA (c.at i):=gU (B:=1*1) (by rw[Ew];exact Az (Oz _) (Oz _)) A1
   simp only[↓zP,zJ,Nat.reduceLT,Nat.reduceEqDiff,T,P,aI,F,aW,iY n F,q,X];refine Dz ?_;simp only[↓zP,zJ,Nat.reduceLT,Nat.reduceEqDiff,Nat.reduceAdd,zD,reduceCtorEq,T,P,aI,F,aW,iY n F,q];refine gV (Yb (n.at i) _) ?_;simp only[↓zP,zJ,Nat.reduceLT,Nat.reduceEqDiff,Nat.reduceAdd,zD,reduceCtorEq,T,S,aI,F,aW,iY c F,q];refine gV (Yb (c.at i) _) ?_;simp only[↓zP,zJ,Nat.reduceLT,Nat.reduceEqDiff,Nat.reduceAdd,zD,reduceCtorEq,w];refine Rx ?_;rw[rp n c F s A,Iw];rfl
 rintro f H1 E ⟨rfl,s⟩;simp only[↓zP];refine Rx ?_;rw[Tp n c s];rfl
def okV(n a b x:aH.V):Bool:= !(decide (aH.tL n (aH.bC (aH.sub b a) (aH.sub x a))<0)||(decide (aH.tL n (aH.bC (aH.sub b a) (aH.sub x a))=0)&&(decide (aH.dot (aH.sub x a) (aH.sub b a)<0)||decide (aH.dot (aH.sub x a) (aH.sub b a)>aH.dot (aH.sub b a) (aH.sub b a)))))
def HK(l:List aH.V)(n:aH.V)(d:Int)(a b:aH.V):Bool:=l.all fun x=> !decide (aH.dot n x=d)||okV n a b x
theorem bDb(hl:∀v∈l,bT M v)(hM:M<=2^18)(Q:l.length<2^30){n a b:aH.V}{d:Int}(D:bT B n)(hs:3*(B*M)<2^62)(I:bT M a)(hb:bT M b)(H:aB):
 Sg 280 [.bK 0 3 (bU l),.agg (cS n),.int .i64 d,.agg (cS a),.agg (cS b)] H (.ret (.bool (HK l n d a b))) H:=by
 have TR:Nat.blt 0 2=true:=rfl;have L:=gT hb I;have an:(M+M)*(M+M)<=2^19*2^19:=Az A0 A0;have sw:=zV hb I A0;have af:=rZ L L A0;refine So bJw (by simp only[sf,cT TR,cD]) ?_ H;unfold aXn;dsimp only;refine bP ?_;refine Wz ?_;refine fQ ?_;have :=oL (aW b);have :=oL (aW a);have :=oL (aW (aH.sub b a));refine Wz ?_;refine bQ ?_;have ak:(M+M)*M<=2^19*2^18:=Az A0 hM;generalize ae:aH.sub b a=w at *;refine aP fun K hK=>?_;simp only[↓zP,zG,Nat.reduceLT];refine cH [] (fun i vs H'=>H'.get 0=some (.cells (cS n) false)/\H'.get 1=some (.cells (cS a) false)/\H'.get 3=some (.cells (cS w) false)/\4<=H'.next/\aY H'/\∀x∈l.take i,aH.dot n x=d->okV n a b x=true) 0 l.length (Bh _) A0 A1 ?_ ?_ ?_ ?_ ?_
 . exact ZaW
 . refine⟨by simp only[zI,Nat.reduceAdd,Nat.reduceEqDiff],by simp only[zI,Nat.reduceAdd,Nat.reduceEqDiff],by simp only[zI,Nat.reduceAdd,Nat.reduceEqDiff],by simp only[zI,Nat.reduceAdd,Nat.reduceLeDiff],?_,fun v J=>by simp at J⟩;exact((((((aY.nil 0).alloc _).alloc _).alloc _).alloc _).set A3 _)
 . rintro i f H1 G F E T ⟨g0,g,U,gn,N,y⟩;have A:f 0=.bK 0 3 (bU l):=E 0 rfl;exact Zb9
 . rintro i f H1 G F E T ⟨g0,g,U,gn,N,y⟩;have A:f 0=.bK 0 3 (bU l):=E 0 rfl;have P:f 2=.int .i64 d:=E 2 rfl;have f6:f 6=.ref 0 0:=E 6 rfl;have z:f 8=.ref 1 0:=E 8 rfl;have s:f 11=.ref 3 0:=E 11 rfl;have hg:=cG F;have hm:=Ag F;have C:=hl _ hm
   have vZ:∀v,v∈l.take (i+1)->v∈l.take i\/v=l[i]:=fun v J=>by
    exact Zam
   have ag:aH.dot n l[i]=d->okV n a b l[i]=false->HK l n d a b=false:=fun O Z=>by unfold HK;rw[Jk];exact⟨l[i],hm,by simp[O,Z]⟩
   generalize l[i]=x at *;have hd:=rZ D C hs
   have ab:(aH.dot n x=d->okV n a b x=true)->∀v∈l.take (i+1),aH.dot n v=d->okV n a b v=true:=fun h v J=>by
    rcases vZ v J with O|rfl
    . exact y v O
    exact h
   refine aM ?_;refine aP fun K2 dJ=>?_;refine bP ?_;refine Dz ?_;simp only[↓zP,zJ,Nat.reduceLT,Nat.reduceEqDiff,Nat.reduceAdd,zD,reduceCtorEq,A,f6,T,g0,aI,aX,F,hg,oL (aW n),oL (aW x)];refine gV (hd _) ?_;simp only[↓zP,zJ,Nat.reduceLT,Nat.reduceEqDiff,Nat.reduceAdd,zD,reduceCtorEq,P];refine bQ ?_;by_cases R:aH.dot n x=d
   . have AB:(aH.dot n x != d)=false:=(by simp[R]);have ht:=gT C I;have st:=zV C I A0;have cr:=Nw L ht A0;have lf:=aIf n (aH.bC w (aH.sub x a));have a7:=rZ ht L A0
     have a6:okV n a b x= !(decide (aH.tL n (aH.bC w (aH.sub x a))<0)||(decide (aH.tL n (aH.bC w (aH.sub x a))=0)&&(decide (aH.dot (aH.sub x a) w<0)||decide (aH.dot (aH.sub x a) w>aH.dot w w)))):=by unfold okV;rw[ae]
     simp only[↓zP,zG,AB];apply dJ;clear dJ K2;refine bP ?_;refine fZ 1 A1 N.at1 fun H2 n2 o=>?_;have q1:=(o 1).trans g;simp only[↓zP,zJ,Nat.reduceLT,Nat.reduceEqDiff,Nat.reduceAdd,zD,reduceCtorEq,A,z,T,q1,aI,aX,F,hg,oL (aW x),oL (aW a)];refine gV (st _) ?_;generalize aj:aH.sub x a=t at *;have :=oL (aW t);refine Wy ?_;generalize hX:(H2.set H1.next _).set H1.next _=W;have m:=Kw hX o g0;have e:=Kw hX o g;have S:=Kw hX o U;have yr:=Kz hX;have yn:4<=W.next:=by subst hX;simp only[aB.bB];omega
     have yf:aY W:=fun j Y=>by subst hX;simp only[aB.bB] at Y;rw[aB.aD,if_neg A0,aB.aD,if_neg A0,o];exact N j A0
     clear hX;refine fQ ?_;refine Dz ?_;simp only[↓zP,zJ,Nat.reduceLT,Nat.reduceEqDiff,Nat.reduceAdd,zD,reduceCtorEq,f6,s,m,S,yr,oL (aW n),oL (aW w),oL (aW t)];refine gV (cr _) ?_;generalize aH.bC w t=cw at *;simp only[Nat.reduceAdd];refine gV (lf _) ?_;generalize aH.tL n cw=c at *;refine Wy ?_;refine bQ ?_;refine aP fun K2 dJ=>?_;refine Dz ?_
     have p:∀(u:dI) (r:Bool),u 63=.bool (!r)->okV n a b x=r->K2 u [] W:=by
      intro u r ad hr;apply dJ;clear dJ K2
      cases r with
      |true=>simp only[↓zP,zJ,ad];exact⟨m,e,S,yn,yf,ab fun _=>hr⟩
      |false=>refine Wy ?_;refine Rx ?_;rw[ag R hr];rfl
     clear dJ;by_cases c1:c<0
     . have d1:=Af c1;simp only[↓zP,zJ,Nat.reduceLT,Nat.reduceEqDiff,Nat.reduceAdd,zD,reduceCtorEq,d1,pW];exact p _ false ZaW (by rw[a6,d1];rfl)
     have d1:=Ac c1;by_cases X:c=0
     . have q:(c==0)=true:=(by simp[X]);have k:decide (c=0)=true:=Af X;simp only[↓zP,zJ,Nat.reduceLT,Nat.reduceEqDiff,Nat.reduceAdd,zD,reduceCtorEq,d1,q,s,S,yr,oL (aW w),oL (aW t)];refine gV (a7 _) ?_;by_cases c3:aH.dot t w<0
       . have d3:=Af c3;refine Wy ?_;exact p _ false ZaW (by rw[a6,d1,k,d3];rfl)
       have d3:=Ac c3;simp only[↓zP,zJ,Nat.reduceLT,Nat.reduceEqDiff,Nat.reduceAdd,zD,reduceCtorEq,d3,s,S,yr,oL (aW w),oL (aW t)];refine gV (a7 _) ?_;simp only[↓zP,zJ,Nat.reduceLT,Nat.reduceEqDiff,Nat.reduceAdd,zD,s,S,oL (aW w)];refine gV (af _) ?_;simp only[↓zP,zJ,Nat.reduceLT,Nat.reduceEqDiff,Nat.reduceAdd,zD,reduceCtorEq];exact p _ (!decide (aH.dot t w>aH.dot w w)) (by simp only[zB,Bool.not_not]) (by rw[a6,d1,k,d3];rfl)
     have q:(c==0)=false:=(by simp[X]);have k:decide (c=0)=false:=Ac X;simp only[↓zP,zJ,Nat.reduceLT,Nat.reduceEqDiff,Nat.reduceAdd,zD,reduceCtorEq,d1,q,pW];exact p _ true ZaW (by rw[a6,d1,k];rfl)
   have AB:(aH.dot n x != d)=true:=(by simp[R]);simp only[↓zP,zG,AB];exact⟨g0,g,U,gn,N,ab fun h=>absurd h R⟩
 rintro f H1 E ⟨g0,g,U,gn,N,y⟩;rw[Ap] at y
 have :HK l n d a b=true:=by
  unfold HK;rw[Bi];intro x C;by_cases h:aH.dot n x=d
  . simp[y x C h]
  simp[h]
 show K f [] H1;apply hK;simp only[↓zP,zG,Nat.reduceLT];refine Rx ?_;rw[this];rfl
theorem aIi(tag:Nat){l:List aH.V}{M B:Nat}(U:∀v∈l,bT M v)(g:M<=2^18)(Q:l.length<2^30){n a b:aH.V}{d:Int}(D:bT B n)(c:3*(B*M)<2^62)(I:bT M a)(X:bT M b)(H:aB):
 Sg 280 [.bK tag 3 (bU l),.agg (cS n),.int .i64 d,.agg (cS a),.agg (cS b)] H (.ret (.bool (HK l n d a b))) H:=(bDb U g Q D c I X H).JS tag
theorem ug(f:α->Bool)(z:α):∀l:List α,l.all f=(List.range l.length).all fun k=>f (l.getD k z):=fun l=>by
 rw[Eh,Bi,Bi];constructor
 . grind
 intro h x C;obtain⟨k,E,rfl⟩:=Dl C;simp_all
theorem aQc{n:aH.V}{d:Int}(a b:Nat):HK l n d (l.getD a V0) (l.getD b V0)=OD n (fun i=>l.getD i V0) (iF (fun i=>l.getD i V0) l.length n d) a b:=by unfold HK OD iF;rw[List.all_filter,ug _ V0];rfl
theorem a8{z:List Nat}(M:z.Pairwise (· < ·)){p:Nat->Bool}{b:Nat}(h:z.find? p=some b):b∈z/\p b=true/\∀k∈z,k<b->p k=false:=by
 obtain⟨O,xs,N,rfl,Z⟩:=List.find?_eq_some_iff_append.1 h;refine⟨by simp,O,fun k hk c=>?_⟩
 rcases Ar.1 hk with hk|hk
 . simpa using Z k hk
 rcases Ba.1 hk with rfl|hk
 . omega
 rw[List.pairwise_append] at M;have :=(Cj.1 M.2.1).1 k hk;omega
theorem aAk(U:∀v∈l,bT M v)(hM:M<=2^18)(Q:l.length<=64){n:aH.V}{d:Int}(hq:bT B n)(hs:3*(B*M)<2^62)
 {L:List Nat} (hP:Poly (fun i=>l.getD i V0) l.length n d L) (H:aB):
 Sg 239 [.bK 0 3 (bU l),.agg (cS n),.int .i64 d] H (.ret (.bK 0 1 (xV L))) H:=by
 have TR:Nat.blt 0 2=true:=rfl;refine fA fit dZ bIx (Ab rfl) (by simp only[sf,cT TR,cD]) ?_ H;have bb:=fun k (E:k∈L)=>hP.TZ E;obtain⟨s0,r,m,ZH,W,hL⟩:=hP.ex
 have vC:∀i,i<m->iter (tO n (fun i=>l.getD i V0) (iF (fun i=>l.getD i V0) l.length n d)) i s0∈L:=fun i F=>by rw[hL];exact Be.2 ⟨i,Bb.2 F,rfl⟩
 have VD:=Qm (fun i=>l.getD i V0) l.length n d
 have bq:m<=l.length:=by have O:=W.le;have Z:=Da (fun k=>decide (aH.dot n (l.getD k V0)=d)) (List.range l.length);rw[Bt] at Z;exact Aw O Z
 unfold aWo;dsimp only;have c:∀k (h:k<l.length),l.getD k V0=l[k]:=fun k h=>by simp[List.getD,h]
 have aK:s0<l.length/\aH.dot n (l.getD s0 V0)=d:=cJ.1 (show s0∈iF (fun i=>l.getD i V0) l.length n d by rw[ZH];simp)
 have bo:∀k,k<s0->k<l.length->aH.dot n (l.getD k V0)≠d:=fun k O Z h3=>by
  have :k∈iF (fun i=>l.getD i V0) l.length n d:=cJ.2 ⟨Z,h3⟩;rw[ZH] at this VD
  rcases Ba.1 this with h|h
  . omega
  have :=(Cj.1 VD).1 k h;omega
 refine bP ?_;refine Ty ?_;refine fQ ?_;refine Tz ?_;refine fQ ?_;refine Tz ?_;refine bQ ?_;refine aP fun K hK=>?_;refine Tz ?_;refine cH [8] (fun i vs H'=>H'=((⟨0,.nil⟩:aB).alloc (.cells (cS n) false))/\vs=[.int .i64 (if i<=s0 then -1 else(s0:Int))]) 0 (s0+1) (Bh _) A0 A1 ?_ ?_ ?_ ?_ ?_
 . exact zq
 . exact⟨rfl,by simp only[sm,zB,seval];rw[if_pos (Bh _)]⟩
 . rintro i f H1 G F E T ⟨rfl,J⟩;simp only[zM] at J;have A:f 0=.bK 0 3 (bU l):=E 0 rfl;have d1:decide ((i:Int)<(l.length:Int))=decide (i<l.length):=by rw[Bj];omega
   by_cases O:i<=s0
   . rw[if_pos O] at J;have Zx:decide ((i:Int)<(l.length:Int))=true:=Af A0;have d2:decide ((-1:Int)<0)=true:=rfl;simp only[↓zP,zG,seval,T,A,aX,Zx,J];exact⟨trivial,trivial,Al AV.bool (Af A0).symm⟩
   rw[if_neg O] at J;have d2:decide ((s0:Int)<0)=false:=Ac A0;by_cases hx:i<l.length
   . have Zx:decide ((i:Int)<(l.length:Int))=true:=Af A0;simp only[↓zP,zG,seval,T,A,aX,Zx,J,d2];exact ZaS
   have Zx:decide ((i:Int)<(l.length:Int))=false:=Ac A0;simp only[↓zP,zG,seval,T,A,aX,Zx];exact ZaS
 . rintro i f H1 G F E T ⟨rfl,J⟩;simp only[zM] at J;have A:f 0=.bK 0 3 (bU l):=E 0 rfl;have P:f 2=.int .i64 d:=E 2 rfl;have f4:f 4=.ref 0 0:=E 4 rfl;have p:i<l.length:=by omega
   have hg:=cG p;have hd:=rZ hq (U _ (Ag p)) hs;have ay:=bo i;rw[c i p] at ay;have aF:i=s0->aH.dot n l[i]=d:=fun h=>by rw[<-c i p,h];exact aK.2
   generalize l[i]=x at *;refine aM ?_;refine bP ?_;refine Dz ?_;have := @aX;have :=oL (aW n);have :=oL (aW x);refine Wy ?_;refine bQ ?_;by_cases R:i=s0
   . have q:(aH.dot n x==d)=true:=(by simp[aF R]);simp only[↓zP,zJ,seval,q,T];exact⟨trivial,by rw[if_neg A0,R]⟩
   have q:(aH.dot n x==d)=false:=(by simp[ay A0 p]);simp only[↓zP,zJ,seval,q,J];exact⟨trivial,by rw[if_pos A0,if_pos A0]⟩
 rintro f H1 E ⟨rfl,J⟩;simp only[zM] at J;rw[if_neg A0] at J;have A:f 0=.bK 0 3 (bU l):=E 0 rfl;have bf:f 2=.int .i64 d:=E 2 rfl;have f4:f 4=.ref 0 0:=E 4 rfl;have f7:f 7=.bG:=E 7 rfl;show K f [] _;apply hK;clear hK K;refine bP ?_;simp only[↓zP,zG,seval,J];refine bQ ?_;refine aP fun K hK=>?_;generalize Xf:iF (fun i=>l.getD i V0) l.length n d=z at *;generalize a6:iter (tO n (fun i=>l.getD i V0) z)=w at *
 have eZ:∀k∈z,k<l.length:=fun k E=>by rw[<-Xf] at E;exact(cJ.1 E).1
 refine aM ?_;refine jW [7,8] (fun I vs H'=>∃i,i<m/\I=m -i/\∃v,vs=[v,.int .i64 (w i s0:Nat)]/\H'.get 0=some (.cells (cS n) false)/\1<=H'.next/\Own H' 1 v (xV ((List.range i).map fun i=>w i s0))) m (by rfl) ?_ ?_
 . exact⟨0,W.pos,rfl,.bG,by simp only[sm,zB,seval,f7,J];rw[<-a6];rfl,by simp only[zI,seval],by simp only[zI,seval],.nil _ _⟩
 rintro I P H2 N ⟨i,F,rfl,v,rT,g0,gn,S⟩;simp only[zM] at rT;obtain⟨g,v8⟩:=rT;have k0:P 0=.bK 0 3 (bU l):=by rw[N 0 rfl];simp only[zB,seval];exact A
 have k2:P 2=.int .i64 d:=by rw[N 2 rfl];simp only[zB,seval];exact bf
 have k4:P 4=.ref 0 0:=by rw[N 4 rfl];simp only[zB,seval];exact f4
 have ag:P 10=.int .i64 s0:=N 10 rfl;have bp:i<=l.length:=by omega
 have d1:decide ((i:Int)<=(l.length:Int))=true:=Af A0;have p:((List.range i).map fun i=>w i s0).length=i:=by simp
 refine aP fun K2 dJ=>?_
 have key:∀u:dI,u 0=.bK 0 3 (bU l)->u 2=.int .i64 d->u 4=.ref 0 0->u 10=.int .i64 s0->u 7=v->u 8=.int .i64 (w i s0:Nat)->K2 u [] H2:=by
  intro f3 w0 w2 C az w7 w8;apply dJ;clear dJ K2;obtain⟨ak,ba⟩:=W.side i;have Uy:=ba.1;rw[a6] at ak Uy;have DK:tO n (fun i=>l.getD i V0) z (w i s0)=w (i+1) s0:=by rw[<-a6];rfl
  have Nj:=bb _ (vC i F);rw[DK] at Nj;unfold aH.TZ at Nj;obtain⟨_,ae,aO⟩:=a8 VD Nj;have ab:=eZ _ ak;have Xb:=eZ _ Uy;have xm:aH.dot n (l.getD (w (i+1) s0) V0)=d:=by rw[<-Xf] at Uy;exact(cJ.1 Uy).2
  have bl:∀k,k<l.length->aH.dot n (l.getD k V0)=d->k∈z:=fun k O Z=>by rw[<-Xf];exact cJ.2 ⟨O,Z⟩
  have TI:i+1=m->w (i+1) s0=s0:=fun h=>by rw[h,<-a6];exact W.back
  have bm:i+1<m->w (i+1) s0≠s0:=fun h=>by rw[<-a6];exact W.first (i+1) A0 h
  have aj:(List.range (i+1)).map (fun i=>w i s0)=(List.range i).map (fun i=>w i s0)++[w i s0]:=by rw[Dh,Cg];rfl
  generalize ha:w i s0=a at *;generalize hb:w (i+1) s0=b at *;generalize hX:(List.range i).map (fun i=>w i s0)=X at *;obtain⟨H5,z1,z2,z3,z4,z5⟩:=Has.push (.inr S) (ys:=[[AV.int .i64 (a:Nat)]]) (bytes:=8) rfl (by rw[dR,p,As,Bo];omega);have y0:=(z4 0 A0 (by rw[g0];simp)).trans g0;have yo:Own H5 1 (.bK (H2.next+2) 1 (xV (X++[a]))) (xV (X++[a])):=.inr ⟨H2.next,rfl,by omega,z3⟩;have b3:=U _ (Ag ab);refine aM ?_;refine bP ?_;refine Wy ?_;rw[eL];simp only[z1,bV,seval];refine bQ ?_;rw[show xV X++[[AV.int .i64 (a:Int)]]=xV (X++[a]) from by simp[xV]];refine bP ?_;refine Tz ?_;refine bQ ?_;refine aP fun K2 dJ=>?_;refine Ty ?_;refine cH [11] (fun k vs H'=>H'=H5/\vs=[.int .i64 (if k<=b then -1 else(b:Int))]) 0 (b+1) (Bh _) A0 A1 ?_ ?_ ?_ ?_ ?_
  . exact zq
  . exact⟨rfl,by simp only[sm,zB,seval];rw[if_pos (Bh _)]⟩
  . rintro k s H6 G b4 Xe Y ⟨rfl,ZJ⟩;simp only[zM] at ZJ;have e:s 0=.bK 0 3 (bU l):=by rw[Xe 0 rfl];simp only[zB,seval];exact w0
    by_cases O:k<=b
    . rw[if_pos O] at ZJ;have Zx:decide ((k:Int)<(l.length:Int))=true:=Af A0;have d2:decide ((-1:Int)<0)=true:=rfl;simp only[↓zP,zG,seval,Y,e,aX,Zx,ZJ];exact⟨trivial,trivial,Al AV.bool (Af A0).symm⟩
    rw[if_neg O] at ZJ;have d2:decide ((b:Int)<0)=false:=Ac A0;by_cases hx:k<l.length
    . have Zx:decide ((k:Int)<(l.length:Int))=true:=Af A0;simp only[↓zP,zG,seval,Y,e,aX,Zx,ZJ,d2];exact ZaS
    have Zx:decide ((k:Int)<(l.length:Int))=false:=Ac A0;simp only[↓zP,zG,seval,Y,e,aX,Zx];exact ZaS
  . rintro k s H6 G b4 Xe Y ⟨rfl,ZJ⟩;simp only[zM] at ZJ;have e:s 0=.bK 0 3 (bU l):=by rw[Xe 0 rfl];simp only[zB,seval];exact w0
    have j:s 2=.int .i64 d:=(by rw[Xe 2 rfl];simp only[zB,seval];exact w2);have u4:s 4=.ref 0 0:=(by rw[Xe 4 rfl];simp only[zB,seval];exact C);have u8:s 8=.int .i64 (a:Nat):=(by rw[Xe 8 rfl];simp only[zB,seval];exact w8);have CD:k<l.length:=A0;have ar:=cG CD;have b6:=cG ab;have an:=U _ (Ag CD);have hd:=rZ hq an hs;have b8:=aIi 0 U hM A0 hq hs (d:=d) b3 an;rw[if_pos (show k<=b by omega)] at ZJ
    have aN:(decide (k≠a)&&OD n (fun i=>l.getD i V0) z a k)=decide (k=b)\/k∉z:=by
     by_cases a7:k∈z
     . left;by_cases xt:k=b
       . subst xt;rw[ae];simp
       rw[aO k a7 A0];simp[xt]
     exact .inr a7
    have b9:HK l n d l[a] l[k]=OD n (fun i=>l.getD i V0) z a k:=by rw[<-c a ab,<-c k CD,aQc,Xf]
    have b7:aH.dot n l[k]=d->k∈z:=fun h=>bl k CD (by rw[c k CD];exact h);have bn:k∈z->aH.dot n l[k]=d:=fun h=>by rw[<-Xf] at h;have :=(cJ.1 h).2;rwa [c k CD] at this
    generalize l[k]=x at *;generalize l[a]=y at *;refine aM ?_;refine aP fun K3 DJ=>?_;refine Dz ?_
    have no:∀f6:dI,f6 65=.bool false->f6 11=.int .i64 (-1)->k≠b->K3 f6 [] H6:=by intro f6 aA aE ad;apply DJ;simp only[↓zP,zJ,seval,aA];exact⟨trivial,by rw[aE,if_pos (show k+1<=b by omega)]⟩
    by_cases OO:k=a
    . have q:(((k:Nat):Int) != ((a:Nat):Int))=false:=by rw[OO];simp
      have ad:k≠b:=fun h=>by rw[<-h,OO] at ae;simp at ae
      simp only[↓zP,zJ,seval,zD,Y,u8,q];exact no _ zq (by simp only[zB,seval];exact ZJ) ad
    have q:(((k:Nat):Int) != ((a:Nat):Int))=true:=(by rw[Ge];omega);simp only[↓zP,zJ,seval,zD,Y,e,u4,u8,y0,q,aI,aX,CD,ar,oL (aW n),oL (aW x)];refine gV (hd _) ?_;simp only[↓zP,zJ,seval,zD,j];by_cases D:aH.dot n x=d
    . have o:(aH.dot n x==d)=true:=(by simp[D]);have a7:=b7 D
      have bj:HK l n d y x=decide (k=b):=by
       rcases aN with h|h
       . rw[b9];simpa [OO] using h
       exact absurd a7 h
      rw[o];apply DJ;clear DJ K3 no;refine UH true zq (fun _=>?_) (fun h=>by cases h);refine bP ?_;refine Dz ?_;simp only[↓zP,zJ,seval,zD,Y,e,j,u4,u8,y0,aI,aX,CD,ab,ar,b6,oL (aW n),oL (aW x),oL (aW y)];refine gV (b8 _) ?_;rw[bj];refine Ww ?_;refine bQ ?_;by_cases xt:k=b
      . have d3:=Af xt;simp only[↓zP,zJ,seval,d3,Y];exact⟨trivial,by rw[if_neg A0,xt]⟩
      have d3:=Ac xt;simp only[↓zP,zJ,seval,d3,ZJ];exact⟨trivial,by rw[if_pos (show k+1<=b by omega)]⟩
    have o:(aH.dot n x==d)=false:=(by simp[D]);have ad:k≠b:=fun h=>D (bn (by rw[h];exact Uy));rw[o];exact no _ zq (by simp only[zB,seval];exact ZJ) ad
  rintro s H6 Xe ⟨rfl,ZJ⟩;simp only[zM] at ZJ;rw[if_neg A0] at ZJ;have af:s 10=.int .i64 s0:=by rw[Xe 10 rfl];simp only[zB,seval];exact az
  have u7:s 7=.bK (H2.next+2) 1 (xV (X++[a])):=Xe 7 rfl;show K2 s [] _;apply dJ;clear dJ K2;by_cases aq:i+1=m
  . have o:(((b:Nat):Int)==((s0:Nat):Int))=true:=by rw[TI aq];simp
    simp only[↓zP,zG,seval,ZJ,af,o];apply hK;clear hK K;simp only[↓zP,zG,seval,u7];refine Rx ?_;have bc:L=X++[a]:=(by rw[hL,<-aq];exact aj);refine⟨.bK (H2.next+2) 1 (xV (X++[a])),0,rfl,fun t=>?_⟩;rw[bc];have uD:=IU (X++[a]);simp[iH,kK,uD,EK]
  have o:(((b:Nat):Int)==((s0:Nat):Int))=false:=by have :=bm A0;rw[Dc];omega
  have d3:decide (((b:Nat):Int)<0)=false:=Ac A0;simp only[↓zP,zJ,seval,ZJ,af,o,d3];exact⟨m -(i+1),by omega,i+1,by omega,rfl,_,by rw[u7,hb],y0,by omega,by rw[aj];exact yo⟩
 rcases S with ⟨T,e2⟩|⟨k,T,e2,e3⟩
 . have b5:i=0:=by
    have :=Al List.length e2;rw[dR,p] at this;simpa using this
   subst b5;rw[T] at g;have Zx:decide ((0:Int)<=(l.length:Int))=true:=Af A0;simp only[↓zP,zG,seval,g,k0,aX];refine⟨fun _=>?_,fun h=>absurd (Int.natCast_nonneg _) h⟩;refine key _ ?_ ?_ ?_ ?_ ?_ ?_
   . simp only[zB,seval];exact k0
   . simp only[zB,seval];exact k2
   . simp only[zB,seval];exact k4
   . simp only[zB,seval];exact ag
   . simp only[zB,seval];rw[g,T]
   simp only[zB,seval];exact v8
 rw[T] at g;simp only[↓zP,zG,seval,g,k0,aX,dR,p,d1];refine key _ ?_ ?_ ?_ ?_ ?_ ?_
 . simp only[zB,seval];exact k0
 . simp only[zB,seval];exact k2
 . simp only[zB,seval];exact k4
 . simp only[zB,seval];exact ag
 . simp only[zB,seval];rw[g,T]
 simp only[zB,seval];exact v8
theorem Ya(tag:Nat){l:List aH.V}{M B:Nat}(U:∀v∈l,bT M v)(g:M<=2^18)(Q:l.length<=64){n:aH.V}{d:Int}(D:bT B n)(a:3*(B*M)<2^62)
 {L:List Nat} (o:Poly (fun i=>l.getD i V0) l.length n d L) (H:aB):
 Sg 239 [.bK tag 3 (bU l),.agg (cS n),.int .i64 d] H (.ret (.bK 0 1 (xV L))) H:=(aAk U g Q D a o H).JS tag
end Go.Proofs.YtogfcjbgeebfkaaGreatDoor
