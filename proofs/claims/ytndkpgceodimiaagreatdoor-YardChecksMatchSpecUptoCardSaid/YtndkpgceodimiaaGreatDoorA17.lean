/-
  Part of the proof of statement 10
-/
import Derived.Test.YtndkpgceodimiaaGreatDoorA16
import Derived.Test.YtndkpgceodimiaaGreatDoorA06
import Derived.Test.YtndkpgceodimiaaGreatDoorA15
import Derived.Test.YtndkpgceodimiaaGreatDoorA07
set_option linter.unusedVariables false
set_option maxRecDepth 100000
set_option maxHeartbeats 16000000
namespace Go.Proofs.YtndkpgceodimiaaGreatDoor
open Go Go.Av Go.aI
attribute [local congr] aV aO aP aL aX aR aQ aH aY
attribute [local irreducible] FC bY eX
theorem fW {x:Int} {B:Nat} (h:x.natAbs<=B) (hB:B<2^63):IntKind.i64.wrap x=x:=wrap_i64 (by omega) (by omega)
theorem bT.c {A:Nat} {v:aI.V} (h:bT A v) (i:Nat):(v.at i).natAbs<=A:=by
 unfold V.at;split
 · exact h.1
 · exact h.2.1
 exact h.2.2
theorem IB {a b:aI.V} {A B:Nat} (ha:bT A a) (hb:bT B b) (hs:3*(A*B)<2^62) (H:aA):Sg 168 [.agg (cG a),.agg (cG b)] H (.ret (.int .i64 (aI.dot a b))) H:=by
 have h1:=bV ha.1 hb.1;have h2:=bV ha.2.1 hb.2.1;have h3:=bV ha.2.2 hb.2.2;have w1:=fW h1 (by omega);have w2:=fW h2 (by omega);have w3:=fW h3 (by omega);have w4:IntKind.i64.wrap (a.x*b.x+a.y*b.y)=a.x*b.x+a.y*b.y:=fW (B:=2*(A*B)) (by omega) (by omega);have w5:IntKind.i64.wrap (a.x*b.x+a.y*b.y+a.z*b.z)=a.x*b.x+a.y*b.y+a.z*b.z:=fW (B:=3*(A*B)) (by omega) (by omega);refine So aWr (by simp only[sf,cE]) ?_ H;unfold aMc;dsimp only;simp only[↓zP,zJ,seval,cG,nC,w1,w2,w3,w4,w5]
 (refine Rx ?_;rfl)
theorem Qx {x y:Int} {M:Nat} (hx:x.natAbs<=M) (hy:y.natAbs<=M) (hM:M<2^61):IntKind.i64.wrap (x -y)=x -y:=fW (B:=2*M) (by omega) (by omega)
theorem RK {a b:aI.V} {A B:Nat} (ha:bT A a) (hb:bT B b) (hs:A*B<2^61) (H:aA):Sg 228 [.agg (cG a),.agg (cG b)] H (.ret (.agg (cG (aI.aT a b)))) H:=by
 obtain⟨a1,a2,a3⟩:=ha;obtain⟨b1,b2,b3⟩:=hb;have w1:=fW (bV a2 b3) (by omega);have w2:=fW (bV a3 b2) (by omega);have w3:=fW (bV a3 b1) (by omega);have w4:=fW (bV a1 b3) (by omega);have w5:=fW (bV a1 b2) (by omega);have w6:=fW (bV a2 b1) (by omega);have w7:=Qx (bV a2 b3) (bV a3 b2) hs;have w8:=Qx (bV a3 b1) (bV a1 b3) hs;have w9:=Qx (bV a1 b2) (bV a2 b1) hs;refine So aYf (by simp only[sf,cE]) ?_ H;unfold aNp;dsimp only;simp only[zJ,seval,cG,nC,w1,w2,w3,w4,w5,w6,w7,w8,w9]
 (refine Rx ?_;rfl)
theorem eh {a:aI.V} {A:Nat} (ha:bT A a) (hs:A<2^62) (H:aA):Sg 146 [.agg (cG a)] H (.ret (.agg (cG (aI.neg a)))) H:=by
 obtain⟨a1,a2,a3⟩:=ha;have w1:IntKind.i64.wrap (0 -a.x)= -a.x:=(fW (B:=A) (by omega) (by omega)).trans (by omega);have w2:IntKind.i64.wrap (0 -a.y)= -a.y:=(fW (B:=A) (by omega) (by omega)).trans (by omega);have w3:IntKind.i64.wrap (0 -a.z)= -a.z:=(fW (B:=A) (by omega) (by omega)).trans (by omega);refine So aJl (by simp only[sf,cE]) ?_ H;unfold aCy;dsimp only;simp only[↓zP,zJ,seval,cG,nC,w1,w2,w3]
 (refine Rx ?_;rfl)
theorem aHu {a b:aI.V} {A B:Nat} (ha:bT A a) (hb:bT B b) (hs:A+B<2^62) (H:aA):Sg 232 [.agg (cG a),.agg (cG b)] H (.ret (.agg (cG (aI.add a b)))) H:=by
 refine So aYi (by simp only[sf,cE]) ?_ H;unfold aNs;dsimp only;simp only[↓zP,zJ,seval,cG];refine fJ [] (fun i _ H'=>H'.get 0=some (.cells ([0,1,2].map fun j=>if j<i then .int .i64 (a.at j+b.at j) else .int .i64 (a.at j)) false)/\H'.get 1=some (.cells (cG b) false)/\H'.get 2=some (.cells [.int .i64 0,.int .i64 0,.int .i64 0] false)) 3 (by decide) rfl (by decide) ?_ ?_ ?_ ?_
 · simp only[zB,seval]
 · simp only[seval,zI,As];exact⟨rfl,rfl,trivial⟩
 · rintro i f H hi hk e1 ⟨g0,g1,g2⟩;have hl:([0,1,2].map fun j=>if j<i then AV.int .i64 (a.at j+b.at j) else .int .i64 (a.at j)).length=3:=by simp
   have hg:([0,1,2].map fun j=>if j<i then AV.int .i64 (a.at j+b.at j) else .int .i64 (a.at j)).getD i aD=.int .i64 (a.at i):=by
    match i,hi with
    |0,_=>rfl
    |1,_=>rfl
    |2,_=>rfl
   have w:IntKind.i64.wrap (a.at i+b.at i)=a.at i+b.at i:=by have h1:=bT.c ha i;have h2:=bT.c hb i;exact fW (B:=A+B) (by omega) (by omega)
   refine aF ?_;refine bQ ?_;simp only[↓zP,zG,seval,e1];refine bR ?_;refine Dz ?_;generalize hc:([0,1,2].map fun j=>if j<i then AV.int .i64 (a.at j+b.at j) else .int .i64 (a.at j))=cs at *;simp only[↓zP,zJ,seval,zD,hk 2 rfl,hk 3 rfl,aB,hi,g0,g1,hl,hg,aM,jP b hi,w,show i+1<=3 by omega];subst hc;refine⟨?_,g2⟩
   match i,hi with
   |0,_=>rfl
   |1,_=>rfl
   |2,_=>rfl
 rintro f H hk ⟨g0,g1,g2⟩;simp only[↓zP,zJ,seval,hk 2 rfl,hk 4 rfl,g0,g2];exact⟨rfl,_,by simp only[↓zP,zR,seval,hk 4 rfl];rfl,rfl⟩
theorem UR (a b:aI.V):aI.add a (aI.neg b)=aI.sub a b:=by simp only[aI.add,aI.neg,aI.sub,Int.sub_eq_add_neg]
theorem JV {a b:aI.V} {A B:Nat} (ha:bT A a) (hb:bT B b) (hs:A+B<2^62) (H:aA):Sg 170 [.agg (cG a),.agg (cG b)] H (.ret (.agg (cG (aI.sub a b)))) H:=by refine Sp aWt (by simp only[sf,cE]) (by simp only[sf,cE]) ?_ H;unfold aMe;dsimp only;simp only[↓zP,zJ,seval];refine Dz ?_;simp only[↓zP,zJ,seval,zD,oL (aM a),oL (aM b)];refine eE (eh hb (by omega) _) ?_;simp only[seval];refine eE (aHu ha (JB hb) hs _) ?_;rw[UR];simp only[↓zP,zJ,seval,zD,oL (aM (aI.sub a b))];exact⟨rfl,_,by simp only[↓zP,zR,seval,oL (aM (aI.sub a b))];rfl,rfl⟩
theorem VW (a:Int) (H:aA):Sg 227 [.int .i64 a] H (.ret (.bool false)) H:=by
 refine So aYe (by simp only[sf]) ?_ H;unfold aNo;dsimp only;simp only[↓zP,zJ,seval,Ib]
 (refine Rx ?_;rfl)
def uO (a b:Int):Int:=if a<b then -1 else if b<a then 1 else 0
theorem jF (a b:Int) (H:aA):Sg 162 [.int .i64 a,.int .i64 b] H (.ret (.int .i64 (uO a b))) H:=by
 refine So aWn (by simp only[sf]) ?_ H;unfold aLy;dsimp only;simp only[↓zP,zJ,seval];refine bW (VW a _) ?_;simp only[↓zP,zJ,seval];refine bW (VW b _) ?_;simp only[↓zP,zJ,seval];refine⟨fun h=>?_,fun h=>⟨fun h2=>?_,fun h2=>?_⟩⟩<;>refine Rx ?_<;>unfold uO
 · rw[if_pos (by omega)];rfl
 · rw[if_neg (by omega),if_pos (by omega)];rfl
 rw[if_neg (by omega),if_neg (by omega)];rfl
def orZ (l:List Int):Int:=(l.find? (· ≠0)).getD 0
theorem sx (l:List Int) (hl:l.length<2^30) (H:aA):Sg 161 [.aU 1 1 (eY l)] H (.ret (.int .i64 (orZ l))) H:=by
 refine So aWm (by simp only[sf,HN]) ?_ H;unfold aLx;dsimp only;refine bQ ?_;simp only[↓zP,zG,seval];refine fM ?_;simp only[↓zP,zG,seval];refine bR ?_;refine aG fun K hK=>?_;refine bQ ?_;simp only[↓zP,zJ,seval];refine bR ?_;refine bO [] (fun i _ H=>∀x∈l.take i,x=0) l.length (by omega) (by decide) ?_ ?_ ?_ ?_ ?_
 · simp only[zB,seval]
 · simp only[zB,seval,dX]
 · intro x hx;simp at hx
 · intro i f H hi hk e1 hj;have hg:(eY l).getD i []=[.int .i64 l[i]]:=by simp[eY,List.getD,hi]
   refine aF ?_;by_cases hz:l[i]=0
   · simp only[↓zP,zJ,seval,e1,hk 6 rfl,hk 3 rfl,aB,dX,hi,hg,hz,show((0:Int) != 0)=false from rfl];intro x hx;rw[Al,An] at hx
     rcases hx with hx|hx
     · exact hj x hx
     simp[hi] at hx;rw[hx,hz]
   have hb:(l[i] != 0)=true:=(by simpa using hz);simp only[↓zP,zJ,seval,e1,hk 6 rfl,hk 3 rfl,aB,dX,hi,hg,hb];refine Rx ?_
   have :l.find? (· ≠0)=some l[i]:=by
    conv=>lhs;rw[<-Gb i l]
    rw[List.find?_append,Hv.2 (fun x hx=>by simp[hj x hx]),Ct hi,Jo (by simpa using hz)];rfl
   rw[orZ,this];rfl
 intro f H hk hj;rw[Ao] at hj;simp only[↓zP,seval];apply hK;simp only[↓zP,zG,seval,hk 3 rfl];refine Rx ?_;have :l.find? (· ≠0)=none:=Hv.2 fun x hx=>by simp[hj x hx]
 rw[orZ,this];rfl
def lF (q:aI.V×Int):List AV:=[.int .i64 q.1.x,.int .i64 q.1.y,.int .i64 q.1.z,.int .i64 q.2]
theorem BD (q:aI.V×Int):bL (lF q)=true:=by simp only[lF,sf]
theorem vo {a b:Int} {B:Nat} (ha:a.natAbs<=B) (hb:b.natAbs<=B) (hB:B<2^62) (H:aA):Sg 229 [.int .i64 a,.int .i64 b] H (.ret (.int .i64 (Int.gcd a b))) H:=by
 refine So aYg (by simp only[sf]) ?_ H;unfold aNq;dsimp only;refine bQ ?_;simp only[↓zP,zG,seval];refine bR ?_;refine aG fun K hK=>?_;refine aF (iG [0,1] (fun m vs _=>∃x y:Int,vs=[.int .i64 x,.int .i64 y]/\x.natAbs<=B/\y.natAbs<=B/\m=y.natAbs/\Int.gcd x y=Int.gcd a b) b.natAbs (by rfl) ?_ ?_)
 · exact⟨a,b,by simp only[sm,zB,seval,fG],ha,hb,rfl,rfl⟩
 rintro m f H hk ⟨x,y,hv,hx,hy,rfl,hg⟩;simp only[zM] at hv;obtain⟨h0,h1⟩:=hv;by_cases Mn:y=0
 · subst Mn;have hw:IntKind.i64.wrap (0 -x)= -x:=(fW (B:=B) (by omega) (by omega)).trans (by omega);simp only[↓zP,zG,seval,h1,show((0:Int) != 0)=false from rfl];apply hK;simp only[↓zP,zG,seval,h0,hw];refine Rx ?_
   have RS:(Int.gcd a b:Int)=if -x>x then -x else x:=(by rw[<-hg,aEq]);rw[RS];rfl
 have dR:(y != 0)=true:=by simpa using Mn
 simp only[↓zP,zG,seval,h1,dR];refine aF (UL (by decide) ?_);simp only[↓zP,zG,seval,zD,h0,h1];rw[if_neg Mn]
 have eZ:(x.tmod y).natAbs<y.natAbs:=by rw[natAbs_tmod];exact Dg _ (by omega)
 simp only[zG,seval,zD];exact⟨_,eZ,y,x.tmod y,by simp only[sm,zB,seval],hy,by omega,rfl,by rw[No,hg]⟩
theorem Uy {a b:Int} {B:Nat} (ha:a.natAbs<=B) (hb:b.natAbs<=B):Int.gcd a b<=B:=by
 unfold Int.gcd
 rcases Hr a.natAbs with h|h
 · rw[h,Gw];exact hb
 exact Cb (Nat.gcd_le_left _ h) ha
def JR (a b c:aI.V):aI.V×Int:=let n:=gJ (aI.aT (aI.sub b a) (aI.sub c a));(n,aI.dot n a)
theorem ZG {a b c:aI.V} {M:Nat} (ha:bT M a) (hb:bT M b) (hc:bT M c) (hM:M<=2^18) (H:aA):Sg 164 [.agg (cG a),.agg (cG b),.agg (cG c)] H (.ret (.agg (lF (JR a b c)))) H:=by
 have hu:=fV hb ha;have hw:=fV hc ha;have hn:=kK hu hw;have hMM:(M+M)*(M+M)<=2^19*2^19:=Bq (by omega) (by omega);have aTs:2*((M+M)*(M+M))*M<=2^39*2^18:=Bq (by omega) (by omega);refine Sp aWo (by simp only[sf,cE]) (by simp only[sf,BD]) ?_ H;unfold aLz;dsimp only;refine bQ ?_;simp only[↓zP,zJ,seval];refine fM ?_;refine lN 1 (by decide) (by simp only[mQ,seval,zI,Jc,Df]) fun H1 n1 e1=>?_;simp only[zI,seval] at n1 e1;simp only[↓zP,zJ,seval,zD,e1,oL (aM a),oL (aM b)];refine eE (JV hb ha (by omega) _) ?_;simp only[↓zP,zJ,seval,zD,e1,oL (aM a),oL (aM c)];refine eE (JV hc ha (by omega) _) ?_;simp only[seval];refine eE (RK hu hw (by omega) _) ?_;generalize hN:aI.aT (aI.sub b a) (aI.sub c a)=N at *;simp only[↓zP,zJ,seval,zD,n1,e1,oL (aM N)];refine bR ?_;generalize hB:2*((M+M)*(M+M))=B at *;generalize hX:(H1.set 4 _).set 4 _=H2;have g0:H2.get 0=some (.cells (cG a) false):=by subst hX;simp only[seval,zI,e1]
 have g3:H2.get 3=some (.cells [.int .i64 0,.int .i64 0,.int .i64 0,.int .i64 0] false):=by subst hX;simp only[seval,zI,e1]
 have g4:H2.get 4=some (.cells (cG N) false):=by subst hX;simp only[seval,zI]
 clear hX e1 n1
 have CT:(Int.gcd N.x N.y:Int).natAbs<=B:=by rw[Eo];exact Uy hn.1 hn.2.1
 have hp:=tG hn;refine aG fun K hK=>?_;refine bQ ?_;refine Dz ?_;simp only[↓zP,zJ,seval,zD,g4,nC,cG];refine eE (vo hn.1 hn.2.1 (by omega) _) ?_;simp only[↓zP,zJ,seval,zD,g4,nC,cG];refine eE (vo CT hn.2.2 (by omega) _) ?_;simp only[↓zP,zJ,seval,zD,PU];refine bR ?_
 have fin:∀(f:dD) (H3:aA),f 3=.ref 0 0->f 6=.ref 3 0->f 7=.ref 4 0->H3.get 0=some (.cells (cG a) false)->H3.get 3=some (.cells [.int .i64 0,.int .i64 0,.int .i64 0,.int .i64 0] false)->H3.get 4=some (.cells (cG (gJ N)) false)->K f [] H3:=by intro f H3 f3 f6 f7 g0 g3 g4;apply hK;clear hK K;refine bQ ?_;refine Dz ?_;simp only[↓zP,zJ,seval,zD,f3,f7,g0,g4,oL (aM a),oL (aM (gJ N))];refine eE (IB hp ha (by omega) _) ?_;simp only[↓zP,zJ,seval,zD,f6,g3,cG];refine bR ?_;simp only[↓zP,seval];refine⟨rfl,_,by simp only[↓zP,zR,seval,f6];rfl,?_⟩;simp only[JR,hN,lF];rfl
 simp only[↓zP,zG,seval];refine⟨fun hgt=>?_,fun hle=>?_⟩
 · have cK:¬((gE N:Nat):Int)=0:=by omega
   have ep:=Rj N;have q1:IntKind.i64.wrap (N.x.tdiv (gE N))=(gJ N).x:=(by rw[fW (B:=B) (by have :=hp.1;rw[ep] at this;exact this) (by omega),ep]);have q2:IntKind.i64.wrap (N.y.tdiv (gE N))=(gJ N).y:=(by rw[fW (B:=B) (by have :=hp.2.1;rw[ep] at this;exact this) (by omega),ep]);have q3:IntKind.i64.wrap (N.z.tdiv (gE N))=(gJ N).z:=(by rw[fW (B:=B) (by have :=hp.2.2;rw[ep] at this;exact this) (by omega),ep]);refine Dz ?_;simp only[↓zP,zJ,seval,zD,g4,nC,cG,cK,q1,q2,q3];apply fin<;>simp only[↓zP,zJ,seval,g0,g3,cG]
 have e1:gJ N=N:=aAi (by omega)
 apply fin<;>first|(simp only[↓zP,zG,seval];done)|(rw[e1];exact g4)|assumption
end Go.Proofs.YtndkpgceodimiaaGreatDoor
namespace Go.Proofs.YtndkpgceodimiaaGreatDoor
open Go Go.Av Go.aI Go.sK
attribute [local congr] aV aO aP aL aX aR aQ aH aY
attribute [local irreducible] FC bY eX
theorem WS {p q n:Nat} (hn:n<2^64) (e:n=p*4294967296+q) (hq:q<4294967296):IntKind.u64.wrap (p:Int)=p/\IntKind.u64.wrap ((p:Int)*4294967296)=(p:Int)*4294967296/\IntKind.u64.wrap (q:Int)=q/\IntKind.u64.wrap ((p:Int)*4294967296+(q:Int))=n:=by refine⟨?_,?_,?_,?_⟩<;>rw[DW (k:=.u64) rfl]<;>simp only[IntKind.bits]<;>omega
theorem aSy {n:Nat} (h:n<2^64):n=bF n 1*4294967296+bF n 0/\bF n 0<4294967296:=by
 have hW:W=4294967296:=rfl;have e1:bF n 1=n / 4294967296%4294967296:=by simp[bF,hW]
 have e0:bF n 0=n%4294967296:=by simp[bF,hW]
 omega
theorem Rn {z:Int} (h0: -2^63<=z) (h1:z<2^63) (H:aA):Sg 185 [.agg (cI z)] H (.ret (.jR [.int .i64 z,.bool true])) H:=by
 refine So aXe (by simp only[sf,dC]) ?_ H;unfold aMo;dsimp only;have hz:z.natAbs<W^16:=w63 (by omega);have gz:=uC (iU.enc hz);have lo:=vS (z:= -9223372036854775808) (by decide) (by decide);have hi:=vS (z:=9223372036854775807) (by decide) (by decide);have c1:=CH hz (y:= -9223372036854775808) (by decide);have c2:=CH hz (y:=9223372036854775807) (by decide);have d1:decide (kS (some z) (some (-9223372036854775808))<0)=false:=Ae (by simp only[kS];split<;>(try split)<;>omega);have d2:decide (kS (some z) (some 9223372036854775807)>0)=false:=Ae (by simp only[kS];split<;>(try split)<;>omega);obtain⟨s1,s2⟩:=aSy (n:=z.natAbs) (by omega);obtain⟨w1,w2,w3,w4⟩:=WS (by omega) s1 s2
 have w5:IntKind.i64.wrap (z.natAbs:Int)=if z<0/\z.natAbs=2^63 then z else(z.natAbs:Int):=by
  by_cases h:z.natAbs=2^63
  · rw[if_pos ⟨by omega,h⟩,h];have :z= -2^63:=by omega
    rw[this];rfl
  rw[if_neg (fun hh=>h hh.2)];exact wrap_i64 (by omega) (by omega)
 have CT:(wC (bC 16 z.natAbs)).getD 1 aD=.int .u32 (bF z.natAbs 1:Nat):=by rw[vH (by rw[cM];decide),kM (by decide)]
 have xi:(wC (bC 16 z.natAbs)).getD 0 aD=.int .u32 (bF z.natAbs 0:Nat):=by rw[vH (by rw[cM];decide),kM (by decide)]
 have hl:=iL (.bC z.natAbs);have gM:∀z,(cI z).length=18:=fun z=>by simp[cI,dA,cM]
 have e1:(cI z).getD 1 aD=.bool (decide (z<0)):=rfl;have e2:(cI z).getD 2 aD=.int .u32 (bF z.natAbs 0:Nat):=xi;have e3:(cI z).getD 3 aD=.int .u32 (bF z.natAbs 1:Nat):=CT;refine bQ ?_;simp only[↓zP,zJ,seval];refine fM ?_;simp only[↓zP,zJ,seval];refine bW (gz _) ?_;simp only[Bd];simp only[↓zP,zJ,seval];refine fM ?_;simp only[↓zP,seval];refine bW (lo _) ?_;simp only[↓zP,zJ,seval,oL (gM (-9223372036854775808))];refine fM ?_;simp only[↓zP,seval];refine bW (hi _) ?_;simp only[↓zP,zJ,seval,oL (gM 9223372036854775807)];refine fM ?_;simp only[↓zP,zJ,seval];refine bW (c1 _) ?_;simp only[↓zP,zJ,seval,d1];refine bW (c2 _) ?_;simp only[↓zP,zG,seval,d2];refine fM ?_;simp only[↓zP,zJ,seval,nC,e2,e3,w1,w2,w3,w4,w5];refine bR ?_;by_cases hn:z<0
 · rw[Af hn] at e1
   have w6:IntKind.i64.wrap (0 -(if z<0/\z.natAbs=2^63 then z else(z.natAbs:Int)))=z:=by
    by_cases h:z.natAbs=2^63
    · rw[if_pos ⟨hn,h⟩];have :z= -2^63:=(by omega);rw[this];rfl
    rw[if_neg (fun hh=>h hh.2),wrap_i64 (by omega) (by omega)];omega
   simp only[↓zP,zJ,seval,e1,w6];refine Rx ?_;rfl
 rw[Ae hn] at e1;simp only[↓zP,zJ,seval,e1];refine Rx ?_;rw[if_neg (fun hh=>hn hh.1),show(z.natAbs:Int)=z by omega];rfl
theorem Yg {a b:Int} (ha:a.natAbs<2^62) (hb:b.natAbs<2^62) (H:aA):Sg 322 [.agg (cI a),.agg (cI b)] H (.ret (.agg (cI (Int.gcd a b)))) H:=by
 refine Sp aZy (by simp only[sf,dC]) (by simp only[AV.free,dC]) ?_ H;unfold aPf;dsimp only;refine bQ ?_;simp only[↓zP,zJ,seval];refine fM ?_;simp only[↓zP,zJ,seval];refine bW (rK ha _) ?_;simp only[↓zP,zJ,seval];refine fM ?_;simp only[↓zP,zJ,seval];refine bW (rK hb _) ?_;simp only[↓zP,zJ,seval];refine bR ?_;refine aG fun K hK=>?_;simp only[↓zP,zG,seval];refine aF (iG [5,7] (fun m vs H'=>H'=(((⟨0,.nil⟩:aA).alloc (.cells (cI a) false)).alloc (.cells (cI b) false)).alloc (.cells (.bool false::.bool false::wC zs) false)/\∃x y:Int,vs=[.int .i64 x,.int .i64 y]/\x.natAbs<2^62/\y.natAbs<2^62/\m=y.natAbs/\Int.gcd x y=Int.gcd a b) b.natAbs (by rfl) ?_ ?_)
 · exact⟨rfl,a,b,by simp only[sm,zB,seval],ha,hb,rfl,rfl⟩
 rintro m f H hk ⟨rfl,x,y,hv,hx,hy,rfl,hg⟩;simp only[zM] at hv;obtain⟨h0,h1⟩:=hv;have f4:f 4=.ref 2 0:=hk 4 rfl;by_cases Mn:y=0
 · subst Mn;have ho:=vS (z:=x) (by omega) (by omega);have CQ:=aHb (z:=x) (vl hx);have RS:(x.natAbs:Int)=Int.gcd a b:=by rw[<-hg];simp[Int.gcd]
   rw[RS] at CQ;simp only[↓zP,zG,seval,h1,h0,show((0:Int) != 0)=false from rfl];refine bW (ho _) ?_;refine bW (CQ _) ?_;simp only[↓zP,zJ,seval,f4];refine⟨rfl,_,by simp only[↓zP,zR,seval,f4];rfl,?_⟩;rfl
 have dR:(y != 0)=true:=by simpa using Mn
 have eZ:(x.tmod y).natAbs<y.natAbs:=by rw[natAbs_tmod];exact Dg _ (by omega)
 simp only[↓zP,zJ,seval,h1,dR];refine aF ?_;simp only[↓zP,zG,seval,h0,h1];rw[if_neg Mn];simp only[zG,seval];exact⟨_,eZ,trivial,y,x.tmod y,by simp only[seval],hy,by omega,rfl,by rw[No,hg]⟩
theorem nc {n m:Int} (hm:0<m) (hd:m∣n) (hn:n.natAbs<2^62) (H:aA):Sg 346 [.int .i64 n,.int .i64 m] H (.ret (.int .i64 (n / m))) H:=by
 refine So bAl (by simp only[sf]) ?_ H;unfold aPq;dsimp only;have e1:n.tdiv m=n / m:=Hz hd;have e2:n.tmod m=0:=Int.tmod_eq_zero_of_dvd hd
 have hw:IntKind.i64.wrap (n / m)=n / m:=by
  obtain⟨k,rfl⟩:=hd;rw[Int.mul_ediv_cancel_left _ (by omega)]
  have :k.natAbs<=(m*k).natAbs:=by rw[Ga];exact Jm _ (by omega)
  exact wrap_i64 (by omega) (by omega)
 have Xw:¬m=0:=by omega
 simp only[↓zP,zJ,seval,e1,e2,hw,Xw,show((0:Int) != 0)=false from rfl];refine Rx ?_;rfl
theorem Yi {n m:Int} (hm:0<m) (hd:m∣n) (hn:n.natAbs<2^62) (hm2:m.natAbs<2^62) (H:aA):Sg 324 [.agg (cI n),.agg (cI m)] H (.ret (.agg (cI (n / m)))) H:=by
 refine Sp bAa (by simp only[sf,dC]) (by simp only[AV.free,dC]) ?_ H;unfold aPh;dsimp only;have hb:(m != 0)=true:=by rw[Dc];omega
 have hf:=nc hm hd hn
 have hq:(n / m).natAbs<2^62:=by
  obtain⟨k,rfl⟩:=hd;rw[Int.mul_ediv_cancel_left _ (by omega)]
  have :k.natAbs<=(m*k).natAbs:=by rw[Ga];exact Jm _ (by omega)
  omega
 have ho:=vS (z:=n / m) (by omega) (by omega);refine bQ ?_;simp only[↓zP,zJ,seval];refine fM ?_;simp only[↓zP,zJ,seval];refine bW (rK hn _) ?_;simp only[↓zP,zJ,seval];refine fM ?_;simp only[↓zP,zJ,seval];refine bW (rK hm2 _) ?_;simp only[↓zP,zJ,seval];refine bR ?_;refine aG fun K hK=>?_;simp only[↓zP,zG,seval,hb];refine bW (hf _) ?_;refine bW (ho _) ?_;simp only[↓zP,zJ,seval];refine Rx ?_;rfl
end Go.Proofs.YtndkpgceodimiaaGreatDoor
namespace Go.Proofs.YtndkpgceodimiaaGreatDoor
open Go Go.Av Go.sK Go.aI
attribute [local congr] aV aO aP aL aX aR aQ aH aY
attribute [local irreducible] FC bY eX
theorem aAu {a b:Int} (ha:a.natAbs<=64) (hb:b.natAbs<=64) (H:aA):Sg 129 [.int .i64 a,.int .i64 b] H (.ret (.int .i64 (Int.gcd a b))) H:=by
 refine So aVq (by simp only[sf]) ?_ H;unfold aLe;dsimp only;refine bQ ?_;simp only[↓zP,zG,seval];refine bR ?_;refine aG fun K hK=>?_;refine aF (iG [0,1] (fun m vs H'=>H'=⟨0,.nil⟩/\∃x y:Int,vs=[.int .i64 x,.int .i64 y]/\x.natAbs<=64/\y.natAbs<=64/\m=y.natAbs/\Int.gcd x y=Int.gcd a b) b.natAbs (by rfl) ?_ ?_)
 · exact⟨rfl,a,b,by simp only[sm,zB,seval];rfl,ha,hb,rfl,rfl⟩
 rintro m f H hk ⟨rfl,x,y,hv,hx,hy,rfl,hg⟩;simp only[zM] at hv;obtain⟨h0,h1⟩:=hv;by_cases Mn:y=0
 · subst Mn;have RS:(x.natAbs:Int)=Int.gcd a b:=by rw[<-hg];simp[Int.gcd]
   have xu:IntKind.i64.wrap (0 -x)= -x:=wI (by omega);have ql:(if -x>x then -x else x)=(Int.gcd a b:Int):=(by rw[<-RS];split<;>omega);simp only[↓zP,zG,seval,h1,show((0:Int) != 0)=false from rfl];apply hK;clear hK K;simp only[↓zP,zG,seval,h0,xu,ql];refine Rx ?_;rfl
 have dR:(y != 0)=true:=by simpa using Mn
 have eZ:(x.tmod y).natAbs<y.natAbs:=by rw[natAbs_tmod];exact Dg _ (by omega)
 simp only[↓zP,zJ,seval,h1,dR];refine aF ?_;simp only[↓zP,zG,seval,h0,h1];rw[if_neg Mn];simp only[zG,seval];exact⟨_,eZ,trivial,y,x.tmod y,by simp only[seval],hy,by omega,rfl,by rw[No,hg]⟩
def Yx (x:Int):Int:=if x<0 then -1 else if x=0 then 0 else 1
theorem aHj (x:Int) (H:aA):Sg 130 [.int .i64 x] H (.ret (.int .i64 (Yx x))) H:=by
 refine So aVs (by simp only[sf]) ?_ H;unfold aLf;dsimp only;by_cases h:x<0
 · have d:=Af h;simp only[↓zP,zJ,seval,d];refine Rx ?_;unfold Yx;rw[if_pos h];rfl
 have d:=Ae h;simp only[↓zP,zJ,seval,d];refine Rx ?_;unfold Yx;rw[if_neg h];simp only[mY];congr 2;split<;>split<;>omega
theorem aAx {l:List Int} (h4:l.length=4) (H:aA):Sg 90 [.agg (iC l)] H (.ret (.bool (IX l))) H:=by
 refine So bGs (by simp only[sf,jC]) ?_ H;unfold W90;dsimp only;have hlen:(iC l).length=4:=by rw[cN,h4]
 refine bQ ?_;simp only[↓zP,zJ,seval];refine bR ?_;refine aG fun K hK=>?_;simp only[↓zP,zG,seval];refine bN [] (fun i vs H'=>H'.get 0=some (.cells (iC l) false)/\∀x∈l.take i,-64<=x/\x<=64) 0 4 (Az _) (by omega) (by decide) ?_ ?_ ?_ ?_ ?_
 · simp only[zB,seval]
 · exact⟨by simp only[zI,seval],fun x hx=>by simp at hx⟩
 · rintro i f H1 h0 hi hk e1 _;simp only[↓zP,zG,seval,e1];exact tB (by omega)
 · rintro i f H1 h0 hi hk e1 ⟨g0,bM⟩;have f1:f 1=.ref 0 0:=hk 1 rfl;have gR:i<l.length:=by omega
   have hm:=rC gR;have hd:=gT gR;have hle:i+1<=(iC l).length:=by rw[hlen];omega
   have iE:(-64<=l.getD i 0/\l.getD i 0<=64)->∀x∈l.take (i+1),-64<=x/\x<=64:=fun h x hx=>by
    rw[Al,An] at hx
    rcases hx with hx|hx
    · exact bM x hx
    simp[gR] at hx;subst hx;simpa [gR] using h
   have eM:¬(-64<=l.getD i 0/\l.getD i 0<=64)->IX l=false:=fun h=>by unfold IX;rw[Ec];exact⟨_,hm,by rw[Ae h];decide⟩
   generalize l.getD i 0=x at *;refine aF ?_;by_cases c1:x>64
   · have d1:=Af c1;simp only[↓zP,zJ,seval,e1,f1,g0,aB,hi,hle,hd,d1];refine Rx ?_;rw[eM (by omega)];rfl
   have d1:=Ae c1;by_cases c2:x< -64
   · have d2:=Af c2;simp only[↓zP,zJ,seval,e1,f1,g0,aB,hi,hle,hd,d1,d2];refine Rx ?_;rw[eM (by omega)];rfl
   have d2:=Ae c2;simp only[↓zP,zJ,seval,e1,f1,g0,aB,hi,hle,hd,d1,d2];exact⟨trivial,iE ⟨by omega,by omega⟩⟩
 rintro f H1 hk ⟨g0,bM⟩;simp only[↓zP,seval];apply hK;clear hK K;simp only[↓zP,zG,seval];refine Rx ?_
 have :IX l=true:=by unfold IX;rw[Aw];exact fun x hx=>Af (bM x (by rw[Ar (by omega)];exact hx))
 rw[this];rfl
def Kk (l:List Int):Int:=match l.find? (fun x=>x != 0) with
 |some x=>Yx x
 |none=>0
theorem Kl:∀(l:List Int) (o:Nat),l.foldl (fun o x=>Nat.gcd o x.natAbs) o=Nat.gcd o (iD l)
 |[],o=>by simp[iD]
 |x::l,o=>by have h1:=Kl l (Nat.gcd o x.natAbs);have h2:=Kl l (Nat.gcd 0 x.natAbs);simp only[iD,Hq] at h1 h2 ⊢;rw[h1,h2,Gw,Nat.gcd_assoc]
theorem jq (x:Int) (l:List Int):iD (x::l)=Nat.gcd x.natAbs (iD l):=by have :=Kl l (Nat.gcd 0 x.natAbs);rw[Gw] at this;show List.foldl _ (Nat.gcd 0 x.natAbs) l=_;rw[Gw];exact this
theorem jr {l:List Int} {i:Nat} (h:i<l.length):iD (l.drop i)=Nat.gcd (l.getD i 0).natAbs (iD (l.drop (i+1))):=by rw[Ct h,jq];simp[h]
theorem jn {l:List Int} {i:Nat} (h:i<l.length):Kk (l.drop i)=if l.getD i 0=0 then Kk (l.drop (i+1)) else Yx (l.getD i 0):=by
 rw[Ct h];have e:l.getD i 0=l[i]:=by simp[h]
 rw[e];unfold Kk;by_cases h0:l[i]=0
 · rw[if_pos h0,List.find?_cons_of_neg (by simp[h0])]
 rw[if_neg h0,Jo (by simpa using h0)]
theorem aSx {l:List Int} (h:iD l≠0):Kk l*iD l=DS l:=by
 unfold Kk DS
 cases hf:l.find? (fun x=>x != 0) with
 |some x=>have :=List.find?_some hf;simp only[Dc,ne_eq] at this;simp only[Yx];split<;>omega
 |none=>refine absurd (RG fun x hx=>?_) h;have :=Hv.1 hf x hx;simpa using this
theorem vm (l:List Int):(Kk l).natAbs<=1:=by
 unfold Kk Yx;split
 · split
   · decide
   split<;>decide
 decide
theorem aAp {l:List Int} (h4:l.length=4) (hl:∀x∈l,x.natAbs<=64) (H:aA):
 Sg 91 [.agg (iC l)] H (.ret (.jR [.agg (iC ((rU l).getD [0,0,0,0])),.bool (rU l).isSome])) H:=by
 refine Sp bGt (by simp only[sf,jC]) (by simp only[AV.free,bL,jC];rfl) ?_ H;unfold W91;dsimp only;have hlen:(iC l).length=4:=by rw[cN,h4]
 refine bQ ?_;simp only[↓zP,zJ,seval];refine bR ?_;generalize hX:((aA.mk 0 .nil).alloc _).alloc _=HA;have g0:HA.get 0=some (.cells (iC l) false):=by subst hX;simp only[zI,seval]
 have g1:HA.get 1=some (.cells [.int .i64 0,.int .i64 0,.int .i64 0,.int .i64 0] false):=by subst hX;simp only[zI,seval]
 clear hX;refine dT fun f hf=>?_;have f1:f 1=.ref 0 0:=by subst hf;simp only[zB,seval]
 have f2:f 2=.ref 1 0:=by subst hf;simp only[zB,seval]
 clear hf;refine bQ ?_;simp only[↓zP,zG,seval];refine fM ?_;simp only[↓zP,zG,seval];refine bR ?_;refine aG fun K hK=>?_;simp only[↓zP,zG,seval];refine ZO [4,5] (fun i vs H'=>H'=HA/\vs=[.int .i64 (iD (l.drop i):Nat),.int .i64 (Kk (l.drop i))]) 4 (by omega) (by decide) ?_ ?_ ?_ ?_ ?_
 · simp only[zB,seval]
 · refine⟨rfl,?_⟩;rw[Bt (by omega)];simp only[sm,zB,seval];rfl
 · rintro i f H1 hi hk e1 _;simp only[↓zP,zG,seval,e1];exact tB (by omega)
 · rintro i f3 H1 hi hk e1 ⟨rfl,hv⟩;simp only[zM] at hv;obtain⟨v4,v5⟩:=hv;have gR:i<l.length:=by omega
   have f31:f3 1=.ref 0 0:=(by rw[hk 1 rfl];simp only[zB,seval];exact f1);have hd:=gT gR;have hle:i+1<=(iC l).length:=(by rw[hlen];omega);have hx:=hl _ (rC gR);have Pb:iD (l.drop (i+1))<=64:=HQ (fun x hx=>hl x (Du hx)) (by decide);rw[jr gR,jn gR];generalize l.getD i 0=x at *;generalize iD (l.drop (i+1))=g at *;generalize Kk (l.drop (i+1))=s at *;have hg:=aAu (a:=g) (b:=x) (by omega) hx;have hgg:Int.gcd (g:Int) x=Nat.gcd x.natAbs g:=(by rw[Int.gcd,Ie];rfl);rw[hgg] at hg;refine aF ?_;refine bQ ?_;simp only[↓zP,zJ,seval,e1,f31,v4,aB,hi,g0,hle,hd];refine bW (hg _) ?_;simp only[↓zP,zG,seval];refine bR ?_;refine aG fun K2 bK=>?_;by_cases c1:x=0
   · have d1:(x != 0)=false:=(by rw[c1];rfl);simp only[↓zP,zJ,seval,e1,f31,aB,hi,g0,hle,hd,d1];apply bK;clear bK K2;simp only[↓zP,zJ,seval,v5];rw[if_pos c1];exact⟨trivial,rfl⟩
   have d1:(x != 0)=true:=(by rw[Dc];exact c1);have hs:=aHj x;simp only[↓zP,zJ,seval,e1,f31,aB,hi,g0,hle,hd,d1];apply bK;clear bK K2;simp only[↓zP,zJ,seval,e1,f31,aB,hi,g0,hle,hd];refine bW (hs _) ?_;simp only[↓zP,zG,seval];rw[if_neg c1];exact⟨trivial,rfl⟩
 rintro f3 H1 hk ⟨rfl,hv⟩;simp only[sm,Iw,and_true,Ef] at hv;obtain⟨v4,v5⟩:=hv;have f31:f3 1=.ref 0 0:=by rw[hk 1 rfl];simp only[zB,seval];exact f1
 have f32:f3 2=.ref 1 0:=by rw[hk 2 rfl];simp only[zB,seval];exact f2
 have bDd:iD l<=64:=HQ hl (by decide);have hf1:=vm l;have hsg:=dp l;have xu:IntKind.i64.wrap (0 -(iD l:Int))= -(iD l:Int):=wI (by omega);have ql:(if -(iD l:Int)>iD l then -(iD l:Int) else iD l)=iD l:=by split<;>omega
 have Ml:IntKind.i64.wrap (Kk l*(iD l:Int))=Kk l*iD l:=by
  have :(Kk l*(iD l:Int)).natAbs<=1*64:=by rw[Ga];exact Bq hf1 (by omega)
  exact wrap_i64 (by omega) (by omega)
 simp only[↓zP,seval];apply hK;clear hK K;refine bQ ?_;simp only[↓zP,zG,seval,v4,v5,xu,ql,Ml];refine bR ?_;by_cases hz:iD l=0
 · have hd:((Kk l*(iD l:Int))==0)=true:=by rw[hz];simp
   refine aG fun K hK=>?_;simp only[↓zP,zJ,seval,hd,f32,g1];refine⟨rfl,_,by simp only[↓zP,zR,seval,f32];rfl,?_⟩;have :rU l=none:=(by unfold rU;rw[if_pos hz]);rw[this];rfl
 have hq:=aSx hz;rw[hq];have hs0:¬(DS l=0):=by omega
 have hd:(DS l==0)=false:=by rw[Ce];exact hs0
 refine bQ ?_;simp only[↓zP,zG,seval,hd];refine bR ?_;have hdq:rU l=some (l.map fun x=>x.tdiv (DS l)):=by unfold rU;rw[if_neg hz]
 rw[hdq]
 have hwx:∀x∈l,IntKind.i64.wrap (x.tdiv (DS l))=x.tdiv (DS l):=fun x hx=>by have :=Int.natAbs_tdiv_le_natAbs x (DS l);have :=hl x hx;exact wrap_i64 (by omega) (by omega)
 generalize DS l=s at *
 match l,h4 with
 |[a,b,c,d],_=>
 have wa:=hwx a (by simp);have wb:=hwx b (by simp);have wc:=hwx c (by simp);have wd:=hwx d (by simp);have hic:iC [a,b,c,d]=[.int .i64 a,.int .i64 b,.int .i64 c,.int .i64 d]:=rfl;rw[hic] at g0;refine bQ ?_;refine Dz ?_;simp only[↓zP,zJ,seval,zD,f31,f32,g0,g1,hs0,nC,wa,wb,wc,wd];refine bR ?_;simp only[↓zP,seval];refine⟨rfl,_,by simp only[↓zP,zR,seval,f32];rfl,?_⟩;rfl
theorem Yt {l:List Int} (h4:l.length=4) (H:aA):Sg 54 [.agg (iC l)] H (.ret (.bool (qO l))) H:=by
 refine So bFs (by simp only[sf,jC]) ?_ H;unfold W54;dsimp only;have hlen:(iC l).length=4:=by rw[cN,h4]
 have lo:=aAx h4;refine bQ ?_;simp only[↓zP,zJ,seval];refine bR ?_;refine aG fun K hK=>?_;simp only[↓zP,zJ,seval,oL hlen];refine bW (lo _) ?_
 cases hb:IX l with
 |false=>simp only[↓zP,zJ,seval];refine Rx ?_;unfold qO;rw[hb];rfl
 |true=>
  simp only[↓zP,zJ,seval];apply hK;clear hK K;have hq:=aAp h4 (bt hb)
  have Wm:(iC ((rU l).getD [0,0,0,0])).length=4:=by
   rw[cN];unfold rU;split
   · rfl
   simp[h4]
  refine bQ ?_;simp only[↓zP,zJ,seval,oL hlen];refine bW (hq _) ?_;simp only[↓zP,zJ,seval,oL Wm];refine bR ?_;have VG:cJ [.i,.i,.i,.i] (iC ((rU l).getD [0,0,0,0])) (iC l)=some (decide ((rU l).getD [0,0,0,0]=l)):=uW (n:=4) (by rw[<-cN,Wm]) h4;have hv:qO l=(rU l==some l):=by unfold qO;rw[hb];rfl
  rw[hv]
  cases hdq:rU l with
  |none=>rw[hdq] at Wm;simp only[↓zP,zG,seval,Cj];refine Rx ?_;rfl
  |some d=>rw[hdq] at Wm VG;simp only[↓zP,zJ,seval,Bd,Bi];simp only[Bi] at VG Wm;simp only[zJ,seval,oL Wm,oL hlen,VG];refine Rx ?_;simp only[mY];congr 2;rw[Cg];simp
theorem LM {p:List Int} (h7:p.length=7) (H:aA):Sg 32 [.agg (iC p)] H (.ret (.int .i64 (iO p))) H:=by
 refine So bFd (by simp only[sf,jC]) ?_ H;unfold W32;dsimp only;have hlen:(iC p).length=7:=by rw[cN,h7]
 have h34:(p.drop 3).length=4:=by simp;omega
 have hv:=Yt h34;refine bQ ?_;simp only[↓zP,zJ,seval];refine bR ?_;refine aG fun K hK=>?_;simp only[↓zP,zG,seval];refine bN [] (fun i vs H'=>H'.get 0=some (.cells (iC p) false)/\∀x∈(p.take 3).take i,x<140737488355328/\x> -140737488355328) 0 3 (Az _) (by omega) (by decide) ?_ ?_ ?_ ?_ ?_
 · simp only[zB,seval]
 · exact⟨by simp only[zI,seval],fun x hx=>by simp at hx⟩
 · rintro i f H1 h0 hi hk e1 _;simp only[↓zP,zG,seval,e1];exact tB (by omega)
 · rintro i f H1 h0 hi hk e1 ⟨g0,bM⟩;have f1:f 1=.ref 0 0:=hk 1 rfl;have gR:i<p.length:=by omega
   have Pc:i<(p.take 3).length:=(by simp;omega);have he:(p.take 3).getD i 0=p.getD i 0:=(by simp[hi]);have hm:=rC Pc;have hd:=gT gR;have hle:i+1<=(iC p).length:=(by omega);rw[he] at hm
   have iE:(fun x:Int=>x<140737488355328/\x> -140737488355328) (p.getD i 0)->∀x∈(p.take 3).take (i+1),x<140737488355328/\x> -140737488355328:=fun h x hx=>by
    rw[Al,An] at hx
    rcases hx with hx|hx
    · exact bM x hx
    rw[Ab Pc] at hx;simp only[Fv,Bn] at hx;rw[<-he,Bw,Ab Pc] at h;subst hx;exact h
   have eM:¬(p.getD i 0<140737488355328/\p.getD i 0> -140737488355328)->iO p=1:=fun h=>by unfold iO;rw[if_neg];intro hh;rw[Am] at hh;exact h (Cc (Aw.1 hh.1 _ hm))
   clear he hm;generalize p.getD i 0=x at *;refine aF ?_;by_cases c1:x≥140737488355328
   · have d1:=Af c1;simp only[↓zP,zJ,seval,e1,f1,g0,aB,hi,hle,hd,d1];refine Rx ?_;rw[eM (by omega)];rfl
   have d1:=Ae c1;by_cases c2:x<=-140737488355328
   · have d2:=Af c2;simp only[↓zP,zJ,seval,e1,f1,g0,aB,hi,hle,hd,d1,d2];refine Rx ?_;rw[eM (by omega)];rfl
   have d2:=Ae c2;simp only[↓zP,zJ,seval,e1,f1,g0,aB,hi,hle,hd,d1,d2];exact⟨trivial,iE ⟨by omega,by omega⟩⟩
 rintro f H1 hk ⟨g0,bM⟩;rw[Ar (by simp;omega)] at bM;have f1:f 1=.ref 0 0:=hk 1 rfl
 have hp:iO p=if qO (p.drop 3) then 0 else 1:=by unfold iO;rw[Aw.2 fun x hx=>Af (bM x hx)];rfl
 simp only[↓zP,seval];apply hK;clear hK K;have h47:3+4<=(iC p).length:=by omega
 have nM:((iC p).drop 3).take 4=iC (p.drop 3):=by rw[kU,mM,Ar (by omega)]
 refine bQ ?_;simp only[↓zP,zJ,seval,f1,g0,h47,nM];refine bW (hv _) ?_;simp only[↓zP,zG,seval];refine bR ?_
 cases hb:qO (p.drop 3) with
 |true=>rw[hb] at hp;simp only[↓zP,zJ,seval];refine Rx ?_;rw[hp];rfl
 |false=>rw[hb] at hp;simp only[↓zP,zJ,seval];refine Rx ?_;rw[hp];rfl
end Go.Proofs.YtndkpgceodimiaaGreatDoor
namespace Go.Proofs.YtndkpgceodimiaaGreatDoor
open Go Go.Av Go.aI
attribute [local congr] aV aO aP aL aX aR aQ aH aY
attribute [local irreducible] FC bY eX
def bS (l:List aI.V):List (List AV):=l.map cG
theorem aN (l:List aI.V):(bS l).length=l.length:=by simp[bS]
theorem cF {l:List aI.V} {i:Nat} (h:i<l.length):(bS l).getD i []=cG l[i]:=eR h
theorem cV {tag:Nat} (ht:Nat.blt tag 2=true) (l:List aI.V):(AV.aU tag 3 (bS l)).free=true:=by simp only[AV.free,ht,Cr];exact dW cE l
def CU (l:List aI.V) (q:aI.V×Int):Bool:=l.all (fun v=>decide (aI.dot q.1 v<=q.2))&& !l.all (fun v=>aI.dot q.1 v==q.2)
theorem YX {tag:Nat} (ht:Nat.blt tag 2=true) {l:List aI.V} {M B:Nat} (hl:∀v∈l,bT M v) (hlen:l.length<2^30) {q:aI.V×Int} (hq:bT B q.1) (hs:3*(B*M)<2^62) (H:aA):
 Sg 165 [.aU tag 3 (bS l),.agg (lF q)] H (.ret (.bool (CU l q))) H:=by
 refine So aWp (by simp only[sf,cV ht,BD]) ?_ H;unfold aMa;dsimp only;have p3:(lF q).length=4:=rfl;have p1:(lF q).take 3=cG q.1:=rfl;have p2:(lF q).getD 3 aD=.int .i64 q.2:=rfl;refine bQ ?_;simp only[↓zP,zJ,seval];refine fM ?_;simp only[↓zP,zG,seval];refine bR ?_;refine aG fun K hK=>?_;refine bQ ?_;simp only[↓zP,zJ,seval];refine bR ?_;refine bO [5] (fun i vs H=>vs=[.bool ((l.take i).all (fun v=>aI.dot q.1 v==q.2))]/\(∀v∈l.take i,aI.dot q.1 v<=q.2)/\1<=H.next/\H.get 0=some (.cells (lF q) false)) l.length (by omega) (by decide) ?_ ?_ ?_ ?_ ?_
 · simp only[zB,seval]
 · simp only[zB,seval,aN]
 · refine⟨by simp only[sm,zB,seval];rfl,fun v hv=>by simp at hv,by simp only[zI,seval],by simp only[seval,zI]⟩
 · rintro i f H hi hk e1 ⟨hv,hle,hn,g0⟩;simp only[zM] at hv
   have hx:∀v,v∈l.take (i+1)->v∈l.take i\/v=l[i]:=fun v hv=>by
    rw[Al,An] at hv
    rcases hv with h|h
    · exact .inl h
    simp[hi] at h;exact .inr h
   have bM:(l.take (i+1)).all (fun v=>aI.dot q.1 v==q.2)=((l.take i).all (fun v=>aI.dot q.1 v==q.2)&&(aI.dot q.1 l[i]==q.2)):=by rw[Al,List.all_append];simp[hi]
   generalize hb:(l.take i).all (fun v=>aI.dot q.1 v==q.2)=b at *;have vO:=Ac hi;have hg:=cF hi;generalize qk:l[i]=x at *;have cK:¬(0=H.next):=(by omega);refine aF ?_;simp only[↓zP,zJ,seval,e1,hk 9 rfl,hk 3 rfl,aB,aN,hi,hg,oL (aM x),cK,g0,p3,p1];refine bW (IB hq (hl x vO) hs _) ?_;simp only[↓zP,zJ,seval,hk 3 rfl,cK,g0,p3,p2,hv];refine⟨fun h=>?_,fun h=>?_⟩
   · refine Rx ?_
     have :CU l q=false:=by simp only[CU,Jy];refine .inl ?_;rw[<-Fe,Aw];intro ha;have :=Cc (ha x vO);omega
     rw[this];rfl
   have Xu:∀v∈l.take (i+1),aI.dot q.1 v<=q.2:=fun v hv=>by
    rcases hx v hv with h1|rfl
    · exact hle v h1
    omega
   cases b
   · simp only[↓zP,zG,seval];exact⟨by rw[bM];rfl,Xu,trivial⟩
   simp only[↓zP,seval];exact⟨by rw[bM];rfl,Xu,trivial⟩
 rintro f H hk ⟨hv,hle,hn,g0⟩;simp only[zM] at hv;rw[Ao] at hv hle;simp only[↓zP,seval];apply hK;simp only[↓zP,zG,seval,hv];refine Rx ?_;have :l.all (fun v=>decide (aI.dot q.1 v<=q.2))=true:=Aw.2 fun v hv=>Af (hle v hv);simp only[CU,this,Cr];rfl
def Vn (p q:aI.V×Int):Int:=orZ [uO p.1.x q.1.x,uO p.1.y q.1.y,uO p.1.z q.1.z]
theorem Vo (p q:aI.V×Int) (H:aA):Sg 167 [.agg (lF p),.agg (lF q)] H (.ret (.int .i64 (Vn p q))) H:=by
 refine So aWq (by simp only[sf,BD]) ?_ H;unfold aMb;dsimp only;refine bQ ?_;simp only[↓zP,zJ,seval];refine fM ?_;refine Dz ?_;simp only[↓zP,zJ,seval,zD,lF,nC];refine eE (jF p.1.x q.1.x _) ?_;simp only[↓zP,zJ,seval,zD,nC];refine eE (jF p.1.y q.1.y _) ?_;simp only[↓zP,zJ,seval,zD,nC];refine eE (jF p.1.z q.1.z _) ?_;simp only[↓zP,zJ,seval,zD];have Ty:=sx [uO p.1.x q.1.x,uO p.1.y q.1.y,uO p.1.z q.1.z] (by simp);simp only[eY,sm] at Ty;refine eE (Ty _) ?_;simp only[↓zP,zJ,seval,zD];refine bR ?_;simp only[↓zP,seval]
 (refine Rx ?_;rfl)
end Go.Proofs.YtndkpgceodimiaaGreatDoor
namespace Go.Proofs.YtndkpgceodimiaaGreatDoor
open Go Go.Av
attribute [local congr] aV aO aP aL aX aR aQ aH aY
attribute [local irreducible] FC bY eX
def wR (m:Int) (w:List Int):Bool:=w.all fun x=>decide (x<=m/\-m<=x)
def kB (n:Int):Int:=if n=0 then 1099511627776 else 4096
theorem Vv (n:Int) (H:aA):Sg 28 [.int .i64 n] H (.ret (.int .i64 (kB n))) H:=by
 refine So aZl (by simp only[sf]) ?_ H;unfold W28;dsimp only;by_cases h:n=0
 · have d:(n==0)=true:=by rw[h];rfl
   simp only[↓zP,zJ,seval,d];refine Rx ?_;unfold kB;rw[if_pos h];rfl
 have d:(n==0)=false:=by rw[Ce];exact h
 simp only[↓zP,zJ,seval,d];refine Rx ?_;unfold kB;rw[if_neg h];rfl
theorem Rr {n:Int} (h0:0<=n) (H:aA):Sg 31 [.int .i64 n] H (.ret (.int .i64 (kB n))) H:=by
 refine So bFc (by simp only[sf]) ?_ H;unfold W31;dsimp only;by_cases h:n=0
 · have d:=Ae (show ¬n>0 by omega);simp only[↓zP,zJ,seval,d];refine Rx ?_;unfold kB;rw[if_pos h];rfl
 have d:=Af (show n>0 by omega);simp only[↓zP,zJ,seval,d];refine Rx ?_;unfold kB;rw[if_neg h];rfl
theorem VQ {m:Int} {w:List Int} {i:Nat} (hi:i<w.length) (bM:∀x∈w.take i,x<=m/\-m<=x) (h:w.getD i 0<=m/\-m<=w.getD i 0):∀x∈w.take (i+1),x<=m/\-m<=x:=fun x hx=>by
 rw[Al,An] at hx
 rcases hx with hx|hx
 · exact bM x hx
 simp[hi] at hx;subst hx;simpa [hi] using h
theorem yk {m:Int} {w:List Int} {i:Nat} (hi:i<w.length) (h:¬(w.getD i 0<=m/\-m<=w.getD i 0)):wR m w=false:=by unfold wR;rw[Ec];exact⟨_,rC hi,by rw[Ae h];decide⟩
theorem a8 {m:Int} {w:List Int} (h:∀x∈w,x<=m/\-m<=x):wR m w=true:=by unfold wR;rw[Aw];exact fun x hx=>Af (h x hx)
theorem mE {m:Int} (hm:m.natAbs<2^62) {w:List Int} (h3:w.length=3) (H:aA):Sg 30 [.int .i64 m,.agg (iC w)] H (.ret (.bool (wR m w))) H:=by
 refine So bFb (by simp only[sf,jC]) ?_ H;unfold W30;dsimp only;have hlen:(iC w).length=3:=by rw[cN,h3]
 have xu:IntKind.i64.wrap (0 -m)= -m:=wI (by omega);refine bQ ?_;simp only[↓zP,zJ,seval];refine bR ?_;refine aG fun K hK=>?_;simp only[↓zP,zG,seval];refine bN [] (fun i vs H'=>H'.get 0=some (.cells (iC w) false)/\∀x∈w.take i,x<=m/\-m<=x) 0 3 (Az _) (by omega) (by decide) ?_ ?_ ?_ ?_ ?_
 · simp only[zB,seval]
 · exact⟨by simp only[zI,seval],fun x hx=>by simp at hx⟩
 · rintro i f H1 h0 hi hk e1 _;simp only[↓zP,zG,seval,e1];exact tB (by omega)
 · rintro i f H1 h0 hi hk e1 ⟨g0,bM⟩;have f3:f 3=.ref 0 0:=hk 3 rfl;have f0:f 0=.int .i64 m:=hk 0 rfl;have gR:i<w.length:=by omega
   have hd:=gT gR;have hle:i+1<=(iC w).length:=(by rw[hlen];omega);have iE:=VQ gR bM;have eM:=yk (m:=m) gR;generalize w.getD i 0=x at *;refine aF ?_;by_cases c1:x>m
   · have d1:=Af c1;simp only[↓zP,zJ,seval,e1,f0,f3,g0,aB,hi,hle,hd,d1];refine Rx ?_;rw[eM (by omega)];rfl
   have d1:=Ae c1;by_cases c2:x< -m
   · have d2:=Af c2;simp only[↓zP,zJ,seval,e1,f0,f3,g0,aB,hi,hle,hd,xu,d1,d2];refine Rx ?_;rw[eM (by omega)];rfl
   have d2:=Ae c2;simp only[↓zP,zJ,seval,e1,f0,f3,g0,aB,hi,hle,hd,xu,d1,d2];exact⟨trivial,iE ⟨by omega,by omega⟩⟩
 rintro f H1 hk ⟨g0,bM⟩;simp only[↓zP,seval];apply hK;clear hK K;simp only[↓zP,zG,seval];refine Rx ?_;rw[a8 fun x hx=>bM x (by rw[Ar (by omega)];exact hx)];rfl
def aIf (H:aA) (v:AV) (L:List (List Int)):Prop:=(v=.aS/\L=[])\/(∃tag,v=.aU tag 3 (L.map iC))\/∃id off o cs,v=.sl id 3 off L.length L.length/\id<H.next/\H.get id=some (.cells cs o)/\∀i (h:i<L.length),off+i*3+3<=cs.length/\(cs.drop (off+i*3)).take 3=iC L[i]
theorem SG {m:Int} (hm:m.natAbs<2^62) {v:AV} {L:List (List Int)} (h3:∀w∈L,w.length=3) (hL:L.length<2^63) {H:aA} (hv:aIf H v L):
 FC Tryz.prog gv W27.1.ntmps W27.1.body (fG [.int .i64 m,v]) [] H (MZ W27.1.results fun o H'=>o=.ret (.bool (L.all (wR m)))/\Over H H'):=by
 have xu:IntKind.i64.wrap (0 -m)= -m:=wI (by omega)
 have xr:∀H,cX (fun _=>v) H (.OQ (.tmp 0))=some (.int .i64 L.length,H):=fun H=>by rcases hv with ⟨rfl,rfl⟩|⟨tag,rfl⟩|⟨id,off,o,cs,rfl,_⟩<;>simp[cX]
 simp only[cX] at xr;unfold W27;dsimp only;refine bQ ?_;simp only[↓zP,zG,seval];refine bR ?_;refine aG fun K hK=>?_;refine bQ ?_;simp only[↓zP,zJ,seval,xr];refine bR ?_;refine bO [] (fun i _ H'=>Over H H'/\∀w∈L.take i,wR m w=true) L.length (by omega) (by decide) ?_ ?_ ?_ ?_ ?_
 · simp only[zB,seval]
 · simp only[zB,seval]
 · exact⟨.refl H,fun w hw=>by simp at hw⟩
 · rintro i f H1 hi hk e1 ⟨hO,bM⟩;have f9:f 9=v:=hk 9 rfl;have f0:f 0=.int .i64 m:=hk 0 rfl
   have iE:wR m L[i]=true->∀w∈L.take (i+1),wR m w=true:=fun h w hw=>by
    rw[Al,An] at hw
    rcases hw with hw|hw
    · exact bM w hw
    simp[hi] at hw;subst hw;exact h
   have eM:wR m L[i]=false->L.all (wR m)=false:=fun h=>by rw[Ec];exact⟨_,Ac hi,by rw[h];decide⟩
   have QJ:=h3 _ (Ac hi);have Zp:(iC L[i]).length=3:=(by rw[cN,QJ]);generalize hw:L[i]=w at *;refine aF ?_;refine aG fun K2 bK=>?_
   have key:∀f':dD,f' 6=.ref H1.next 0->f' 0=.int .i64 m->K2 f' [] ((H1.alloc (.cells [.int .i64 0,.int .i64 0,.int .i64 0] false)).set H1.next (.cells (iC w) false)):=by
    intro f' f6 f0;apply bK;clear bK K2;have hO2:Over H ((H1.alloc (.cells [.int .i64 0,.int .i64 0,.int .i64 0] false)).set H1.next (.cells (iC w) false)):=(hO.alloc _).set hO.le _;have g6:((H1.alloc (.cells [.int .i64 0,.int .i64 0,.int .i64 0] false)).set H1.next (.cells (iC w) false)).get H1.next=some (.cells (iC w) false):=(by rw[aA.aC,if_pos rfl]);generalize ((H1.alloc _).set H1.next _)=H2 at *;generalize H1.next=r6 at *;refine bQ ?_;simp only[↓zP,zJ,seval,f6,g6,oL Zp];refine bR ?_;refine fJ [] (fun j _ H'=>H'=H2/\∀x∈w.take j,x<=m/\-m<=x) 3 (by omega) rfl (by decide) ?_ ?_ ?_ ?_
    · simp only[zB,seval]
    · exact⟨rfl,fun x hx=>by simp at hx⟩
    · rintro j f2 H3 hj dP e2 ⟨rfl,rE⟩;have u15:f2 15=.agg (iC w):=dP 15 rfl;have u0:f2 0=.int .i64 m:=(by rw[dP 0 rfl];simp only[zB,seval];exact f0);have GA:j<w.length:=(by omega);have hd:=gT GA;have hle:j+1<=(iC w).length:=(by rw[Zp];omega);have QG:=VQ GA rE;have Xz:=yk (m:=m) GA;generalize w.getD j 0=x at *;refine aF ?_;refine bQ ?_;simp only[↓zP,zJ,seval,e2,u15,aB,hj,hle,hd];refine bR ?_;refine aG fun K2 bK=>?_;by_cases c1:x>m
      · have d1:=Af c1;simp only[↓zP,zG,seval,u0,d1];apply bK;clear bK K2;simp only[↓zP,zG,seval];refine Rx ?_;rw[eM (Xz (by omega))];exact⟨rfl,hO2⟩
      have d1:=Ae c1;by_cases c2:x< -m
      · have d2:=Af c2;simp only[↓zP,zG,seval,u0,xu,d1,d2];apply bK;clear bK K2;simp only[↓zP,zG,seval];refine Rx ?_;rw[eM (Xz (by omega))];exact⟨rfl,hO2⟩
      have d2:=Ae c2;simp only[↓zP,zG,seval,u0,xu,d1,d2];apply bK;clear bK K2;simp only[↓zP,zG,seval];exact⟨trivial,QG ⟨by omega,by omega⟩⟩
    rintro f2 H3 dP ⟨rfl,rE⟩;simp only[↓zP,seval];exact⟨hO2,iE (a8 fun x hx=>rE x (by rw[Ar (by omega)];exact hx))⟩
   have e11:f 11=.int .i64 i:=e1
   rcases hv with ⟨_,h0⟩|⟨tag,rfl⟩|⟨id,off,o,cs,rfl,cZ,hg,CR⟩
   · rw[h0] at hi;exact absurd hi (As _)
   · have Pb:(L.map iC).getD i []=iC w:=(by rw[<-hw];simp[hi]);have Ml:(L.map iC).length=L.length:=Ai _;simp only[↓zP,zJ,seval,e11,f9,aB,Ml,hi,Pb,oL Zp];exact key _ (by simp only[zB,seval]) (by simp only[zB,seval];exact f0)
   obtain⟨h1,h2⟩:=CR i hi;rw[hw] at h2;have CT:=(hO.same id cZ).trans hg;simp only[↓zP,zJ,seval,e11,f9,aB,hi,CT,h1,h2,oL Zp];exact key _ (by simp only[zB,seval]) (by simp only[zB,seval];exact f0)
 rintro f H1 hk ⟨hO,bM⟩;rw[Ao] at bM;simp only[↓zP,seval];apply hK;clear hK K;simp only[↓zP,zG,seval];refine Rx ?_;rw[Aw.2 bM];exact⟨rfl,hO⟩
theorem pq {m:Int} (hm:m.natAbs<2^62) {v:AV} {L:List (List Int)} (h3:∀w∈L,w.length=3) (hL:L.length<2^63) {H:aA} (hv:aIf H v L):
 ∃H',Over H H'/\Sg 27 [.int .i64 m,v] H (.ret (.bool (L.all (wR m)))) H':=by
 obtain⟨o,H',⟨rfl,hO⟩,hS⟩:=eD fit aRr (Aj rfl) (SG hm h3 hL hv) (by rfl);exact⟨H',hO,hS⟩
theorem BN {m:Int} (hm:m.natAbs<2^62) {v:AV} {L:List (List Int)} (h3:∀w∈L,w.length=3) (hL:L.length<2^63) (hv:(v=.aS/\L=[])\/∃tag,Nat.blt tag 2=true/\v=.aU tag 3 (L.map iC)) (H:aA):
 Sg 27 [.int .i64 m,v] H (.ret (.bool (L.all (wR m)))) H:=by
 refine Sp aRr ?_ (by simp only[sf]) (iY (fun e f ds H h=>Rp (fun o H h=>h.1) h) (SG hm h3 hL (hv.imp id fun h=>.inl (h.imp fun _ h=>h.2)))) H
 rcases hv with ⟨rfl,_⟩|⟨tag,ht,rfl⟩
 · rfl
 have :dM (L.map iC)=true:=by
  induction L with
  |nil=>rfl
  |cons x L ih=>simp only[Bv,dM,jC,Cr];exact ih (fun w hw=>h3 w (Ay _ hw)) (by simp at hL;omega)
 simp only[bL,AV.free,ht,this,Df]
end Go.Proofs.YtndkpgceodimiaaGreatDoor
