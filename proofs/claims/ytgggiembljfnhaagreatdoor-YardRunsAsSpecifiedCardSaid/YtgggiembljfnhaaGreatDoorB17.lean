/-
  Part of the proof of statement 12
-/
import Derived.Test.YtgggiembljfnhaaGreatDoorB16
import Derived.Test.YtgggiembljfnhaaGreatDoorB06
import Derived.Test.YtgggiembljfnhaaGreatDoorB15
import Derived.Test.YtgggiembljfnhaaGreatDoorB07
set_option linter.unusedVariables false
set_option linter.unusedSimpArgs false
set_option maxRecDepth 100000
set_option maxHeartbeats 16000000
namespace Go.Proofs.YtgggiembljfnhaaGreatDoor
open Go Go.Av Go.aP
attribute [local congr] aT aI aL aH aX aQ aM aF aY
attribute [local irreducible] FC bS eF
theorem fV {x:Int} {B:Nat} (h:x.natAbs<=B) (hB:B<2^63):IntKind.i64.wrap x=x:=wrap_i64 (by omega) (by omega)
theorem cG.c {A:Nat} {v:aP.V} (h:cG A v) (i:Nat):(v.at i).natAbs<=A:=by
 unfold V.at;split
 . exact h.1
 . exact h.2.1
 exact h.2.2
theorem HN {a b:aP.V} {A B:Nat} (ha:cG A a) (hb:cG B b) (hs:3*(A*B)<2^62) (H:aA):Sg 210 [.agg (cU a),.agg (cU b)] H (.ret (.int .i64 (aP.dot a b))) H:=by
 have h1:=cC ha.1 hb.1;have h2:=cC ha.2.1 hb.2.1;have h3:=cC ha.2.2 hb.2.2;have w1:=fV h1 (by omega);have w2:=fV h2 (by omega);have w3:=fV h3 (by omega);have w4:IntKind.i64.wrap (a.x*b.x+a.y*b.y)=a.x*b.x+a.y*b.y:=fV (B:=2*(A*B)) (by omega) (by omega);have w5:IntKind.i64.wrap (a.x*b.x+a.y*b.y+a.z*b.z)=a.x*b.x+a.y*b.y+a.z*b.z:=fV (B:=3*(A*B)) (by omega) (by omega);refine So aZb Zal ?_ H;unfold aNx;dsimp only;simp only[↓zP,zJ,seval,cU,sT,w1,w2,w3,w4,w5]
 (refine Rx ?_;rfl)
theorem Qi {x y:Int} {M:Nat} (hx:x.natAbs<=M) (hy:y.natAbs<=M) (hM:M<2^61):IntKind.i64.wrap (x -y)=x -y:=fV (B:=2*M) (by omega) (by omega)
theorem Qt {a b:aP.V} {A B:Nat} (ha:cG A a) (hb:cG B b) (hs:A*B<2^61) (H:aA):Sg 274 [.agg (cU a),.agg (cU b)] H (.ret (.agg (cU (aP.bC a b)))) H:=by
 obtain⟨a1,a2,a3⟩:=ha;obtain⟨b1,b2,b3⟩:=hb;have w1:=fV (cC a2 b3) (by omega);have w2:=fV (cC a3 b2) (by omega);have w3:=fV (cC a3 b1) (by omega);have w4:=fV (cC a1 b3) (by omega);have w5:=fV (cC a1 b2) (by omega);have w6:=fV (cC a2 b1) (by omega);have w7:=Qi (cC a2 b3) (cC a3 b2) hs;have w8:=Qi (cC a3 b1) (cC a1 b3) hs;have w9:=Qi (cC a1 b2) (cC a2 b1) hs;refine So bAu Zal ?_ H;unfold aPq;dsimp only;simp only[zJ,seval,cU,sT,w1,w2,w3,w4,w5,w6,w7,w8,w9]
 (refine Rx ?_;rfl)
theorem dh {a:aP.V} {A:Nat} (ha:cG A a) (hs:A<2^62) (H:aA):Sg 179 [.agg (cU a)] H (.ret (.agg (cU (aP.neg a)))) H:=by
 obtain⟨a1,a2,a3⟩:=ha;have w1:IntKind.i64.wrap (0 -a.x)= -a.x:=(fV (B:=A) (by omega) (by omega)).trans (by omega);have w2:IntKind.i64.wrap (0 -a.y)= -a.y:=(fV (B:=A) (by omega) (by omega)).trans (by omega);have w3:IntKind.i64.wrap (0 -a.z)= -a.z:=(fV (B:=A) (by omega) (by omega)).trans (by omega);refine So aKg Zal ?_ H;unfold aDi;dsimp only;simp only[↓zP,zJ,seval,cU,sT,w1,w2,w3]
 (refine Rx ?_;rfl)
theorem aIh {a b:aP.V} {A B:Nat} (ha:cG A a) (hb:cG B b) (hs:A+B<2^62) (H:aA):Sg 278 [.agg (cU a),.agg (cU b)] H (.ret (.agg (cU (aP.add a b)))) H:=by
 refine So bAx Zal ?_ H;unfold aPt;dsimp only;simp only[↓zP,zJ,seval,cU];refine jL [] (fun i _ H'=>H'.get 0=some (.cells ([0,1,2].map fun j=>if j<i then .int .i64 (a.at j+b.at j) else .int .i64 (a.at j)) false)/\H'.get 1=some (.cells (cU b) false)/\H'.get 2=some (.cells [.int .i64 0,.int .i64 0,.int .i64 0] false)) 3 (by decide) rfl (by decide) ?_ ?_ ?_ ?_
 . exact zq
 . simp only[seval,zI,Ap];exact⟨rfl,rfl,trivial⟩
 . rintro i f H hi hk e1 ⟨g0,g1,g2⟩;have hl:([0,1,2].map fun j=>if j<i then AV.int .i64 (a.at j+b.at j) else .int .i64 (a.at j)).length=3:=by simp
   have hg:([0,1,2].map fun j=>if j<i then AV.int .i64 (a.at j+b.at j) else .int .i64 (a.at j)).getD i aD=.int .i64 (a.at i):=by
    match i,hi with
    |0,_=>rfl
    |1,_=>rfl
    |2,_=>rfl
   have w:IntKind.i64.wrap (a.at i+b.at i)=a.at i+b.at i:=by have h1:=cG.c ha i;have h2:=cG.c hb i;exact fV (B:=A+B) (by omega) (by omega)
   refine aJ ?_;refine bQ ?_;simp only[↓zP,zG,seval,e1];refine bR ?_;refine Dz ?_;generalize hc:([0,1,2].map fun j=>if j<i then AV.int .i64 (a.at j+b.at j) else .int .i64 (a.at j))=cs at *;simp only[↓zP,zJ,seval,zD,hk 2 rfl,hk 3 rfl,aB,hi,g0,g1,hl,hg,aV,kQ b hi,w,show i+1<=3 by omega];subst hc;refine⟨?_,g2⟩
   match i,hi with
   |0,_=>rfl
   |1,_=>rfl
   |2,_=>rfl
 rintro f H hk ⟨g0,g1,g2⟩;simp only[↓zP,zJ,seval,hk 2 rfl,hk 4 rfl,g0,g2];exact⟨rfl,_,by simp only[↓zP,zR,seval,hk 4 rfl];rfl,rfl⟩
theorem UD (a b:aP.V):aP.add a (aP.neg b)=aP.sub a b:=by simp only[aP.add,aP.neg,aP.sub,Int.sub_eq_add_neg]
theorem Mi {a b:aP.V} {A B:Nat} (ha:cG A a) (hb:cG B b) (hs:A+B<2^62) (H:aA):Sg 212 [.agg (cU a),.agg (cU b)] H (.ret (.agg (cU (aP.sub a b)))) H:=by refine Sp aZd Zal Zal ?_ H;unfold aNz;dsimp only;refine Ty ?_;refine Dz ?_;simp only[↓zP,zJ,seval,zD,oL (aV a),oL (aV b)];refine fP (dh hb (by omega) _) ?_;simp only[seval];refine fP (aIh ha (IH hb) hs _) ?_;rw[UD];simp only[↓zP,zJ,seval,zD,oL (aV (aP.sub a b))];exact⟨rfl,_,by simp only[↓zP,zR,seval,oL (aV (aP.sub a b))];rfl,rfl⟩
theorem VD (a:Int) (H:aA):Sg 273 [.int .i64 a] H (.ret (.bool false)) H:=by
 refine So bAt Zag ?_ H;unfold aPp;dsimp only;simp only[↓zP,zJ,seval,Jg]
 (refine Rx ?_;rfl)
def zS (a b:Int):Int:=if a<b then -1 else if b<a then 1 else 0
theorem lN (a b:Int) (H:aA):Sg 204 [.int .i64 a,.int .i64 b] H (.ret (.int .i64 (zS a b))) H:=by
 refine So aYx Zag ?_ H;unfold aNt;dsimp only;refine Ty ?_;refine bY (VD a _) ?_;refine Ty ?_;refine bY (VD b _) ?_;refine Ty ?_;refine⟨fun h=>?_,fun h=>⟨fun h2=>?_,fun h2=>?_⟩⟩<;>refine Rx ?_<;>unfold zS
 . rw[if_pos (by omega)];rfl
 . exact Zbq
 rw[if_neg (by omega),if_neg (by omega)];rfl
def orZ (l:List Int):Int:=(l.find? (· ≠0)).getD 0
theorem aIq (l:List Int) (hl:l.length<2^30) (H:aA):Sg 203 [.bD 1 1 (iU l)] H (.ret (.int .i64 (orZ l))) H:=by
 refine So aYw (by simp only[sf,HF]) ?_ H;unfold aNs;dsimp only;refine bQ ?_;refine Tz ?_;refine fF ?_;refine Tz ?_;refine bR ?_;refine aN fun K hK=>?_;refine bQ ?_;refine Ty ?_;refine bR ?_;refine cV [] (fun i _ H=>∀x∈l.take i,x=0) l.length (by omega) (by decide) ?_ ?_ ?_ ?_ ?_
 . exact zq
 . simp only[zB,seval,iD]
 . intro x hx;simp at hx
 . intro i f H hi hk e1 hj;have hg:(iU l).getD i []=[.int .i64 l[i]]:=by simp[iU,List.getD,hi]
   refine aJ ?_;by_cases hz:l[i]=0
   . simp only[↓zP,zJ,seval,e1,hk 6 rfl,hk 3 rfl,aB,iD,hi,hg,hz,show((0:Int) != 0)=false from rfl];intro x hx;rw[An,Ao] at hx
     rcases hx with hx|hx
     . exact hj x hx
     simp[hi] at hx;rw[hx,hz]
   have hb:(l[i] != 0)=true:=(by simpa using hz);simp only[↓zP,zJ,seval,e1,hk 6 rfl,hk 3 rfl,aB,iD,hi,hg,hb];refine Rx ?_
   have :l.find? (· ≠0)=some l[i]:=by
    conv=>lhs;rw[<-Ie i l]
    rw[List.find?_append,Hu.2 (fun x hx=>by simp[hj x hx]),Dk hi,Jp (by simpa using hz)];rfl
   rw[orZ,this];rfl
 intro f H hk hj;rw[Ax] at hj;refine Tx ?_;apply hK;simp only[↓zP,zG,seval,hk 3 rfl];refine Rx ?_;have :l.find? (· ≠0)=none:=Hu.2 fun x hx=>by simp[hj x hx]
 rw[orZ,this];rfl
def lF (q:aP.V×Int):List AV:=[.int .i64 q.1.x,.int .i64 q.1.y,.int .i64 q.1.z,.int .i64 q.2]
theorem AY (q:aP.V×Int):bO (lF q)=true:=by simp only[lF,sf]
theorem uu {a b:Int} {B:Nat} (ha:a.natAbs<=B) (hb:b.natAbs<=B) (hB:B<2^62) (H:aA):Sg 275 [.int .i64 a,.int .i64 b] H (.ret (.int .i64 (Int.gcd a b))) H:=by
 refine So bAv Zag ?_ H;unfold aPr;dsimp only;refine bQ ?_;refine Tz ?_;refine bR ?_;refine aN fun K hK=>?_;refine aJ (iP [0,1] (fun m vs _=>∃x y:Int,vs=[.int .i64 x,.int .i64 y]/\x.natAbs<=B/\y.natAbs<=B/\m=y.natAbs/\Int.gcd x y=Int.gcd a b) b.natAbs (by rfl) ?_ ?_)
 . exact⟨a,b,by simp only[sm,zB,seval,fN],ha,hb,rfl,rfl⟩
 rintro m f H hk ⟨x,y,hv,hx,hy,rfl,hg⟩;simp only[zM] at hv;obtain⟨h0,h1⟩:=hv;by_cases MT:y=0
 . subst MT;have hw:IntKind.i64.wrap (0 -x)= -x:=(fV (B:=B) (by omega) (by omega)).trans (by omega);simp only[↓zP,zG,seval,h1,show((0:Int) != 0)=false from rfl];apply hK;simp only[↓zP,zG,seval,h0,hw];refine Rx ?_
   have RC:(Int.gcd a b:Int)=if -x>x then -x else x:=(by rw[<-hg,aFc]);rw[RC];rfl
 have eQ:(y != 0)=true:=by simpa using MT
 simp only[↓zP,zG,seval,h1,eQ];refine aJ (Tu (by decide) ?_);simp only[↓zP,zG,seval,zD,h0,h1];rw[if_neg MT]
 have fJ:(x.tmod y).natAbs<y.natAbs:=by rw[natAbs_tmod];exact Di _ (by omega)
 simp only[zG,seval,zD];exact⟨_,fJ,y,x.tmod y,by simp only[sm,zB,seval],hy,by omega,rfl,by rw[Ni,hg]⟩
theorem Ul {a b:Int} {B:Nat} (ha:a.natAbs<=B) (hb:b.natAbs<=B):Int.gcd a b<=B:=by
 unfold Int.gcd
 rcases Hq a.natAbs with h|h
 . rw[h,Gy];exact hb
 exact Cd (Nat.gcd_le_left _ h) ha
def JA (a b c:aP.V):aP.V×Int:=let n:=gL (aP.bC (aP.sub b a) (aP.sub c a));(n,aP.dot n a)
theorem Yt {a b c:aP.V} {M:Nat} (ha:cG M a) (hb:cG M b) (hc:cG M c) (hM:M<=2^18) (H:aA):Sg 206 [.agg (cU a),.agg (cU b),.agg (cU c)] H (.ret (.agg (lF (JA a b c)))) H:=by
 have hu:=gM hb ha;have hw:=gM hc ha;have hn:=oB hu hw;have hMM:(M+M)*(M+M)<=2^19*2^19:=Bt (by omega) (by omega);have aVg:2*((M+M)*(M+M))*M<=2^39*2^18:=Bt (by omega) (by omega);refine Sp aYy Zal (by simp only[sf,AY]) ?_ H;unfold aNu;dsimp only;refine bQ ?_;refine Ty ?_;refine fF ?_;refine jV 1 (by decide) (by simp only[mR,seval,zI,Iz,Cp]) fun H1 n1 e1=>?_;simp only[zI,seval] at n1 e1;simp only[↓zP,zJ,seval,zD,e1,oL (aV a),oL (aV b)];refine fP (Mi hb ha (by omega) _) ?_;simp only[↓zP,zJ,seval,zD,e1,oL (aV a),oL (aV c)];refine fP (Mi hc ha (by omega) _) ?_;simp only[seval];refine fP (Qt hu hw (by omega) _) ?_;generalize hN:aP.bC (aP.sub b a) (aP.sub c a)=N at *;simp only[↓zP,zJ,seval,zD,n1,e1,oL (aV N)];refine bR ?_;generalize hB:2*((M+M)*(M+M))=B at *;generalize hX:(H1.set 4 _).set 4 _=H2;have g0:H2.get 0=some (.cells (cU a) false):=by subst hX;simp only[seval,zI,e1]
 have g3:H2.get 3=some (.cells [.int .i64 0,.int .i64 0,.int .i64 0,.int .i64 0] false):=by subst hX;simp only[seval,zI,e1]
 have g4:H2.get 4=some (.cells (cU N) false):=by subst hX;simp only[seval,zI]
 clear hX e1 n1
 have JI:(Int.gcd N.x N.y:Int).natAbs<=B:=by rw[En];exact Ul hn.1 hn.2.1
 have hp:=sZ hn;refine aN fun K hK=>?_;refine bQ ?_;refine Dz ?_;simp only[↓zP,zJ,seval,zD,g4,sT,cU];refine fP (uu hn.1 hn.2.1 (by omega) _) ?_;simp only[↓zP,zJ,seval,zD,g4,sT,cU];refine fP (uu JI hn.2.2 (by omega) _) ?_;simp only[↓zP,zJ,seval,zD,PG];refine bR ?_
 have fin:∀(f:dE) (H3:aA),f 3=.ref 0 0->f 6=.ref 3 0->f 7=.ref 4 0->H3.get 0=some (.cells (cU a) false)->H3.get 3=some (.cells [.int .i64 0,.int .i64 0,.int .i64 0,.int .i64 0] false)->H3.get 4=some (.cells (cU (gL N)) false)->K f [] H3:=by intro f H3 f3 f6 f7 g0 g3 g4;apply hK;clear hK K;refine bQ ?_;refine Dz ?_;simp only[↓zP,zJ,seval,zD,f3,f7,g0,g4,oL (aV a),oL (aV (gL N))];refine fP (HN hp ha (by omega) _) ?_;simp only[↓zP,zJ,seval,zD,f6,g3,cU];refine bR ?_;refine Tx ?_;refine⟨rfl,_,by simp only[↓zP,zR,seval,f6];rfl,?_⟩;simp only[JA,hN,lF];rfl
 refine Tz ?_;refine⟨fun DN=>?_,fun hle=>?_⟩
 . have cQ:¬((gG N:Nat):Int)=0:=by omega
   have ep:=RS N;have q1:IntKind.i64.wrap (N.x.tdiv (gG N))=(gL N).x:=(by rw[fV (B:=B) (by have :=hp.1;rw[ep] at this;exact this) (by omega),ep]);have q2:IntKind.i64.wrap (N.y.tdiv (gG N))=(gL N).y:=(by rw[fV (B:=B) (by have :=hp.2.1;rw[ep] at this;exact this) (by omega),ep]);have q3:IntKind.i64.wrap (N.z.tdiv (gG N))=(gL N).z:=(by rw[fV (B:=B) (by have :=hp.2.2;rw[ep] at this;exact this) (by omega),ep]);refine Dz ?_;simp only[↓zP,zJ,seval,zD,g4,sT,cU,cQ,q1,q2,q3];apply fin<;>simp only[↓zP,zJ,seval,g0,g3,cU]
 have e1:gL N=N:=aAk (by omega)
 apply fin<;>first|(simp only[↓zP,zG,seval];done)|(rw[e1];exact g4)|assumption
end Go.Proofs.YtgggiembljfnhaaGreatDoor
namespace Go.Proofs.YtgggiembljfnhaaGreatDoor
open Go Go.Av Go.aP Go.uE
attribute [local congr] aT aI aL aH aX aQ aM aF aY
attribute [local irreducible] FC bS eF
theorem Vx {p q n:Nat} (hn:n<2^64) (e:n=p*4294967296+q) (hq:q<4294967296):IntKind.u64.wrap (p:Int)=p/\IntKind.u64.wrap ((p:Int)*4294967296)=(p:Int)*4294967296/\IntKind.u64.wrap (q:Int)=q/\IntKind.u64.wrap ((p:Int)*4294967296+(q:Int))=n:=by refine⟨?_,?_,?_,?_⟩<;>rw[JD (k:=.u64) rfl]<;>simp only[IntKind.bits]<;>omega
theorem aUi {n:Nat} (h:n<2^64):n=bL n 1*4294967296+bL n 0/\bL n 0<4294967296:=by
 have hW:W=4294967296:=rfl;have e1:bL n 1=n / 4294967296%4294967296:=by simp[bL,hW]
 have e0:bL n 0=n%4294967296:=by simp[bL,hW]
 omega
theorem RW {z:Int} (h0: -2^63<=z) (h1:z<2^63) (H:aA):Sg 197 [.agg (cI z)] H (.ret (.iA [.int .i64 z,.bool true])) H:=by
 refine So aYs Zav ?_ H;unfold aNo;dsimp only;have hz:z.natAbs<W^16:=w63 (by omega);have gz:=tW (mD.enc hz);have lo:=vI (z:= -9223372036854775808) (by decide) (by decide);have hi:=vI (z:=9223372036854775807) (by decide) (by decide);have c1:=CH hz (y:= -9223372036854775808) (by decide);have c2:=CH hz (y:=9223372036854775807) (by decide);have d1:decide (rP (some z) (some (-9223372036854775808))<0)=false:=Ag (by simp only[rP];split<;>(try split)<;>omega);have d2:decide (rP (some z) (some 9223372036854775807)>0)=false:=Ag (by simp only[rP];split<;>(try split)<;>omega);obtain⟨s1,s2⟩:=aUi (n:=z.natAbs) (by omega);obtain⟨w1,w2,w3,w4⟩:=Vx (by omega) s1 s2
 have w5:IntKind.i64.wrap (z.natAbs:Int)=if z<0/\z.natAbs=2^63 then z else(z.natAbs:Int):=by
  by_cases h:z.natAbs=2^63
  . rw[if_pos ⟨by omega,h⟩,h];have :z= -2^63:=by omega
    rw[this];rfl
  rw[if_neg (fun hh=>h hh.2)];exact wrap_i64 (by omega) (by omega)
 have JI:(wC (bJ 16 z.natAbs)).getD 1 aD=.int .u32 (bL z.natAbs 1:Nat):=by rw[uW (by rw[cW];decide),kR (by decide)]
 have we:(wC (bJ 16 z.natAbs)).getD 0 aD=.int .u32 (bL z.natAbs 0:Nat):=by rw[uW (by rw[cW];decide),kR (by decide)]
 have hl:=iL (.bJ z.natAbs);have mE:∀z,(cI z).length=18:=fun z=>by simp[cI,dM,cW]
 have e1:(cI z).getD 1 aD=.bool (decide (z<0)):=rfl;have e2:(cI z).getD 2 aD=.int .u32 (bL z.natAbs 0:Nat):=we;have e3:(cI z).getD 3 aD=.int .u32 (bL z.natAbs 1:Nat):=JI;refine bQ ?_;refine Ty ?_;refine fF ?_;refine Ty ?_;refine bY (gz _) ?_;simp only[Bc];refine Ty ?_;refine fF ?_;simp only[↓zP,seval,zI];refine bY (lo _) ?_;simp only[↓zP,zJ,seval,oL (mE (-9223372036854775808))];refine fF ?_;simp only[↓zP,seval,zI];refine bY (hi _) ?_;simp only[↓zP,zJ,seval,oL (mE 9223372036854775807)];refine fF ?_;refine Ty ?_;refine bY (c1 _) ?_;simp only[↓zP,zJ,seval,d1];refine bY (c2 _) ?_;simp only[↓zP,zG,seval,d2];refine fF ?_;simp only[↓zP,zJ,seval,sT,e2,e3,w1,w2,w3,w4,w5];refine bR ?_;by_cases hn:z<0
 . rw[Aj hn] at e1
   have w6:IntKind.i64.wrap (0 -(if z<0/\z.natAbs=2^63 then z else(z.natAbs:Int)))=z:=by
    by_cases h:z.natAbs=2^63
    . rw[if_pos ⟨hn,h⟩];have :z= -2^63:=(by omega);rw[this];rfl
    rw[if_neg (fun hh=>h hh.2),wrap_i64 (by omega) (by omega)];omega
   simp only[↓zP,zJ,seval,e1,w6];exact ZaQ
 rw[Ag hn] at e1;simp only[↓zP,zJ,seval,e1];refine Rx ?_;rw[if_neg (fun hh=>hn hh.1),show(z.natAbs:Int)=z by omega];rfl
theorem YO {a b:Int} (ha:a.natAbs<2^62) (hb:b.natAbs<2^62) (H:aA):Sg 334 [.agg (cI a),.agg (cI b)] H (.ret (.agg (cI (Int.gcd a b)))) H:=by
 refine Sp bBz Zav ZaL ?_ H;unfold aQs;dsimp only;refine bQ ?_;refine Ty ?_;refine fF ?_;refine Ty ?_;refine bY (rG ha _) ?_;refine Ty ?_;refine fF ?_;refine Ty ?_;refine bY (rG hb _) ?_;refine Ty ?_;refine bR ?_;refine aN fun K hK=>?_;refine Tz ?_;refine aJ (iP [5,7] (fun m vs H'=>H'=(((⟨0,.nil⟩:aA).alloc (.cells (cI a) false)).alloc (.cells (cI b) false)).alloc (.cells (.bool false::.bool false::wC zs) false)/\∃x y:Int,vs=[.int .i64 x,.int .i64 y]/\x.natAbs<2^62/\y.natAbs<2^62/\m=y.natAbs/\Int.gcd x y=Int.gcd a b) b.natAbs (by rfl) ?_ ?_)
 . exact⟨rfl,a,b,by simp only[sm,zB,seval],ha,hb,rfl,rfl⟩
 rintro m f H hk ⟨rfl,x,y,hv,hx,hy,rfl,hg⟩;simp only[zM] at hv;obtain⟨h0,h1⟩:=hv;have f4:f 4=.ref 2 0:=hk 4 rfl;by_cases MT:y=0
 . subst MT;have ho:=vI (z:=x) (by omega) (by omega);have FX:=aHo (z:=x) (uj hx);have RC:(x.natAbs:Int)=Int.gcd a b:=by rw[<-hg];simp[Int.gcd]
   rw[RC] at FX;simp only[↓zP,zG,seval,h1,h0,show((0:Int) != 0)=false from rfl];refine bY (ho _) ?_;refine bY (FX _) ?_;simp only[↓zP,zJ,seval,f4];refine⟨rfl,_,by simp only[↓zP,zR,seval,f4];rfl,?_⟩;rfl
 have eQ:(y != 0)=true:=by simpa using MT
 have fJ:(x.tmod y).natAbs<y.natAbs:=by rw[natAbs_tmod];exact Di _ (by omega)
 exact ZaU
theorem mi {n m:Int} (hm:0<m) (hd:m∣n) (hn:n.natAbs<2^62) (H:aA):Sg 372 [.int .i64 n,.int .i64 m] H (.ret (.int .i64 (n / m))) H:=by
 refine So bCl Zag ?_ H;unfold aRd;dsimp only;have e1:n.tdiv m=n / m:=Hx hd;have e2:n.tmod m=0:=Int.tmod_eq_zero_of_dvd hd
 have hw:IntKind.i64.wrap (n / m)=n / m:=by
  obtain⟨k,rfl⟩:=hd;rw[Int.mul_ediv_cancel_left _ (by omega)]
  have :k.natAbs<=(m*k).natAbs:=by rw[Ga];exact Jn _ (by omega)
  exact wrap_i64 (by omega) (by omega)
 have MR:¬m=0:=by omega
 simp only[↓zP,zJ,seval,e1,e2,hw,MR,show((0:Int) != 0)=false from rfl];exact ZaQ
theorem YQ {n m:Int} (hm:0<m) (hd:m∣n) (hn:n.natAbs<2^62) (WQ:m.natAbs<2^62) (H:aA):Sg 336 [.agg (cI n),.agg (cI m)] H (.ret (.agg (cI (n / m)))) H:=by
 refine Sp bCb Zav ZaL ?_ H;unfold aQu;dsimp only;have hb:(m != 0)=true:=by rw[Dd];omega
 have hf:=mi hm hd hn
 have hq:(n / m).natAbs<2^62:=by
  obtain⟨k,rfl⟩:=hd;rw[Int.mul_ediv_cancel_left _ (by omega)]
  have :k.natAbs<=(m*k).natAbs:=by rw[Ga];exact Jn _ (by omega)
  omega
 have ho:=vI (z:=n / m) (by omega) (by omega);refine bQ ?_;refine Ty ?_;refine fF ?_;refine Ty ?_;refine bY (rG hn _) ?_;refine Ty ?_;refine fF ?_;refine Ty ?_;refine bY (rG WQ _) ?_;refine Ty ?_;refine bR ?_;refine aN fun K hK=>?_;simp only[↓zP,zG,seval,hb];refine bY (hf _) ?_;refine bY (ho _) ?_;refine Ty ?_;exact ZaQ
end Go.Proofs.YtgggiembljfnhaaGreatDoor
namespace Go.Proofs.YtgggiembljfnhaaGreatDoor
open Go Go.Av Go.uE Go.aP
attribute [local congr] aT aI aL aH aX aQ aM aF aY
attribute [local irreducible] FC bS eF
theorem aAw {a b:Int} (ha:a.natAbs<=64) (hb:b.natAbs<=64) (H:aA):Sg 152 [.int .i64 a,.int .i64 b] H (.ret (.int .i64 (Int.gcd a b))) H:=by
 refine So aXs Zag ?_ H;unfold aMo;dsimp only;refine bQ ?_;refine Tz ?_;refine bR ?_;refine aN fun K hK=>?_;refine aJ (iP [0,1] (fun m vs H'=>H'=⟨0,.nil⟩/\∃x y:Int,vs=[.int .i64 x,.int .i64 y]/\x.natAbs<=64/\y.natAbs<=64/\m=y.natAbs/\Int.gcd x y=Int.gcd a b) b.natAbs (by rfl) ?_ ?_)
 . exact⟨rfl,a,b,by simp only[sm,zB,seval];rfl,ha,hb,rfl,rfl⟩
 rintro m f H hk ⟨rfl,x,y,hv,hx,hy,rfl,hg⟩;simp only[zM] at hv;obtain⟨h0,h1⟩:=hv;by_cases MT:y=0
 . subst MT;have RC:(x.natAbs:Int)=Int.gcd a b:=by rw[<-hg];simp[Int.gcd]
   have xi:IntKind.i64.wrap (0 -x)= -x:=wI (by omega);have pr:(if -x>x then -x else x)=(Int.gcd a b:Int):=(by rw[<-RC];split<;>omega);simp only[↓zP,zG,seval,h1,show((0:Int) != 0)=false from rfl];apply hK;clear hK K;simp only[↓zP,zG,seval,h0,xi,pr];exact ZaQ
 have eQ:(y != 0)=true:=by simpa using MT
 have fJ:(x.tmod y).natAbs<y.natAbs:=by rw[natAbs_tmod];exact Di _ (by omega)
 exact ZaU
def Yi (x:Int):Int:=if x<0 then -1 else if x=0 then 0 else 1
theorem aHw (x:Int) (H:aA):Sg 153 [.int .i64 x] H (.ret (.int .i64 (Yi x))) H:=by
 refine So aXt Zag ?_ H;unfold aMp;dsimp only;by_cases h:x<0
 . have d:=Aj h;simp only[↓zP,zJ,seval,d];refine Rx ?_;unfold Yi;rw[if_pos h];rfl
 have d:=Ag h;simp only[↓zP,zJ,seval,d];refine Rx ?_;unfold Yi;rw[if_neg h];simp only[nB];congr 2;split<;>split<;>omega
theorem aAz {l:List Int} (h4:l.length=4) (H:aA):Sg 120 [.agg (iC l)] H (.ret (.bool (ID l))) H:=by
 refine So aWw ZaY ?_ H;unfold aLt;dsimp only;have hlen:(iC l).length=4:=by rw[cD,h4]
 refine bQ ?_;refine Ty ?_;refine bR ?_;refine aN fun K hK=>?_;refine Tz ?_;refine bP [] (fun i vs H'=>H'.get 0=some (.cells (iC l) false)/\∀x∈l.take i,-64<=x/\x<=64) 0 4 (Az _) (by omega) (by decide) ?_ ?_ ?_ ?_ ?_
 . exact zq
 . exact⟨by simp only[zI,seval],fun x hx=>by simp at hx⟩
 . rintro i f H1 h0 hi hk e1 _;simp only[↓zP,zG,seval,e1];exact Zae
 . rintro i f H1 h0 hi hk e1 ⟨g0,bU⟩;have f1:f 1=.ref 0 0:=hk 1 rfl;have gQ:i<l.length:=by omega
   have hm:=qY gQ;have hd:=eJ gQ;have hle:i+1<=(iC l).length:=by rw[hlen];omega
   have gV:(-64<=l.getD i 0/\l.getD i 0<=64)->∀x∈l.take (i+1),-64<=x/\x<=64:=fun h x hx=>by
    exact ZaZ
   have fS:¬(-64<=l.getD i 0/\l.getD i 0<=64)->ID l=false:=fun h=>by unfold ID;rw[El];exact⟨_,hm,by rw[Ag h];decide⟩
   generalize l.getD i 0=x at *;refine aJ ?_;by_cases c1:x>64
   . have d1:=Aj c1;simp only[↓zP,zJ,seval,e1,f1,g0,aB,hi,hle,hd,d1];exact ZaF
   have d1:=Ag c1;by_cases c2:x< -64
   . have d2:=Aj c2;simp only[↓zP,zJ,seval,e1,f1,g0,aB,hi,hle,hd,d1,d2];exact ZaF
   have d2:=Ag c2;simp only[↓zP,zJ,seval,e1,f1,g0,aB,hi,hle,hd,d1,d2];exact⟨trivial,gV ⟨by omega,by omega⟩⟩
 rintro f H1 hk ⟨g0,bU⟩;exact Za8
def KE (l:List Int):Int:=match l.find? (fun x=>x != 0) with
 |some x=>Yi x
 |none=>0
theorem KF:∀(l:List Int) (o:Nat),l.foldl (fun o x=>Nat.gcd o x.natAbs) o=Nat.gcd o (iM l)
 |[],o=>by simp[iM]
 |x::l,o=>by have h1:=KF l (Nat.gcd o x.natAbs);have h2:=KF l (Nat.gcd 0 x.natAbs);simp only[iM,Ho] at h1 h2 ⊢;rw[h1,h2,Gy,Nat.gcd_assoc]
theorem ji (x:Int) (l:List Int):iM (x::l)=Nat.gcd x.natAbs (iM l):=by have :=KF l (Nat.gcd 0 x.natAbs);rw[Gy] at this;show List.foldl _ (Nat.gcd 0 x.natAbs) l=_;rw[Gy];exact this
theorem jj {l:List Int} {i:Nat} (h:i<l.length):iM (l.drop i)=Nat.gcd (l.getD i 0).natAbs (iM (l.drop (i+1))):=by rw[Dk h,ji];simp[h]
theorem jg {l:List Int} {i:Nat} (h:i<l.length):KE (l.drop i)=if l.getD i 0=0 then KE (l.drop (i+1)) else Yi (l.getD i 0):=by
 rw[Dk h];have e:l.getD i 0=l[i]:=by simp[h]
 rw[e];unfold KE;by_cases h0:l[i]=0
 . rw[if_pos h0,List.find?_cons_of_neg (by simp[h0])]
 rw[if_neg h0,Jp (by simpa using h0)]
theorem aUh {l:List Int} (h:iM l≠0):KE l*iM l=DW l:=by
 unfold KE DW
 cases hf:l.find? (fun x=>x != 0) with
 |some x=>have :=List.find?_some hf;simp only[Dd,ne_eq] at this;simp only[Yi];split<;>omega
 |none=>refine absurd (Qp fun x hx=>?_) h;have :=Hu.1 hf x hx;simpa using this
theorem uq (l:List Int):(KE l).natAbs<=1:=by
 unfold KE Yi;split
 . split
   . decide
   split<;>decide
 decide
theorem aAs {l:List Int} (h4:l.length=4) (hl:∀x∈l,x.natAbs<=64) (H:aA):
 Sg 121 [.agg (iC l)] H (.ret (.iA [.agg (iC ((rQ l).getD [0,0,0,0])),.bool (rQ l).isSome])) H:=by
 refine Sp aWx ZaY (by simp only[AV.free,bO,jI];rfl) ?_ H;unfold aLu;dsimp only;have hlen:(iC l).length=4:=by rw[cD,h4]
 refine bQ ?_;refine Ty ?_;refine bR ?_;generalize hX:((aA.mk 0 .nil).alloc _).alloc _=HA;have g0:HA.get 0=some (.cells (iC l) false):=by subst hX;simp only[zI,seval]
 have g1:HA.get 1=some (.cells [.int .i64 0,.int .i64 0,.int .i64 0,.int .i64 0] false):=by subst hX;simp only[zI,seval]
 clear hX;refine bV fun f hf=>?_;have f1:f 1=.ref 0 0:=by subst hf;simp only[zB,seval]
 have f2:f 2=.ref 1 0:=by subst hf;simp only[zB,seval]
 clear hf;refine bQ ?_;refine Tz ?_;refine fF ?_;refine Tz ?_;refine bR ?_;refine aN fun K hK=>?_;refine Tz ?_;refine ZB [4,5] (fun i vs H'=>H'=HA/\vs=[.int .i64 (iM (l.drop i):Nat),.int .i64 (KE (l.drop i))]) 4 (by omega) (by decide) ?_ ?_ ?_ ?_ ?_
 . exact zq
 . refine⟨rfl,?_⟩;rw[Ca (by omega)];simp only[sm,zB,seval];rfl
 . rintro i f H1 hi hk e1 _;simp only[↓zP,zG,seval,e1];exact Zae
 . rintro i f3 H1 hi hk e1 ⟨rfl,hv⟩;simp only[zM] at hv;obtain⟨v4,v5⟩:=hv;have gQ:i<l.length:=by omega
   have f31:f3 1=.ref 0 0:=(by rw[hk 1 rfl];simp only[zB,seval];exact f1);have hd:=eJ gQ;have hle:i+1<=(iC l).length:=(by rw[hlen];omega);have hx:=hl _ (qY gQ);have sL:iM (l.drop (i+1))<=64:=HH (fun x hx=>hl x (Dt hx)) (by decide);rw[jj gQ,jg gQ];generalize l.getD i 0=x at *;generalize iM (l.drop (i+1))=g at *;generalize KE (l.drop (i+1))=s at *;have hg:=aAw (a:=g) (b:=x) (by omega) hx;have hgg:Int.gcd (g:Int) x=Nat.gcd x.natAbs g:=(by rw[Int.gcd,Hz];rfl);rw[hgg] at hg;refine aJ ?_;refine bQ ?_;simp only[↓zP,zJ,seval,e1,f31,v4,aB,hi,g0,hle,hd];refine bY (hg _) ?_;refine Tz ?_;refine bR ?_;refine aN fun K2 bW=>?_;by_cases c1:x=0
   . have d1:(x != 0)=false:=(by rw[c1];rfl);simp only[↓zP,zJ,seval,e1,f31,aB,hi,g0,hle,hd,d1];apply bW;clear bW K2;simp only[↓zP,zJ,seval,v5];rw[if_pos c1];exact⟨trivial,rfl⟩
   have d1:(x != 0)=true:=(by rw[Dd];exact c1);have hs:=aHw x;simp only[↓zP,zJ,seval,e1,f31,aB,hi,g0,hle,hd,d1];apply bW;clear bW K2;simp only[↓zP,zJ,seval,e1,f31,aB,hi,g0,hle,hd];refine bY (hs _) ?_;refine Tz ?_;rw[if_neg c1];exact⟨trivial,rfl⟩
 rintro f3 H1 hk ⟨rfl,hv⟩;simp only[sm,Ip,Kb,Ee] at hv;obtain⟨v4,v5⟩:=hv;have f31:f3 1=.ref 0 0:=by rw[hk 1 rfl];simp only[zB,seval];exact f1
 have f32:f3 2=.ref 1 0:=by rw[hk 2 rfl];simp only[zB,seval];exact f2
 have bFh:iM l<=64:=HH hl (by decide);have mT:=uq l;have hsg:=cp l;have xi:IntKind.i64.wrap (0 -(iM l:Int))= -(iM l:Int):=wI (by omega);have pr:(if -(iM l:Int)>iM l then -(iM l:Int) else iM l)=iM l:=by split<;>omega
 have yW:IntKind.i64.wrap (KE l*(iM l:Int))=KE l*iM l:=by
  have :(KE l*(iM l:Int)).natAbs<=1*64:=by rw[Ga];exact Bt mT (by omega)
  exact wrap_i64 (by omega) (by omega)
 refine Tx ?_;apply hK;clear hK K;refine bQ ?_;simp only[↓zP,zG,seval,v4,v5,xi,pr,yW];refine bR ?_;by_cases hz:iM l=0
 . have hd:((KE l*(iM l:Int))==0)=true:=by rw[hz];simp
   refine aN fun K hK=>?_;simp only[↓zP,zJ,seval,hd,f32,g1];refine⟨rfl,_,by simp only[↓zP,zR,seval,f32];rfl,?_⟩;have :rQ l=none:=(by unfold rQ;rw[if_pos hz]);rw[this];rfl
 have hq:=aUh hz;rw[hq];have hs0:¬(DW l=0):=by omega
 have hd:(DW l==0)=false:=by rw[Bq];exact hs0
 refine bQ ?_;simp only[↓zP,zG,seval,hd];refine bR ?_;have hdq:rQ l=some (l.map fun x=>x.tdiv (DW l)):=by unfold rQ;rw[if_neg hz]
 rw[hdq]
 have hwx:∀x∈l,IntKind.i64.wrap (x.tdiv (DW l))=x.tdiv (DW l):=fun x hx=>by have :=Int.natAbs_tdiv_le_natAbs x (DW l);have :=hl x hx;exact wrap_i64 (by omega) (by omega)
 generalize DW l=s at *
 match l,h4 with
 |[a,b,c,d],_=>
 have wa:=hwx a (by simp);have wb:=hwx b (by simp);have wc:=hwx c (by simp);have wd:=hwx d (by simp);have hic:iC [a,b,c,d]=[.int .i64 a,.int .i64 b,.int .i64 c,.int .i64 d]:=rfl;rw[hic] at g0;refine bQ ?_;refine Dz ?_;simp only[↓zP,zJ,seval,zD,f31,f32,g0,g1,hs0,sT,wa,wb,wc,wd];refine bR ?_;simp only[↓zP,seval,zI];refine⟨rfl,_,by simp only[↓zP,zR,seval,f32];rfl,?_⟩;rfl
theorem Ye {l:List Int} (h4:l.length=4) (H:aA):Sg 100 [.agg (iC l)] H (.ret (.bool (qN l))) H:=by
 refine So aWk ZaY ?_ H;unfold aLi;dsimp only;have hlen:(iC l).length=4:=by rw[cD,h4]
 have lo:=aAz h4;refine bQ ?_;refine Ty ?_;refine bR ?_;refine aN fun K hK=>?_;simp only[↓zP,zJ,seval,oL hlen];refine bY (lo _) ?_
 cases hb:ID l with
 |false=>refine Ty ?_;refine Rx ?_;unfold qN;rw[hb];rfl
 |true=>
  refine Ty ?_;apply hK;clear hK K;have hq:=aAs h4 (ao hb)
  have Nt:(iC ((rQ l).getD [0,0,0,0])).length=4:=by
   rw[cD];unfold rQ;split
   . rfl
   simp[h4]
  refine bQ ?_;simp only[↓zP,zJ,seval,oL hlen];refine bY (hq _) ?_;simp only[↓zP,zJ,seval,oL Nt];refine bR ?_;have Zh:cL [.i,.i,.i,.i] (iC ((rQ l).getD [0,0,0,0])) (iC l)=some (decide ((rQ l).getD [0,0,0,0]=l)):=sJ (n:=4) (by rw[<-cD,Nt]) h4;have hv:qN l=(rQ l==some l):=by unfold qN;rw[hb];rfl
  rw[hv]
  cases hdq:rQ l with
  |none=>rw[hdq] at Nt;simp only[↓zP,zG,seval,Cj];refine Rx ?_;rfl
  |some d=>rw[hdq] at Nt Zh;simp only[↓zP,zJ,seval,Bc,Bi];simp only[Bi] at Zh Nt;simp only[zJ,seval,oL Nt,oL hlen,Zh];refine Rx ?_;simp only[nB];congr 2;rw[Ci];simp
theorem Ra {p:List Int} (h7:p.length=7) (H:aA):Sg 62 [.agg (iC p)] H (.ret (.int .i64 (hU p))) H:=by
 refine So bIa ZaY ?_ H;unfold W62;dsimp only;have hlen:(iC p).length=7:=by rw[cD,h7]
 have h34:(p.drop 3).length=4:=by simp;omega
 have hv:=Ye h34;refine bQ ?_;refine Ty ?_;refine bR ?_;refine aN fun K hK=>?_;refine Tz ?_;refine bP [] (fun i vs H'=>H'.get 0=some (.cells (iC p) false)/\∀x∈(p.take 3).take i,x<140737488355328/\x> -140737488355328) 0 3 (Az _) (by omega) (by decide) ?_ ?_ ?_ ?_ ?_
 . exact zq
 . exact⟨by simp only[zI,seval],fun x hx=>by simp at hx⟩
 . rintro i f H1 h0 hi hk e1 _;simp only[↓zP,zG,seval,e1];exact Zae
 . rintro i f H1 h0 hi hk e1 ⟨g0,bU⟩;have f1:f 1=.ref 0 0:=hk 1 rfl;have gQ:i<p.length:=by omega
   have EY:i<(p.take 3).length:=Zah;have he:(p.take 3).getD i 0=p.getD i 0:=(by simp[hi]);have hm:=qY EY;have hd:=eJ gQ;have hle:i+1<=(iC p).length:=(by omega);rw[he] at hm
   have gV:(fun x:Int=>x<140737488355328/\x> -140737488355328) (p.getD i 0)->∀x∈(p.take 3).take (i+1),x<140737488355328/\x> -140737488355328:=fun h x hx=>by
    rw[An,Ao] at hx
    rcases hx with hx|hx
    . exact bU x hx
    rw[Ad EY] at hx;simp only[Fu,Cc] at hx;rw[<-he,Bg,Ad EY] at h;subst hx;exact h
   have fS:¬(p.getD i 0<140737488355328/\p.getD i 0> -140737488355328)->hU p=1:=fun h=>by unfold hU;rw[if_neg];intro hh;rw[Al] at hh;exact h (Cu (Aw.1 hh.1 _ hm))
   clear he hm;generalize p.getD i 0=x at *;refine aJ ?_;by_cases c1:x≥140737488355328
   . have d1:=Aj c1;simp only[↓zP,zJ,seval,e1,f1,g0,aB,hi,hle,hd,d1];exact ZaF
   have d1:=Ag c1;by_cases c2:x<=-140737488355328
   . have d2:=Aj c2;simp only[↓zP,zJ,seval,e1,f1,g0,aB,hi,hle,hd,d1,d2];exact ZaF
   have d2:=Ag c2;simp only[↓zP,zJ,seval,e1,f1,g0,aB,hi,hle,hd,d1,d2];exact⟨trivial,gV ⟨by omega,by omega⟩⟩
 rintro f H1 hk ⟨g0,bU⟩;rw[Aq Zah] at bU;have f1:f 1=.ref 0 0:=hk 1 rfl
 have hp:hU p=if qN (p.drop 3) then 0 else 1:=by unfold hU;rw[Aw.2 fun x hx=>Aj (bU x hx)];rfl
 refine Tx ?_;apply hK;clear hK K;have h47:3+4<=(iC p).length:=by omega
 have pT:((iC p).drop 3).take 4=iC (p.drop 3):=by rw[tS,uO,Aq (by omega)]
 refine bQ ?_;simp only[↓zP,zJ,seval,f1,g0,h47,pT];refine bY (hv _) ?_;refine Tz ?_;refine bR ?_
 cases hb:qN (p.drop 3) with
 |true=>rw[hb] at hp;refine Ty ?_;refine Rx ?_;rw[hp];rfl
 |false=>rw[hb] at hp;refine Ty ?_;refine Rx ?_;rw[hp];rfl
end Go.Proofs.YtgggiembljfnhaaGreatDoor
namespace Go.Proofs.YtgggiembljfnhaaGreatDoor
open Go Go.Av Go.aP
attribute [local congr] aT aI aL aH aX aQ aM aF aY
attribute [local irreducible] FC bS eF
def cH (l:List aP.V):List (List AV):=l.map cU
theorem aU (l:List aP.V):(cH l).length=l.length:=by simp[cH]
theorem dD {l:List aP.V} {i:Nat} (h:i<l.length):(cH l).getD i []=cU l[i]:=gK h
theorem dL {tag:Nat} (ht:Nat.blt tag 2=true) (l:List aP.V):(AV.bD tag 3 (cH l)).free=true:=by simp only[AV.free,ht,Co];exact eK cT l
def CZ (l:List aP.V) (q:aP.V×Int):Bool:=l.all (fun v=>decide (aP.dot q.1 v<=q.2))&& !l.all (fun v=>aP.dot q.1 v==q.2)
theorem YF {tag:Nat} (ht:Nat.blt tag 2=true) {l:List aP.V} {M B:Nat} (hl:∀v∈l,cG M v) (hlen:l.length<2^30) {q:aP.V×Int} (hq:cG B q.1) (hs:3*(B*M)<2^62) (H:aA):
 Sg 207 [.bD tag 3 (cH l),.agg (lF q)] H (.ret (.bool (CZ l q))) H:=by
 refine So aYz (by simp only[sf,dL ht,AY]) ?_ H;unfold aNv;dsimp only;have p3:(lF q).length=4:=rfl;have p1:(lF q).take 3=cU q.1:=rfl;have p2:(lF q).getD 3 aD=.int .i64 q.2:=rfl;refine bQ ?_;refine Ty ?_;refine fF ?_;refine Tz ?_;refine bR ?_;refine aN fun K hK=>?_;refine bQ ?_;refine Ty ?_;refine bR ?_;refine cV [5] (fun i vs H=>vs=[.bool ((l.take i).all (fun v=>aP.dot q.1 v==q.2))]/\(∀v∈l.take i,aP.dot q.1 v<=q.2)/\1<=H.next/\H.get 0=some (.cells (lF q) false)) l.length (by omega) (by decide) ?_ ?_ ?_ ?_ ?_
 . exact zq
 . simp only[zB,seval,aU]
 . refine⟨by simp only[sm,zB,seval];rfl,fun v hv=>by simp at hv,by simp only[zI,seval],by simp only[seval,zI]⟩
 . rintro i f H hi hk e1 ⟨hv,hle,hn,g0⟩;simp only[zM] at hv
   have hx:∀v,v∈l.take (i+1)->v∈l.take i\/v=l[i]:=fun v hv=>by
    exact Zas
   have bU:(l.take (i+1)).all (fun v=>aP.dot q.1 v==q.2)=((l.take i).all (fun v=>aP.dot q.1 v==q.2)&&(aP.dot q.1 l[i]==q.2)):=by rw[An,List.all_append];simp[hi]
   generalize hb:(l.take i).all (fun v=>aP.dot q.1 v==q.2)=b at *;have FE:=Ac hi;have hg:=dD hi;generalize pq:l[i]=x at *;have cQ:¬(0=H.next):=(by omega);refine aJ ?_;simp only[↓zP,zJ,seval,e1,hk 9 rfl,hk 3 rfl,aB,aU,hi,hg,oL (aV x),cQ,g0,p3,p1];refine bY (HN hq (hl x FE) hs _) ?_;simp only[↓zP,zJ,seval,hk 3 rfl,cQ,g0,p3,p2,hv];refine⟨fun h=>?_,fun h=>?_⟩
   . refine Rx ?_
     have :CZ l q=false:=by simp only[CZ,Jz];refine .inl ?_;rw[<-Ei,Aw];intro ha;have :=Cu (ha x FE);omega
     rw[this];rfl
   have Xd:∀v∈l.take (i+1),aP.dot q.1 v<=q.2:=fun v hv=>by
    rcases hx v hv with h1|rfl
    . exact hle v h1
    omega
   cases b
   . refine Tz ?_;exact⟨by rw[bU];rfl,Xd,trivial⟩
   refine Tx ?_;exact⟨by rw[bU];rfl,Xd,trivial⟩
 rintro f H hk ⟨hv,hle,hn,g0⟩;simp only[zM] at hv;rw[Ax] at hv hle;refine Tx ?_;apply hK;simp only[↓zP,zG,seval,hv];refine Rx ?_;have :l.all (fun v=>decide (aP.dot q.1 v<=q.2))=true:=Aw.2 fun v hv=>Aj (hle v hv);simp only[CZ,this,Co];rfl
def VW (p q:aP.V×Int):Int:=orZ [zS p.1.x q.1.x,zS p.1.y q.1.y,zS p.1.z q.1.z]
theorem VX (p q:aP.V×Int) (H:aA):Sg 209 [.agg (lF p),.agg (lF q)] H (.ret (.int .i64 (VW p q))) H:=by
 refine So aZa (by simp only[sf,AY]) ?_ H;unfold aNw;dsimp only;refine bQ ?_;refine Ty ?_;refine fF ?_;refine Dz ?_;simp only[↓zP,zJ,seval,zD,lF,sT];refine fP (lN p.1.x q.1.x _) ?_;simp only[↓zP,zJ,seval,zD,sT];refine fP (lN p.1.y q.1.y _) ?_;simp only[↓zP,zJ,seval,zD,sT];refine fP (lN p.1.z q.1.z _) ?_;simp only[↓zP,zJ,seval,zD];have xm:=aIq [zS p.1.x q.1.x,zS p.1.y q.1.y,zS p.1.z q.1.z] (by simp);simp only[iU,sm] at xm;refine fP (xm _) ?_;simp only[↓zP,zJ,seval,zD];refine bR ?_;refine Tx ?_
 (refine Rx ?_;rfl)
end Go.Proofs.YtgggiembljfnhaaGreatDoor
namespace Go.Proofs.YtgggiembljfnhaaGreatDoor
open Go Go.Av
attribute [local congr] aT aI aL aH aX aQ aM aF aY
attribute [local irreducible] FC bS eF
def CA (m:Int) (w:List Int):Bool:=w.all fun x=>decide (x<=m/\-m<=x)
def tZ (n:Int):Int:=if n=0 then 1099511627776 else 4096
theorem Rb {n:Int} (h0:0<=n) (H:aA):Sg 43 [.int .i64 n] H (.ret (.int .i64 (tZ n))) H:=by
 refine So bHr Zag ?_ H;unfold W43;dsimp only;by_cases h:n=0
 . have d:=Ag (show ¬n>0 by omega);simp only[↓zP,zJ,seval,d];refine Rx ?_;unfold tZ;rw[if_pos h];rfl
 have d:=Aj (show n>0 by omega);simp only[↓zP,zJ,seval,d];refine Rx ?_;unfold tZ;rw[if_neg h];rfl
theorem Uz {m:Int} {w:List Int} {i:Nat} (hi:i<w.length) (bU:∀x∈w.take i,x<=m/\-m<=x) (h:w.getD i 0<=m/\-m<=w.getD i 0):∀x∈w.take (i+1),x<=m/\-m<=x:=fun x hx=>by
 rw[An,Ao] at hx
 rcases hx with hx|hx
 . exact bU x hx
 simp[hi] at hx;subst hx;simpa [hi] using h
theorem yc {m:Int} {w:List Int} {i:Nat} (hi:i<w.length) (h:¬(w.getD i 0<=m/\-m<=w.getD i 0)):CA m w=false:=by unfold CA;rw[El];exact⟨_,qY hi,by rw[Ag h];decide⟩
theorem Zx {m:Int} {w:List Int} (h:∀x∈w,x<=m/\-m<=x):CA m w=true:=by unfold CA;rw[Aw];exact fun x hx=>Aj (h x hx)
theorem qL {m:Int} (hm:m.natAbs<2^62) {w:List Int} (h3:w.length=3) (H:aA):Sg 42 [.int .i64 m,.agg (iC w)] H (.ret (.bool (CA m w))) H:=by
 refine So bHq ZaY ?_ H;unfold W42;dsimp only;have hlen:(iC w).length=3:=by rw[cD,h3]
 have xi:IntKind.i64.wrap (0 -m)= -m:=wI (by omega);refine bQ ?_;refine Ty ?_;refine bR ?_;refine aN fun K hK=>?_;refine Tz ?_;refine bP [] (fun i vs H'=>H'.get 0=some (.cells (iC w) false)/\∀x∈w.take i,x<=m/\-m<=x) 0 3 (Az _) (by omega) (by decide) ?_ ?_ ?_ ?_ ?_
 . exact zq
 . exact⟨by simp only[zI,seval],fun x hx=>by simp at hx⟩
 . rintro i f H1 h0 hi hk e1 _;simp only[↓zP,zG,seval,e1];exact Zae
 . rintro i f H1 h0 hi hk e1 ⟨g0,bU⟩;have f3:f 3=.ref 0 0:=hk 3 rfl;have f0:f 0=.int .i64 m:=hk 0 rfl;have gQ:i<w.length:=by omega
   have hd:=eJ gQ;have hle:i+1<=(iC w).length:=(by rw[hlen];omega);have gV:=Uz gQ bU;have fS:=yc (m:=m) gQ;generalize w.getD i 0=x at *;refine aJ ?_;by_cases c1:x>m
   . have d1:=Aj c1;simp only[↓zP,zJ,seval,e1,f0,f3,g0,aB,hi,hle,hd,d1];exact ZaF
   have d1:=Ag c1;by_cases c2:x< -m
   . have d2:=Aj c2;simp only[↓zP,zJ,seval,e1,f0,f3,g0,aB,hi,hle,hd,xi,d1,d2];exact ZaF
   have d2:=Ag c2;simp only[↓zP,zJ,seval,e1,f0,f3,g0,aB,hi,hle,hd,xi,d1,d2];exact⟨trivial,gV ⟨by omega,by omega⟩⟩
 rintro f H1 hk ⟨g0,bU⟩;refine Tx ?_;apply hK;clear hK K;refine Tz ?_;refine Rx ?_;rw[Zx fun x hx=>bU x (by rw[Aq (by omega)];exact hx)];rfl
def aUq (H:aA) (v:AV) (L:List (List Int)):Prop:=(v=.aO/\L=[])\/(∃tag,v=.bD tag 3 (L.map iC))\/∃id off o cs,v=.sl id 3 off L.length L.length/\id<H.next/\H.get id=some (.cells cs o)/\∀i (h:i<L.length),off+i*3+3<=cs.length/\(cs.drop (off+i*3)).take 3=iC L[i]
theorem ou {m:Int} (hm:m.natAbs<2^62) {v:AV} {L:List (List Int)} (h3:∀w∈L,w.length=3) (hL:L.length<2^63) {H:aA} (hv:aUq H v L):
 FC Tryz.prog gv W40.1.ntmps W40.1.body (fN [.int .i64 m,v]) [] H (MA W40.1.results fun o H'=>o=.ret (.bool (L.all (CA m)))/\Over H H'):=by
 have xi:IntKind.i64.wrap (0 -m)= -m:=wI (by omega)
 have hln:∀H,dA (fun _=>v) H (.OF (.tmp 0))=some (.int .i64 L.length,H):=fun H=>by rcases hv with ⟨rfl,rfl⟩|⟨tag,rfl⟩|⟨id,off,o,cs,rfl,_⟩<;>simp[dA]
 simp only[dA] at hln;unfold W40;dsimp only;refine bQ ?_;refine Tz ?_;refine bR ?_;refine aN fun K hK=>?_;refine bQ ?_;simp only[↓zP,zJ,seval,hln];refine bR ?_;refine cV [] (fun i _ H'=>Over H H'/\∀w∈L.take i,CA m w=true) L.length (by omega) (by decide) ?_ ?_ ?_ ?_ ?_
 . exact zq
 . exact zq
 . exact⟨.refl H,fun w hw=>by simp at hw⟩
 . rintro i f H1 hi hk e1 ⟨hO,bU⟩;have f9:f 9=v:=hk 9 rfl;have f0:f 0=.int .i64 m:=hk 0 rfl
   have gV:CA m L[i]=true->∀w∈L.take (i+1),CA m w=true:=fun h w hw=>by
    rw[An,Ao] at hw
    rcases hw with hw|hw
    . exact bU w hw
    simp[hi] at hw;subst hw;exact h
   have fS:CA m L[i]=false->L.all (CA m)=false:=fun h=>by rw[El];exact⟨_,Ac hi,by rw[h];decide⟩
   have MS:=h3 _ (Ac hi);have hL3:(iC L[i]).length=3:=(by rw[cD,MS]);generalize hw:L[i]=w at *;refine aJ ?_;refine aN fun K2 bW=>?_
   have key:∀f':dE,f' 6=.ref H1.next 0->f' 0=.int .i64 m->K2 f' [] ((H1.alloc (.cells [.int .i64 0,.int .i64 0,.int .i64 0] false)).set H1.next (.cells (iC w) false)):=by
    intro f' f6 f0;apply bW;clear bW K2;have hO2:Over H ((H1.alloc (.cells [.int .i64 0,.int .i64 0,.int .i64 0] false)).set H1.next (.cells (iC w) false)):=(hO.alloc _).set hO.le _;have g6:((H1.alloc (.cells [.int .i64 0,.int .i64 0,.int .i64 0] false)).set H1.next (.cells (iC w) false)).get H1.next=some (.cells (iC w) false):=Zbt;generalize ((H1.alloc _).set H1.next _)=H2 at *;generalize H1.next=r6 at *;refine bQ ?_;simp only[↓zP,zJ,seval,f6,g6,oL hL3];refine bR ?_;refine jL [] (fun j _ H'=>H'=H2/\∀x∈w.take j,x<=m/\-m<=x) 3 (by omega) rfl (by decide) ?_ ?_ ?_ ?_
    . exact zq
    . exact⟨rfl,fun x hx=>by simp at hx⟩
    . rintro j f2 H3 hj eP e2 ⟨rfl,rA⟩;have u15:f2 15=.agg (iC w):=eP 15 rfl;have u0:f2 0=.int .i64 m:=Zbl;have FA:j<w.length:=(by omega);have hd:=eJ FA;have hle:j+1<=(iC w).length:=(by rw[hL3];omega);have j7:=Uz FA rA;have Xg:=yc (m:=m) FA;generalize w.getD j 0=x at *;refine aJ ?_;refine bQ ?_;simp only[↓zP,zJ,seval,e2,u15,aB,hj,hle,hd];refine bR ?_;refine aN fun K2 bW=>?_;by_cases c1:x>m
      . have d1:=Aj c1;simp only[↓zP,zG,seval,u0,d1];apply bW;clear bW K2;refine Tz ?_;refine Rx ?_;rw[fS (Xg (by omega))];exact⟨rfl,hO2⟩
      have d1:=Ag c1;by_cases c2:x< -m
      . have d2:=Aj c2;simp only[↓zP,zG,seval,u0,xi,d1,d2];apply bW;clear bW K2;refine Tz ?_;refine Rx ?_;rw[fS (Xg (by omega))];exact⟨rfl,hO2⟩
      have d2:=Ag c2;simp only[↓zP,zG,seval,u0,xi,d1,d2];apply bW;clear bW K2;refine Tz ?_;exact⟨trivial,j7 ⟨by omega,by omega⟩⟩
    rintro f2 H3 eP ⟨rfl,rA⟩;refine Tx ?_;exact⟨hO2,gV (Zx fun x hx=>rA x (by rw[Aq (by omega)];exact hx))⟩
   have e11:f 11=.int .i64 i:=e1
   rcases hv with ⟨_,h0⟩|⟨tag,rfl⟩|⟨id,off,o,cs,rfl,dC,hg,EW⟩
   . rw[h0] at hi;exact absurd hi (Ap _)
   . have sL:(L.map iC).getD i []=iC w:=(by rw[<-hw];simp[hi]);have yW:(L.map iC).length=L.length:=Af _;simp only[↓zP,zJ,seval,e11,f9,aB,yW,hi,sL,oL hL3];exact key _ zq Zbv
   obtain⟨h1,h2⟩:=EW i hi;rw[hw] at h2;have JI:=(hO.same id dC).trans hg;simp only[↓zP,zJ,seval,e11,f9,aB,hi,JI,h1,h2,oL hL3];exact key _ zq Zbv
 rintro f H1 hk ⟨hO,bU⟩;rw[Ax] at bU;refine Tx ?_;apply hK;clear hK K;refine Tz ?_;refine Rx ?_;rw[Aw.2 bU];exact⟨rfl,hO⟩
theorem aCl {m:Int} (hm:m.natAbs<2^62) {v:AV} {L:List (List Int)} (h3:∀w∈L,w.length=3) (hL:L.length<2^63) (hv:(v=.aO/\L=[])\/∃tag,Nat.blt tag 2=true/\v=.bD tag 3 (L.map iC)) (H:aA):
 Sg 40 [.int .i64 m,v] H (.ret (.bool (L.all (CA m)))) H:=by
 refine Sp bCo ?_ Zag (jS (fun e f ds H h=>RY (fun o H h=>h.1) h) (ou hm h3 hL (hv.imp id fun h=>.inl (h.imp fun _ h=>h.2)))) H
 rcases hv with ⟨rfl,_⟩|⟨tag,ht,rfl⟩
 . rfl
 have :dT (L.map iC)=true:=by
  induction L with
  |nil=>rfl
  |cons x L ih=>simp only[Cb,dT,jI,Co];exact ih (fun w hw=>h3 w (Au _ hw)) (by simp at hL;omega)
 simp only[bO,AV.free,ht,this,Cp]
end Go.Proofs.YtgggiembljfnhaaGreatDoor
