/-
  Part of the proof of statement 11
-/
import Derived.Test.YtgggiembljfnhaaGreatDoorA16
import Derived.Test.YtgggiembljfnhaaGreatDoorA06
import Derived.Test.YtgggiembljfnhaaGreatDoorA15
import Derived.Test.YtgggiembljfnhaaGreatDoorA07
set_option linter.unusedVariables false
set_option linter.unusedSimpArgs false
set_option maxRecDepth 100000
set_option maxHeartbeats 16000000
namespace Go.Proofs.YtgggiembljfnhaaGreatDoor
open Go Go.Av Go.aP
attribute [local congr] aT aI aM aH aW aQ aN aF aX
attribute [local irreducible] FC bS eG
theorem fU {x:Int} {B:Nat} (h:x.natAbs<=B) (hB:B<2^63):IntKind.i64.wrap x=x:=wrap_i64 (by omega) (by omega)
theorem cH.c {A:Nat} {v:aP.V} (h:cH A v) (i:Nat):(v.at i).natAbs<=A:=by
 unfold V.at;split
 . exact h.1
 . exact h.2.1
 exact h.2.2
theorem HP {a b:aP.V} {A B:Nat} (ha:cH A a) (hb:cH B b) (hs:3*(A*B)<2^62) (H:aA):Sg 210 [.agg (cT a),.agg (cT b)] H (.ret (.int .i64 (aP.dot a b))) H:=by
 have h1:=cE ha.1 hb.1;have h2:=cE ha.2.1 hb.2.1;have h3:=cE ha.2.2 hb.2.2;have w1:=fU h1 (by omega);have w2:=fU h2 (by omega);have w3:=fU h3 (by omega);have w4:IntKind.i64.wrap (a.x*b.x+a.y*b.y)=a.x*b.x+a.y*b.y:=fU (B:=2*(A*B)) (by omega) (by omega);have w5:IntKind.i64.wrap (a.x*b.x+a.y*b.y+a.z*b.z)=a.x*b.x+a.y*b.y+a.z*b.z:=fU (B:=3*(A*B)) (by omega) (by omega);refine So aYk Zam ?_ H;unfold aNi;dsimp only;simp only[↓zP,zJ,seval,cT,sP,w1,w2,w3,w4,w5]
 (refine Rx ?_;rfl)
theorem Qf {x y:Int} {M:Nat} (hx:x.natAbs<=M) (hy:y.natAbs<=M) (hM:M<2^61):IntKind.i64.wrap (x -y)=x -y:=fU (B:=2*M) (by omega) (by omega)
theorem Qq {a b:aP.V} {A B:Nat} (ha:cH A a) (hb:cH B b) (hs:A*B<2^61) (H:aA):Sg 274 [.agg (cT a),.agg (cT b)] H (.ret (.agg (cT (aP.aZ a b)))) H:=by
 obtain⟨a1,a2,a3⟩:=ha;obtain⟨b1,b2,b3⟩:=hb;have w1:=fU (cE a2 b3) (by omega);have w2:=fU (cE a3 b2) (by omega);have w3:=fU (cE a3 b1) (by omega);have w4:=fU (cE a1 b3) (by omega);have w5:=fU (cE a1 b2) (by omega);have w6:=fU (cE a2 b1) (by omega);have w7:=Qf (cE a2 b3) (cE a3 b2) hs;have w8:=Qf (cE a3 b1) (cE a1 b3) hs;have w9:=Qf (cE a1 b2) (cE a2 b1) hs;refine So bAd Zam ?_ H;unfold aPb;dsimp only;simp only[zJ,seval,cT,sP,w1,w2,w3,w4,w5,w6,w7,w8,w9]
 (refine Rx ?_;rfl)
theorem cy {a:aP.V} {A:Nat} (ha:cH A a) (hs:A<2^62) (H:aA):Sg 179 [.agg (cT a)] H (.ret (.agg (cT (aP.neg a)))) H:=by
 obtain⟨a1,a2,a3⟩:=ha;have w1:IntKind.i64.wrap (0 -a.x)= -a.x:=(fU (B:=A) (by omega) (by omega)).trans (by omega);have w2:IntKind.i64.wrap (0 -a.y)= -a.y:=(fU (B:=A) (by omega) (by omega)).trans (by omega);have w3:IntKind.i64.wrap (0 -a.z)= -a.z:=(fU (B:=A) (by omega) (by omega)).trans (by omega);refine So aJr Zam ?_ H;unfold aCu;dsimp only;simp only[↓zP,zJ,seval,cT,sP,w1,w2,w3]
 (refine Rx ?_;rfl)
theorem aHs {a b:aP.V} {A B:Nat} (ha:cH A a) (hb:cH B b) (hs:A+B<2^62) (H:aA):Sg 278 [.agg (cT a),.agg (cT b)] H (.ret (.agg (cT (aP.add a b)))) H:=by
 refine So bAg Zam ?_ H;unfold aPe;dsimp only;simp only[↓zP,zJ,seval,cT];refine jI [] (fun i _ H'=>H'.get 0=some (.cells ([0,1,2].map fun j=>if j<i then .int .i64 (a.at j+b.at j) else .int .i64 (a.at j)) false)/\H'.get 1=some (.cells (cT b) false)/\H'.get 2=some (.cells [.int .i64 0,.int .i64 0,.int .i64 0] false)) 3 (by decide) rfl (by decide) ?_ ?_ ?_ ?_
 . exact zq
 . simp only[seval,zI,An];exact⟨rfl,rfl,trivial⟩
 . rintro i f H hi hk e1 ⟨g0,g1,g2⟩;have hl:([0,1,2].map fun j=>if j<i then AV.int .i64 (a.at j+b.at j) else .int .i64 (a.at j)).length=3:=by simp
   have hg:([0,1,2].map fun j=>if j<i then AV.int .i64 (a.at j+b.at j) else .int .i64 (a.at j)).getD i aC=.int .i64 (a.at i):=by
    match i,hi with
    |0,_=>rfl
    |1,_=>rfl
    |2,_=>rfl
   have w:IntKind.i64.wrap (a.at i+b.at i)=a.at i+b.at i:=by have h1:=cH.c ha i;have h2:=cH.c hb i;exact fU (B:=A+B) (by omega) (by omega)
   refine aL ?_;refine bQ ?_;simp only[↓zP,zG,seval,e1];refine bR ?_;refine Dz ?_;generalize hc:([0,1,2].map fun j=>if j<i then AV.int .i64 (a.at j+b.at j) else .int .i64 (a.at j))=cs at *;simp only[↓zP,zJ,seval,zD,hk 2 rfl,hk 3 rfl,aB,hi,g0,g1,hl,hg,aV,kJ b hi,w,show i+1<=3 by omega];subst hc;refine⟨?_,g2⟩
   match i,hi with
   |0,_=>rfl
   |1,_=>rfl
   |2,_=>rfl
 rintro f H hk ⟨g0,g1,g2⟩;simp only[↓zP,zJ,seval,hk 2 rfl,hk 4 rfl,g0,g2];exact⟨rfl,_,by simp only[↓zP,zR,seval,hk 4 rfl];rfl,rfl⟩
theorem Tv (a b:aP.V):aP.add a (aP.neg b)=aP.sub a b:=by simp only[aP.add,aP.neg,aP.sub,Int.sub_eq_add_neg]
theorem Mg {a b:aP.V} {A B:Nat} (ha:cH A a) (hb:cH B b) (hs:A+B<2^62) (H:aA):Sg 212 [.agg (cT a),.agg (cT b)] H (.ret (.agg (cT (aP.sub a b)))) H:=by refine Sp aYm Zam Zam ?_ H;unfold aNk;dsimp only;refine Ty ?_;refine Dz ?_;simp only[↓zP,zJ,seval,zD,oL (aV a),oL (aV b)];refine fH (cy hb (by omega) _) ?_;simp only[seval];refine fH (aHs ha (IK hb) hs _) ?_;rw[Tv];simp only[↓zP,zJ,seval,zD,oL (aV (aP.sub a b))];exact⟨rfl,_,by simp only[↓zP,zR,seval,oL (aV (aP.sub a b))];rfl,rfl⟩
theorem Uz (a:Int) (H:aA):Sg 273 [.int .i64 a] H (.ret (.bool false)) H:=by
 refine So bAc Zah ?_ H;unfold aPa;dsimp only;simp only[↓zP,zJ,seval,bne_self_eq_false]
 (refine Rx ?_;rfl)
def zY (a b:Int):Int:=if a<b then -1 else if b<a then 1 else 0
theorem lJ (a b:Int) (H:aA):Sg 204 [.int .i64 a,.int .i64 b] H (.ret (.int .i64 (zY a b))) H:=by
 refine So aYg Zah ?_ H;unfold aNe;dsimp only;refine Ty ?_;refine bZ (Uz a _) ?_;refine Ty ?_;refine bZ (Uz b _) ?_;refine Ty ?_;refine⟨fun h=>?_,fun h=>⟨fun h2=>?_,fun h2=>?_⟩⟩<;>refine Rx ?_<;>unfold zY
 . rw[if_pos (by omega)];rfl
 . rw[if_neg (by omega),if_pos (by omega)];rfl
 rw[if_neg (by omega),if_neg (by omega)];rfl
def orZ (l:List Int):Int:=(l.find? (· ≠0)).getD 0
theorem aIb (l:List Int) (hl:l.length<2^30) (H:aA):Sg 203 [.bB 1 1 (iR l)] H (.ret (.int .i64 (orZ l))) H:=by
 refine So aYf (by simp only[sf,HI]) ?_ H;unfold aNd;dsimp only;refine bQ ?_;refine Tz ?_;refine fD ?_;refine Tz ?_;refine bR ?_;refine aJ fun K hK=>?_;refine bQ ?_;refine Ty ?_;refine bR ?_;refine dD [] (fun i _ H=>∀x∈l.take i,x=0) l.length (by omega) (by decide) ?_ ?_ ?_ ?_ ?_
 . exact zq
 . simp only[zB,seval,hU]
 . intro x hx;simp at hx
 . intro i f H hi hk e1 hj;have hg:(iR l).getD i []=[.int .i64 l[i]]:=by simp[iR,List.getD,hi]
   refine aL ?_;by_cases hz:l[i]=0
   . simp only[↓zP,zJ,seval,e1,hk 6 rfl,hk 3 rfl,aB,hU,hi,hg,hz,show((0:Int) != 0)=false from rfl];intro x hx;rw[Ao,Ap] at hx
     rcases hx with hx|hx
     . exact hj x hx
     simp[hi] at hx;rw[hx,hz]
   have hb:(l[i] != 0)=true:=(by simpa using hz);simp only[↓zP,zJ,seval,e1,hk 6 rfl,hk 3 rfl,aB,hU,hi,hg,hb];refine Rx ?_
   have :l.find? (· ≠0)=some l[i]:=by
    conv=>lhs;rw[<-Ic i l]
    rw[List.find?_append,Hr.2 (fun x hx=>by simp[hj x hx]),Dk hi,Jo (by simpa using hz)];rfl
   rw[orZ,this];rfl
 intro f H hk hj;rw[Ay] at hj;refine Tx ?_;apply hK;simp only[↓zP,zG,seval,hk 3 rfl];refine Rx ?_;have :l.find? (· ≠0)=none:=Hr.2 fun x hx=>by simp[hj x hx]
 rw[orZ,this];rfl
def lA (q:aP.V×Int):List AV:=[.int .i64 q.1.x,.int .i64 q.1.y,.int .i64 q.1.z,.int .i64 q.2]
theorem BC (q:aP.V×Int):bO (lA q)=true:=by simp only[lA,sf]
theorem um {a b:Int} {B:Nat} (ha:a.natAbs<=B) (hb:b.natAbs<=B) (hB:B<2^62) (H:aA):Sg 275 [.int .i64 a,.int .i64 b] H (.ret (.int .i64 (Int.gcd a b))) H:=by
 refine So bAe Zah ?_ H;unfold aPc;dsimp only;refine bQ ?_;refine Tz ?_;refine bR ?_;refine aJ fun K hK=>?_;refine aL (iM [0,1] (fun m vs _=>∃x y:Int,vs=[.int .i64 x,.int .i64 y]/\x.natAbs<=B/\y.natAbs<=B/\m=y.natAbs/\Int.gcd x y=Int.gcd a b) b.natAbs (by rfl) ?_ ?_)
 . exact⟨a,b,by simp only[sm,zB,seval,fK],ha,hb,rfl,rfl⟩
 rintro m f H hk ⟨x,y,hv,hx,hy,rfl,hg⟩;simp only[zM] at hv;obtain⟨h0,h1⟩:=hv;by_cases MQ:y=0
 . subst MQ;have hw:IntKind.i64.wrap (0 -x)= -x:=(fU (B:=B) (by omega) (by omega)).trans (by omega);simp only[↓zP,zG,seval,h1,show((0:Int) != 0)=false from rfl];apply hK;simp only[↓zP,zG,seval,h0,hw];refine Rx ?_
   have Qy:(Int.gcd a b:Int)=if -x>x then -x else x:=(by rw[<-hg,aEn]);rw[Qy];rfl
 have eC:(y != 0)=true:=by simpa using MQ
 simp only[↓zP,zG,seval,h1,eC];refine aL (To (by decide) ?_);simp only[↓zP,zG,seval,zD,h0,h1];rw[if_neg MQ]
 have fF:(x.tmod y).natAbs<y.natAbs:=by rw[natAbs_tmod];exact Di _ (by omega)
 simp only[zG,seval,zD];exact⟨_,fF,y,x.tmod y,by simp only[sm,zB,seval],hy,by omega,rfl,by rw[Ng,hg]⟩
theorem Ue {a b:Int} {B:Nat} (ha:a.natAbs<=B) (hb:b.natAbs<=B):Int.gcd a b<=B:=by
 unfold Int.gcd
 rcases Hn a.natAbs with h|h
 . rw[h,Gx];exact hb
 exact Ce (Nat.gcd_le_left _ h) ha
def JE (a b c:aP.V):aP.V×Int:=let n:=gK (aP.aZ (aP.sub b a) (aP.sub c a));(n,aP.dot n a)
theorem Yq {a b c:aP.V} {M:Nat} (ha:cH M a) (hb:cH M b) (hc:cH M c) (hM:M<=2^18) (H:aA):Sg 206 [.agg (cT a),.agg (cT b),.agg (cT c)] H (.ret (.agg (lA (JE a b c)))) H:=by
 have hu:=gL hb ha;have hw:=gL hc ha;have hn:=nO hu hw;have hMM:(M+M)*(M+M)<=2^19*2^19:=Bt (by omega) (by omega);have aUp:2*((M+M)*(M+M))*M<=2^39*2^18:=Bt (by omega) (by omega);refine Sp aYh Zam (by simp only[sf,BC]) ?_ H;unfold aNf;dsimp only;refine bQ ?_;refine Ty ?_;refine fD ?_;refine oV 1 (by decide) (by simp only[pB,seval,zI,Option.isNone_none,Cv]) fun H1 n1 e1=>?_;simp only[zI,seval] at n1 e1;simp only[↓zP,zJ,seval,zD,e1,oL (aV a),oL (aV b)];refine fH (Mg hb ha (by omega) _) ?_;simp only[↓zP,zJ,seval,zD,e1,oL (aV a),oL (aV c)];refine fH (Mg hc ha (by omega) _) ?_;simp only[seval];refine fH (Qq hu hw (by omega) _) ?_;generalize hN:aP.aZ (aP.sub b a) (aP.sub c a)=N at *;simp only[↓zP,zJ,seval,zD,n1,e1,oL (aV N)];refine bR ?_;generalize hB:2*((M+M)*(M+M))=B at *;generalize hX:(H1.set 4 _).set 4 _=H2;have g0:H2.get 0=some (.cells (cT a) false):=by subst hX;simp only[seval,zI,e1]
 have g3:H2.get 3=some (.cells [.int .i64 0,.int .i64 0,.int .i64 0,.int .i64 0] false):=by subst hX;simp only[seval,zI,e1]
 have g4:H2.get 4=some (.cells (cT N) false):=by subst hX;simp only[seval,zI]
 clear hX e1 n1
 have CZ:(Int.gcd N.x N.y:Int).natAbs<=B:=by rw[Em];exact Ue hn.1 hn.2.1
 have hp:=sW hn;refine aJ fun K hK=>?_;refine bQ ?_;refine Dz ?_;simp only[↓zP,zJ,seval,zD,g4,sP,cT];refine fH (um hn.1 hn.2.1 (by omega) _) ?_;simp only[↓zP,zJ,seval,zD,g4,sP,cT];refine fH (um CZ hn.2.2 (by omega) _) ?_;simp only[↓zP,zJ,seval,zD,PD];refine bR ?_
 have fin:∀(f:dE) (H3:aA),f 3=.ref 0 0->f 6=.ref 3 0->f 7=.ref 4 0->H3.get 0=some (.cells (cT a) false)->H3.get 3=some (.cells [.int .i64 0,.int .i64 0,.int .i64 0,.int .i64 0] false)->H3.get 4=some (.cells (cT (gK N)) false)->K f [] H3:=by intro f H3 f3 f6 f7 g0 g3 g4;apply hK;clear hK K;refine bQ ?_;refine Dz ?_;simp only[↓zP,zJ,seval,zD,f3,f7,g0,g4,oL (aV a),oL (aV (gK N))];refine fH (HP hp ha (by omega) _) ?_;simp only[↓zP,zJ,seval,zD,f6,g3,cT];refine bR ?_;refine Tx ?_;refine⟨rfl,_,by simp only[↓zP,zR,seval,f6];rfl,?_⟩;simp only[JE,hN,lA];rfl
 refine Tz ?_;refine⟨fun vJ=>?_,fun hle=>?_⟩
 . have cP:¬((gG N:Nat):Int)=0:=by omega
   have ep:=RO N;have q1:IntKind.i64.wrap (N.x.tdiv (gG N))=(gK N).x:=(by rw[fU (B:=B) (by have :=hp.1;rw[ep] at this;exact this) (by omega),ep]);have q2:IntKind.i64.wrap (N.y.tdiv (gG N))=(gK N).y:=(by rw[fU (B:=B) (by have :=hp.2.1;rw[ep] at this;exact this) (by omega),ep]);have q3:IntKind.i64.wrap (N.z.tdiv (gG N))=(gK N).z:=(by rw[fU (B:=B) (by have :=hp.2.2;rw[ep] at this;exact this) (by omega),ep]);refine Dz ?_;simp only[↓zP,zJ,seval,zD,g4,sP,cT,cP,q1,q2,q3];apply fin<;>simp only[↓zP,zJ,seval,g0,g3,cT]
 have e1:gK N=N:=zx (by omega)
 apply fin<;>first|(simp only[↓zP,zG,seval];done)|(rw[e1];exact g4)|assumption
end Go.Proofs.YtgggiembljfnhaaGreatDoor
namespace Go.Proofs.YtgggiembljfnhaaGreatDoor
open Go Go.Av Go.aP Go.uG
attribute [local congr] aT aI aM aH aW aQ aN aF aX
attribute [local irreducible] FC bS eG
theorem Vs {p q n:Nat} (hn:n<2^64) (e:n=p*4294967296+q) (hq:q<4294967296):IntKind.u64.wrap (p:Int)=p/\IntKind.u64.wrap ((p:Int)*4294967296)=(p:Int)*4294967296/\IntKind.u64.wrap (q:Int)=q/\IntKind.u64.wrap ((p:Int)*4294967296+(q:Int))=n:=by refine⟨?_,?_,?_,?_⟩<;>rw[JH (k:=.u64) rfl]<;>simp only[IntKind.bits]<;>omega
theorem aTt {n:Nat} (h:n<2^64):n=bL n 1*4294967296+bL n 0/\bL n 0<4294967296:=by
 have hW:W=4294967296:=rfl;have e1:bL n 1=n / 4294967296%4294967296:=by simp[bL,hW]
 have e0:bL n 0=n%4294967296:=by simp[bL,hW]
 omega
theorem RS {z:Int} (h0: -2^63<=z) (h1:z<2^63) (H:aA):Sg 197 [.agg (cI z)] H (.ret (.iA [.int .i64 z,.bool true])) H:=by
 refine So aYb Zav ?_ H;unfold aMz;dsimp only;have hz:z.natAbs<W^16:=w63 (by omega);have gz:=tW (mA.enc hz);have lo:=vO (z:= -9223372036854775808) (by decide) (by decide);have hi:=vO (z:=9223372036854775807) (by decide) (by decide);have c1:=CL hz (y:= -9223372036854775808) (by decide);have c2:=CL hz (y:=9223372036854775807) (by decide);have d1:decide (rL (some z) (some (-9223372036854775808))<0)=false:=Ag (by simp only[rL];split<;>(try split)<;>omega);have d2:decide (rL (some z) (some 9223372036854775807)>0)=false:=Ag (by simp only[rL];split<;>(try split)<;>omega);obtain⟨s1,s2⟩:=aTt (n:=z.natAbs) (by omega);obtain⟨w1,w2,w3,w4⟩:=Vs (by omega) s1 s2
 have w5:IntKind.i64.wrap (z.natAbs:Int)=if z<0/\z.natAbs=2^63 then z else(z.natAbs:Int):=by
  by_cases h:z.natAbs=2^63
  . rw[if_pos ⟨by omega,h⟩,h];have :z= -2^63:=by omega
    rw[this];rfl
  rw[if_neg (fun hh=>h hh.2)];exact wrap_i64 (by omega) (by omega)
 have CZ:(wC (bJ 16 z.natAbs)).getD 1 aC=.int .u32 (bL z.natAbs 1:Nat):=by rw[vA (by rw[cU];decide),kK (by decide)]
 have vl:(wC (bJ 16 z.natAbs)).getD 0 aC=.int .u32 (bL z.natAbs 0:Nat):=by rw[vA (by rw[cU];decide),kK (by decide)]
 have hl:=iL (.bJ z.natAbs);have mC:∀z,(cI z).length=18:=fun z=>by simp[cI,dM,cU]
 have e1:(cI z).getD 1 aC=.bool (decide (z<0)):=rfl;have e2:(cI z).getD 2 aC=.int .u32 (bL z.natAbs 0:Nat):=vl;have e3:(cI z).getD 3 aC=.int .u32 (bL z.natAbs 1:Nat):=CZ;refine bQ ?_;refine Ty ?_;refine fD ?_;refine Ty ?_;refine bZ (gz _) ?_;simp only[Bc];refine Ty ?_;refine fD ?_;simp only[↓zP,seval,zI];refine bZ (lo _) ?_;simp only[↓zP,zJ,seval,oL (mC (-9223372036854775808))];refine fD ?_;simp only[↓zP,seval,zI];refine bZ (hi _) ?_;simp only[↓zP,zJ,seval,oL (mC 9223372036854775807)];refine fD ?_;refine Ty ?_;refine bZ (c1 _) ?_;simp only[↓zP,zJ,seval,d1];refine bZ (c2 _) ?_;simp only[↓zP,zG,seval,d2];refine fD ?_;simp only[↓zP,zJ,seval,sP,e2,e3,w1,w2,w3,w4,w5];refine bR ?_;by_cases hn:z<0
 . rw[Aj hn] at e1
   have w6:IntKind.i64.wrap (0 -(if z<0/\z.natAbs=2^63 then z else(z.natAbs:Int)))=z:=by
    by_cases h:z.natAbs=2^63
    . rw[if_pos ⟨hn,h⟩];have :z= -2^63:=(by omega);rw[this];rfl
    rw[if_neg (fun hh=>h hh.2),wrap_i64 (by omega) (by omega)];omega
   simp only[↓zP,zJ,seval,e1,w6];refine Rx ?_;rfl
 rw[Ag hn] at e1;simp only[↓zP,zJ,seval,e1];refine Rx ?_;rw[if_neg (fun hh=>hn hh.1),show(z.natAbs:Int)=z by omega];rfl
theorem YK {a b:Int} (ha:a.natAbs<2^62) (hb:b.natAbs<2^62) (H:aA):Sg 334 [.agg (cI a),.agg (cI b)] H (.ret (.agg (cI (Int.gcd a b)))) H:=by
 refine Sp bBi Zav ZaK ?_ H;unfold aQd;dsimp only;refine bQ ?_;refine Ty ?_;refine fD ?_;refine Ty ?_;refine bZ (rD ha _) ?_;refine Ty ?_;refine fD ?_;refine Ty ?_;refine bZ (rD hb _) ?_;refine Ty ?_;refine bR ?_;refine aJ fun K hK=>?_;refine Tz ?_;refine aL (iM [5,7] (fun m vs H'=>H'=(((⟨0,.nil⟩:aA).alloc (.cells (cI a) false)).alloc (.cells (cI b) false)).alloc (.cells (.bool false::.bool false::wC zs) false)/\∃x y:Int,vs=[.int .i64 x,.int .i64 y]/\x.natAbs<2^62/\y.natAbs<2^62/\m=y.natAbs/\Int.gcd x y=Int.gcd a b) b.natAbs (by rfl) ?_ ?_)
 . exact⟨rfl,a,b,by simp only[sm,zB,seval],ha,hb,rfl,rfl⟩
 rintro m f H hk ⟨rfl,x,y,hv,hx,hy,rfl,hg⟩;simp only[zM] at hv;obtain⟨h0,h1⟩:=hv;have f4:f 4=.ref 2 0:=hk 4 rfl;by_cases MQ:y=0
 . subst MQ;have ho:=vO (z:=x) (by omega) (by omega);have GC:=aGz (z:=x) (ug hx);have Qy:(x.natAbs:Int)=Int.gcd a b:=by rw[<-hg];simp[Int.gcd]
   rw[Qy] at GC;simp only[↓zP,zG,seval,h1,h0,show((0:Int) != 0)=false from rfl];refine bZ (ho _) ?_;refine bZ (GC _) ?_;simp only[↓zP,zJ,seval,f4];refine⟨rfl,_,by simp only[↓zP,zR,seval,f4];rfl,?_⟩;rfl
 have eC:(y != 0)=true:=by simpa using MQ
 have fF:(x.tmod y).natAbs<y.natAbs:=by rw[natAbs_tmod];exact Di _ (by omega)
 simp only[↓zP,zJ,seval,h1,eC];refine aL ?_;simp only[↓zP,zG,seval,h0,h1];rw[if_neg MQ];simp only[zG,seval];exact⟨_,fF,trivial,y,x.tmod y,by simp only[seval],hy,by omega,rfl,by rw[Ng,hg]⟩
theorem ma {n m:Int} (hm:0<m) (hd:m∣n) (hn:n.natAbs<2^62) (H:aA):Sg 372 [.int .i64 n,.int .i64 m] H (.ret (.int .i64 (n / m))) H:=by
 refine So bBu Zah ?_ H;unfold aQo;dsimp only;have e1:n.tdiv m=n / m:=Hv hd;have e2:n.tmod m=0:=Int.tmod_eq_zero_of_dvd hd
 have hw:IntKind.i64.wrap (n / m)=n / m:=by
  obtain⟨k,rfl⟩:=hd;rw[Int.mul_ediv_cancel_left _ (by omega)]
  have :k.natAbs<=(m*k).natAbs:=by rw[Ga];exact Jm _ (by omega)
  exact wrap_i64 (by omega) (by omega)
 have MO:¬m=0:=by omega
 simp only[↓zP,zJ,seval,e1,e2,hw,MO,show((0:Int) != 0)=false from rfl];refine Rx ?_;rfl
theorem YM {n m:Int} (hm:0<m) (hd:m∣n) (hn:n.natAbs<2^62) (WL:m.natAbs<2^62) (H:aA):Sg 336 [.agg (cI n),.agg (cI m)] H (.ret (.agg (cI (n / m)))) H:=by
 refine Sp bBk Zav ZaK ?_ H;unfold aQf;dsimp only;have hb:(m != 0)=true:=by rw[De];omega
 have hf:=ma hm hd hn
 have hq:(n / m).natAbs<2^62:=by
  obtain⟨k,rfl⟩:=hd;rw[Int.mul_ediv_cancel_left _ (by omega)]
  have :k.natAbs<=(m*k).natAbs:=by rw[Ga];exact Jm _ (by omega)
  omega
 have ho:=vO (z:=n / m) (by omega) (by omega);refine bQ ?_;refine Ty ?_;refine fD ?_;refine Ty ?_;refine bZ (rD hn _) ?_;refine Ty ?_;refine fD ?_;refine Ty ?_;refine bZ (rD WL _) ?_;refine Ty ?_;refine bR ?_;refine aJ fun K hK=>?_;simp only[↓zP,zG,seval,hb];refine bZ (hf _) ?_;refine bZ (ho _) ?_;refine Ty ?_;refine Rx ?_;rfl
end Go.Proofs.YtgggiembljfnhaaGreatDoor
namespace Go.Proofs.YtgggiembljfnhaaGreatDoor
open Go Go.Av Go.uG Go.aP
attribute [local congr] aT aI aM aH aW aQ aN aF aX
attribute [local irreducible] FC bS eG
theorem aAi {a b:Int} (ha:a.natAbs<=64) (hb:b.natAbs<=64) (H:aA):Sg 152 [.int .i64 a,.int .i64 b] H (.ret (.int .i64 (Int.gcd a b))) H:=by
 refine So aXb Zah ?_ H;unfold aLz;dsimp only;refine bQ ?_;refine Tz ?_;refine bR ?_;refine aJ fun K hK=>?_;refine aL (iM [0,1] (fun m vs H'=>H'=⟨0,.nil⟩/\∃x y:Int,vs=[.int .i64 x,.int .i64 y]/\x.natAbs<=64/\y.natAbs<=64/\m=y.natAbs/\Int.gcd x y=Int.gcd a b) b.natAbs (by rfl) ?_ ?_)
 . exact⟨rfl,a,b,by simp only[sm,zB,seval];rfl,ha,hb,rfl,rfl⟩
 rintro m f H hk ⟨rfl,x,y,hv,hx,hy,rfl,hg⟩;simp only[zM] at hv;obtain⟨h0,h1⟩:=hv;by_cases MQ:y=0
 . subst MQ;have Qy:(x.natAbs:Int)=Int.gcd a b:=by rw[<-hg];simp[Int.gcd]
   have wo:IntKind.i64.wrap (0 -x)= -x:=wI (by omega);have o7:(if -x>x then -x else x)=(Int.gcd a b:Int):=(by rw[<-Qy];split<;>omega);simp only[↓zP,zG,seval,h1,show((0:Int) != 0)=false from rfl];apply hK;clear hK K;simp only[↓zP,zG,seval,h0,wo,o7];refine Rx ?_;rfl
 have eC:(y != 0)=true:=by simpa using MQ
 have fF:(x.tmod y).natAbs<y.natAbs:=by rw[natAbs_tmod];exact Di _ (by omega)
 simp only[↓zP,zJ,seval,h1,eC];refine aL ?_;simp only[↓zP,zG,seval,h0,h1];rw[if_neg MQ];simp only[zG,seval];exact⟨_,fF,trivial,y,x.tmod y,by simp only[seval],hy,by omega,rfl,by rw[Ng,hg]⟩
def Yg (x:Int):Int:=if x<0 then -1 else if x=0 then 0 else 1
theorem aHh (x:Int) (H:aA):Sg 153 [.int .i64 x] H (.ret (.int .i64 (Yg x))) H:=by
 refine So aXc Zah ?_ H;unfold aMa;dsimp only;by_cases h:x<0
 . have d:=Aj h;simp only[↓zP,zJ,seval,d];refine Rx ?_;unfold Yg;rw[if_pos h];rfl
 have d:=Ag h;simp only[↓zP,zJ,seval,d];refine Rx ?_;unfold Yg;rw[if_neg h];simp only[nZ];congr 2;split<;>split<;>omega
theorem aAl {l:List Int} (h4:l.length=4) (H:aA):Sg 120 [.agg (iC l)] H (.ret (.bool (IF l))) H:=by
 refine So aWg (by simp only[sf,jF]) ?_ H;unfold aLe;dsimp only;have hlen:(iC l).length=4:=by rw[cC,h4]
 refine bQ ?_;refine Ty ?_;refine bR ?_;refine aJ fun K hK=>?_;refine Tz ?_;refine bP [] (fun i vs H'=>H'.get 0=some (.cells (iC l) false)/\∀x∈l.take i,-64<=x/\x<=64) 0 4 (Az _) (by omega) (by decide) ?_ ?_ ?_ ?_ ?_
 . exact zq
 . exact⟨by simp only[zI,seval],fun x hx=>by simp at hx⟩
 . rintro i f H1 h0 hi hk e1 _;simp only[↓zP,zG,seval,e1];exact Zaf
 . rintro i f H1 h0 hi hk e1 ⟨g0,bV⟩;have f1:f 1=.ref 0 0:=hk 1 rfl;have gO:i<l.length:=by omega
   have hm:=qV gO;have hd:=dV gO;have hle:i+1<=(iC l).length:=by rw[hlen];omega
   have fQ:(-64<=l.getD i 0/\l.getD i 0<=64)->∀x∈l.take (i+1),-64<=x/\x<=64:=fun h x hx=>by
    rw[Ao,Ap] at hx
    rcases hx with hx|hx
    . exact bV x hx
    simp[gO] at hx;subst hx;simpa [gO] using h
   have eW:¬(-64<=l.getD i 0/\l.getD i 0<=64)->IF l=false:=fun h=>by unfold IF;rw[Ej];exact⟨_,hm,by rw[Ag h];decide⟩
   generalize l.getD i 0=x at *;refine aL ?_;by_cases c1:x>64
   . have d1:=Aj c1;simp only[↓zP,zJ,seval,e1,f1,g0,aB,hi,hle,hd,d1];exact ZaE
   have d1:=Ag c1;by_cases c2:x< -64
   . have d2:=Aj c2;simp only[↓zP,zJ,seval,e1,f1,g0,aB,hi,hle,hd,d1,d2];exact ZaE
   have d2:=Ag c2;simp only[↓zP,zJ,seval,e1,f1,g0,aB,hi,hle,hd,d1,d2];exact⟨trivial,fQ ⟨by omega,by omega⟩⟩
 rintro f H1 hk ⟨g0,bV⟩;refine Tx ?_;apply hK;clear hK K;refine Tz ?_;refine Rx ?_
 have :IF l=true:=by unfold IF;rw[Ax];exact fun x hx=>Aj (bV x (by rw[As (by omega)];exact hx))
 rw[this];rfl
def KJ (l:List Int):Int:=match l.find? (fun x=>x != 0) with
 |some x=>Yg x
 |none=>0
theorem KK:∀(l:List Int) (o:Nat),l.foldl (fun o x=>Nat.gcd o x.natAbs) o=Nat.gcd o (iJ l)
 |[],o=>by simp[iJ]
 |x::l,o=>by have h1:=KK l (Nat.gcd o x.natAbs);have h2:=KK l (Nat.gcd 0 x.natAbs);simp only[iJ,Hl] at h1 h2 ⊢;rw[h1,h2,Gx,Nat.gcd_assoc]
theorem jf (x:Int) (l:List Int):iJ (x::l)=Nat.gcd x.natAbs (iJ l):=by have :=KK l (Nat.gcd 0 x.natAbs);rw[Gx] at this;show List.foldl _ (Nat.gcd 0 x.natAbs) l=_;rw[Gx];exact this
theorem jg {l:List Int} {i:Nat} (h:i<l.length):iJ (l.drop i)=Nat.gcd (l.getD i 0).natAbs (iJ (l.drop (i+1))):=by rw[Dk h,jf];simp[h]
theorem jd {l:List Int} {i:Nat} (h:i<l.length):KJ (l.drop i)=if l.getD i 0=0 then KJ (l.drop (i+1)) else Yg (l.getD i 0):=by
 rw[Dk h];have e:l.getD i 0=l[i]:=by simp[h]
 rw[e];unfold KJ;by_cases h0:l[i]=0
 . rw[if_pos h0,List.find?_cons_of_neg (by simp[h0])]
 rw[if_neg h0,Jo (by simpa using h0)]
theorem aTs {l:List Int} (h:iJ l≠0):KJ l*iJ l=DY l:=by
 unfold KJ DY
 cases hf:l.find? (fun x=>x != 0) with
 |some x=>have :=List.find?_some hf;simp only[De,ne_eq] at this;simp only[Yg];split<;>omega
 |none=>refine absurd (Qm fun x hx=>?_) h;have :=Hr.1 hf x hx;simpa using this
theorem ui (l:List Int):(KJ l).natAbs<=1:=by
 unfold KJ Yg;split
 . split
   . decide
   split<;>decide
 decide
theorem aAd {l:List Int} (h4:l.length=4) (hl:∀x∈l,x.natAbs<=64) (H:aA):
 Sg 121 [.agg (iC l)] H (.ret (.iA [.agg (iC ((rM l).getD [0,0,0,0])),.bool (rM l).isSome])) H:=by
 refine Sp aWh (by simp only[sf,jF]) (by simp only[AV.free,bO,jF];rfl) ?_ H;unfold aLf;dsimp only;have hlen:(iC l).length=4:=by rw[cC,h4]
 refine bQ ?_;refine Ty ?_;refine bR ?_;generalize hX:((aA.mk 0 .nil).alloc _).alloc _=HA;have g0:HA.get 0=some (.cells (iC l) false):=by subst hX;simp only[zI,seval]
 have g1:HA.get 1=some (.cells [.int .i64 0,.int .i64 0,.int .i64 0,.int .i64 0] false):=by subst hX;simp only[zI,seval]
 clear hX;refine bY fun f hf=>?_;have f1:f 1=.ref 0 0:=by subst hf;simp only[zB,seval]
 have f2:f 2=.ref 1 0:=by subst hf;simp only[zB,seval]
 clear hf;refine bQ ?_;refine Tz ?_;refine fD ?_;refine Tz ?_;refine bR ?_;refine aJ fun K hK=>?_;refine Tz ?_;refine Yz [4,5] (fun i vs H'=>H'=HA/\vs=[.int .i64 (iJ (l.drop i):Nat),.int .i64 (KJ (l.drop i))]) 4 (by omega) (by decide) ?_ ?_ ?_ ?_ ?_
 . exact zq
 . refine⟨rfl,?_⟩;rw[Cc (by omega)];simp only[sm,zB,seval];rfl
 . rintro i f H1 hi hk e1 _;simp only[↓zP,zG,seval,e1];exact Zaf
 . rintro i f3 H1 hi hk e1 ⟨rfl,hv⟩;simp only[zM] at hv;obtain⟨v4,v5⟩:=hv;have gO:i<l.length:=by omega
   have f31:f3 1=.ref 0 0:=(by rw[hk 1 rfl];simp only[zB,seval];exact f1);have hd:=dV gO;have hle:i+1<=(iC l).length:=(by rw[hlen];omega);have hx:=hl _ (qV gO);have sH:iJ (l.drop (i+1))<=64:=HK (fun x hx=>hl x (Dt hx)) (by decide);rw[jg gO,jd gO];generalize l.getD i 0=x at *;generalize iJ (l.drop (i+1))=g at *;generalize KJ (l.drop (i+1))=s at *;have hg:=aAi (a:=g) (b:=x) (by omega) hx;have hgg:Int.gcd (g:Int) x=Nat.gcd x.natAbs g:=(by rw[Int.gcd,Hx];rfl);rw[hgg] at hg;refine aL ?_;refine bQ ?_;simp only[↓zP,zJ,seval,e1,f31,v4,aB,hi,g0,hle,hd];refine bZ (hg _) ?_;refine Tz ?_;refine bR ?_;refine aJ fun K2 bW=>?_;by_cases c1:x=0
   . have d1:(x != 0)=false:=(by rw[c1];rfl);simp only[↓zP,zJ,seval,e1,f31,aB,hi,g0,hle,hd,d1];apply bW;clear bW K2;simp only[↓zP,zJ,seval,v5];rw[if_pos c1];exact⟨trivial,rfl⟩
   have d1:(x != 0)=true:=(by rw[De];exact c1);have hs:=aHh x;simp only[↓zP,zJ,seval,e1,f31,aB,hi,g0,hle,hd,d1];apply bW;clear bW K2;simp only[↓zP,zJ,seval,e1,f31,aB,hi,g0,hle,hd];refine bZ (hs _) ?_;refine Tz ?_;rw[if_neg c1];exact⟨trivial,rfl⟩
 rintro f3 H1 hk ⟨rfl,hv⟩;simp only[sm,Ip,Jy,El] at hv;obtain⟨v4,v5⟩:=hv;have f31:f3 1=.ref 0 0:=by rw[hk 1 rfl];simp only[zB,seval];exact f1
 have f32:f3 2=.ref 1 0:=by rw[hk 2 rfl];simp only[zB,seval];exact f2
 have bEp:iJ l<=64:=HK hl (by decide);have mM:=ui l;have hsg:=cg l;have wo:IntKind.i64.wrap (0 -(iJ l:Int))= -(iJ l:Int):=wI (by omega);have o7:(if -(iJ l:Int)>iJ l then -(iJ l:Int) else iJ l)=iJ l:=by split<;>omega
 have yZ:IntKind.i64.wrap (KJ l*(iJ l:Int))=KJ l*iJ l:=by
  have :(KJ l*(iJ l:Int)).natAbs<=1*64:=by rw[Ga];exact Bt mM (by omega)
  exact wrap_i64 (by omega) (by omega)
 refine Tx ?_;apply hK;clear hK K;refine bQ ?_;simp only[↓zP,zG,seval,v4,v5,wo,o7,yZ];refine bR ?_;by_cases hz:iJ l=0
 . have hd:((KJ l*(iJ l:Int))==0)=true:=by rw[hz];simp
   refine aJ fun K hK=>?_;simp only[↓zP,zJ,seval,hd,f32,g1];refine⟨rfl,_,by simp only[↓zP,zR,seval,f32];rfl,?_⟩;have :rM l=none:=(by unfold rM;rw[if_pos hz]);rw[this];rfl
 have hq:=aTs hz;rw[hq];have hs0:¬(DY l=0):=by omega
 have hd:(DY l==0)=false:=by rw[Bl];exact hs0
 refine bQ ?_;simp only[↓zP,zG,seval,hd];refine bR ?_;have hdq:rM l=some (l.map fun x=>x.tdiv (DY l)):=by unfold rM;rw[if_neg hz]
 rw[hdq]
 have hwx:∀x∈l,IntKind.i64.wrap (x.tdiv (DY l))=x.tdiv (DY l):=fun x hx=>by have :=Int.natAbs_tdiv_le_natAbs x (DY l);have :=hl x hx;exact wrap_i64 (by omega) (by omega)
 generalize DY l=s at *
 match l,h4 with
 |[a,b,c,d],_=>
 have wa:=hwx a (by simp);have wb:=hwx b (by simp);have wc:=hwx c (by simp);have wd:=hwx d (by simp);have hic:iC [a,b,c,d]=[.int .i64 a,.int .i64 b,.int .i64 c,.int .i64 d]:=rfl;rw[hic] at g0;refine bQ ?_;refine Dz ?_;simp only[↓zP,zJ,seval,zD,f31,f32,g0,g1,hs0,sP,wa,wb,wc,wd];refine bR ?_;simp only[↓zP,seval,zI];refine⟨rfl,_,by simp only[↓zP,zR,seval,f32];rfl,?_⟩;rfl
theorem Yc {l:List Int} (h4:l.length=4) (H:aA):Sg 100 [.agg (iC l)] H (.ret (.bool (qJ l))) H:=by
 refine So aVu (by simp only[sf,jF]) ?_ H;unfold aKt;dsimp only;have hlen:(iC l).length=4:=by rw[cC,h4]
 have lo:=aAl h4;refine bQ ?_;refine Ty ?_;refine bR ?_;refine aJ fun K hK=>?_;simp only[↓zP,zJ,seval,oL hlen];refine bZ (lo _) ?_
 cases hb:IF l with
 |false=>refine Ty ?_;refine Rx ?_;unfold qJ;rw[hb];rfl
 |true=>
  refine Ty ?_;apply hK;clear hK K;have hq:=aAd h4 (ah hb)
  have Ls:(iC ((rM l).getD [0,0,0,0])).length=4:=by
   rw[cC];unfold rM;split
   . rfl
   simp[h4]
  refine bQ ?_;simp only[↓zP,zJ,seval,oL hlen];refine bZ (hq _) ?_;simp only[↓zP,zJ,seval,oL Ls];refine bR ?_;have XV:cK [.i,.i,.i,.i] (iC ((rM l).getD [0,0,0,0])) (iC l)=some (decide ((rM l).getD [0,0,0,0]=l)):=qL (n:=4) (by rw[<-cC,Ls]) h4;have hv:qJ l=(rM l==some l):=by unfold qJ;rw[hb];rfl
  rw[hv]
  cases hdq:rM l with
  |none=>rw[hdq] at Ls;simp only[↓zP,zG,seval,Ci];refine Rx ?_;rfl
  |some d=>rw[hdq] at Ls XV;simp only[↓zP,zJ,seval,Bc,Bi];simp only[Bi] at XV Ls;simp only[zJ,seval,oL Ls,oL hlen,XV];refine Rx ?_;simp only[nZ];congr 2;rw[Cg];simp
theorem Km {p:List Int} (h7:p.length=7) (H:aA):Sg 62 [.agg (iC p)] H (.ret (.int .i64 (gW p))) H:=by
 refine So bHi (by simp only[sf,jF]) ?_ H;unfold W62;dsimp only;have hlen:(iC p).length=7:=by rw[cC,h7]
 have h34:(p.drop 3).length=4:=by simp;omega
 have hv:=Yc h34;refine bQ ?_;refine Ty ?_;refine bR ?_;refine aJ fun K hK=>?_;refine Tz ?_;refine bP [] (fun i vs H'=>H'.get 0=some (.cells (iC p) false)/\∀x∈(p.take 3).take i,x<140737488355328/\x> -140737488355328) 0 3 (Az _) (by omega) (by decide) ?_ ?_ ?_ ?_ ?_
 . exact zq
 . exact⟨by simp only[zI,seval],fun x hx=>by simp at hx⟩
 . rintro i f H1 h0 hi hk e1 _;simp only[↓zP,zG,seval,e1];exact Zaf
 . rintro i f H1 h0 hi hk e1 ⟨g0,bV⟩;have f1:f 1=.ref 0 0:=hk 1 rfl;have gO:i<p.length:=by omega
   have FB:i<(p.take 3).length:=Zai;have he:(p.take 3).getD i 0=p.getD i 0:=(by simp[hi]);have hm:=qV FB;have hd:=dV gO;have hle:i+1<=(iC p).length:=(by omega);rw[he] at hm
   have fQ:(fun x:Int=>x<140737488355328/\x> -140737488355328) (p.getD i 0)->∀x∈(p.take 3).take (i+1),x<140737488355328/\x> -140737488355328:=fun h x hx=>by
    rw[Ao,Ap] at hx
    rcases hx with hx|hx
    . exact bV x hx
    rw[Ad FB] at hx;simp only[Fu,Cb] at hx;rw[<-he,Bf,Ad FB] at h;subst hx;exact h
   have eW:¬(p.getD i 0<140737488355328/\p.getD i 0> -140737488355328)->gW p=1:=fun h=>by unfold gW;rw[if_neg];intro hh;rw[Al] at hh;exact h (Cp (Ax.1 hh.1 _ hm))
   clear he hm;generalize p.getD i 0=x at *;refine aL ?_;by_cases c1:x≥140737488355328
   . have d1:=Aj c1;simp only[↓zP,zJ,seval,e1,f1,g0,aB,hi,hle,hd,d1];exact ZaE
   have d1:=Ag c1;by_cases c2:x<=-140737488355328
   . have d2:=Aj c2;simp only[↓zP,zJ,seval,e1,f1,g0,aB,hi,hle,hd,d1,d2];exact ZaE
   have d2:=Ag c2;simp only[↓zP,zJ,seval,e1,f1,g0,aB,hi,hle,hd,d1,d2];exact⟨trivial,fQ ⟨by omega,by omega⟩⟩
 rintro f H1 hk ⟨g0,bV⟩;rw[As Zai] at bV;have f1:f 1=.ref 0 0:=hk 1 rfl
 have hp:gW p=if qJ (p.drop 3) then 0 else 1:=by unfold gW;rw[Ax.2 fun x hx=>Aj (bV x hx)];rfl
 refine Tx ?_;apply hK;clear hK K;have h47:3+4<=(iC p).length:=by omega
 have rQ:((iC p).drop 3).take 4=iC (p.drop 3):=by rw[tS,uS,As (by omega)]
 refine bQ ?_;simp only[↓zP,zJ,seval,f1,g0,h47,rQ];refine bZ (hv _) ?_;refine Tz ?_;refine bR ?_
 cases hb:qJ (p.drop 3) with
 |true=>rw[hb] at hp;refine Ty ?_;refine Rx ?_;rw[hp];rfl
 |false=>rw[hb] at hp;refine Ty ?_;refine Rx ?_;rw[hp];rfl
end Go.Proofs.YtgggiembljfnhaaGreatDoor
namespace Go.Proofs.YtgggiembljfnhaaGreatDoor
open Go Go.Av Go.aP
attribute [local congr] aT aI aM aH aW aQ aN aF aX
attribute [local irreducible] FC bS eG
def cJ (l:List aP.V):List (List AV):=l.map cT
theorem aU (l:List aP.V):(cJ l).length=l.length:=by simp[cJ]
theorem dC {l:List aP.V} {i:Nat} (h:i<l.length):(cJ l).getD i []=cT l[i]:=gJ h
theorem dK {tag:Nat} (ht:Nat.blt tag 2=true) (l:List aP.V):(AV.bB tag 3 (cJ l)).free=true:=by simp only[AV.free,ht,Co];exact eJ cS l
def DB (l:List aP.V) (q:aP.V×Int):Bool:=l.all (fun v=>decide (aP.dot q.1 v<=q.2))&& !l.all (fun v=>aP.dot q.1 v==q.2)
theorem YB {tag:Nat} (ht:Nat.blt tag 2=true) {l:List aP.V} {M B:Nat} (hl:∀v∈l,cH M v) (hlen:l.length<2^30) {q:aP.V×Int} (hq:cH B q.1) (hs:3*(B*M)<2^62) (H:aA):
 Sg 207 [.bB tag 3 (cJ l),.agg (lA q)] H (.ret (.bool (DB l q))) H:=by
 refine So aYi (by simp only[sf,dK ht,BC]) ?_ H;unfold aNg;dsimp only;have p3:(lA q).length=4:=rfl;have p1:(lA q).take 3=cT q.1:=rfl;have p2:(lA q).getD 3 aC=.int .i64 q.2:=rfl;refine bQ ?_;refine Ty ?_;refine fD ?_;refine Tz ?_;refine bR ?_;refine aJ fun K hK=>?_;refine bQ ?_;refine Ty ?_;refine bR ?_;refine dD [5] (fun i vs H=>vs=[.bool ((l.take i).all (fun v=>aP.dot q.1 v==q.2))]/\(∀v∈l.take i,aP.dot q.1 v<=q.2)/\1<=H.next/\H.get 0=some (.cells (lA q) false)) l.length (by omega) (by decide) ?_ ?_ ?_ ?_ ?_
 . exact zq
 . simp only[zB,seval,aU]
 . refine⟨by simp only[sm,zB,seval];rfl,fun v hv=>by simp at hv,by simp only[zI,seval],by simp only[seval,zI]⟩
 . rintro i f H hi hk e1 ⟨hv,hle,hn,g0⟩;simp only[zM] at hv
   have hx:∀v,v∈l.take (i+1)->v∈l.take i\/v=l[i]:=fun v hv=>by
    exact Zar
   have bV:(l.take (i+1)).all (fun v=>aP.dot q.1 v==q.2)=((l.take i).all (fun v=>aP.dot q.1 v==q.2)&&(aP.dot q.1 l[i]==q.2)):=by rw[Ao,List.all_append];simp[hi]
   generalize hb:(l.take i).all (fun v=>aP.dot q.1 v==q.2)=b at *;have FH:=Ac hi;have hg:=dC hi;generalize oz:l[i]=x at *;have cP:¬(0=H.next):=(by omega);refine aL ?_;simp only[↓zP,zJ,seval,e1,hk 9 rfl,hk 3 rfl,aB,aU,hi,hg,oL (aV x),cP,g0,p3,p1];refine bZ (HP hq (hl x FH) hs _) ?_;simp only[↓zP,zJ,seval,hk 3 rfl,cP,g0,p3,p2,hv];refine⟨fun h=>?_,fun h=>?_⟩
   . refine Rx ?_
     have :DB l q=false:=by simp only[DB,Jw];refine .inl ?_;rw[<-Eh,Ax];intro ha;have :=Cp (ha x FH);omega
     rw[this];rfl
   have Xa:∀v∈l.take (i+1),aP.dot q.1 v<=q.2:=fun v hv=>by
    rcases hx v hv with h1|rfl
    . exact hle v h1
    omega
   cases b
   . refine Tz ?_;exact⟨by rw[bV];rfl,Xa,trivial⟩
   refine Tx ?_;exact⟨by rw[bV];rfl,Xa,trivial⟩
 rintro f H hk ⟨hv,hle,hn,g0⟩;simp only[zM] at hv;rw[Ay] at hv hle;refine Tx ?_;apply hK;simp only[↓zP,zG,seval,hv];refine Rx ?_;have :l.all (fun v=>decide (aP.dot q.1 v<=q.2))=true:=Ax.2 fun v hv=>Aj (hle v hv);simp only[DB,this,Co];rfl
def VQ (p q:aP.V×Int):Int:=orZ [zY p.1.x q.1.x,zY p.1.y q.1.y,zY p.1.z q.1.z]
theorem VS (p q:aP.V×Int) (H:aA):Sg 209 [.agg (lA p),.agg (lA q)] H (.ret (.int .i64 (VQ p q))) H:=by
 refine So aYj (by simp only[sf,BC]) ?_ H;unfold aNh;dsimp only;refine bQ ?_;refine Ty ?_;refine fD ?_;refine Dz ?_;simp only[↓zP,zJ,seval,zD,lA,sP];refine fH (lJ p.1.x q.1.x _) ?_;simp only[↓zP,zJ,seval,zD,sP];refine fH (lJ p.1.y q.1.y _) ?_;simp only[↓zP,zJ,seval,zD,sP];refine fH (lJ p.1.z q.1.z _) ?_;simp only[↓zP,zJ,seval,zD];have xc:=aIb [zY p.1.x q.1.x,zY p.1.y q.1.y,zY p.1.z q.1.z] (by simp);simp only[iR,sm] at xc;refine fH (xc _) ?_;simp only[↓zP,zJ,seval,zD];refine bR ?_;refine Tx ?_
 (refine Rx ?_;rfl)
end Go.Proofs.YtgggiembljfnhaaGreatDoor
namespace Go.Proofs.YtgggiembljfnhaaGreatDoor
open Go Go.Av
attribute [local congr] aT aI aM aH aW aQ aN aF aX
attribute [local irreducible] FC bS eG
def zA (m:Int) (w:List Int):Bool:=w.all fun x=>decide (x<=m/\-m<=x)
def tZ (n:Int):Int:=if n=0 then 1099511627776 else 4096
theorem RW {n:Int} (h0:0<=n) (H:aA):Sg 43 [.int .i64 n] H (.ret (.int .i64 (tZ n))) H:=by
 refine So bHa Zah ?_ H;unfold W43;dsimp only;by_cases h:n=0
 . have d:=Ag (show ¬n>0 by omega);simp only[↓zP,zJ,seval,d];refine Rx ?_;unfold tZ;rw[if_pos h];rfl
 have d:=Aj (show n>0 by omega);simp only[↓zP,zJ,seval,d];refine Rx ?_;unfold tZ;rw[if_neg h];rfl
theorem Uv {m:Int} {w:List Int} {i:Nat} (hi:i<w.length) (bV:∀x∈w.take i,x<=m/\-m<=x) (h:w.getD i 0<=m/\-m<=w.getD i 0):∀x∈w.take (i+1),x<=m/\-m<=x:=fun x hx=>by
 rw[Ao,Ap] at hx
 rcases hx with hx|hx
 . exact bV x hx
 simp[hi] at hx;subst hx;simpa [hi] using h
theorem xq {m:Int} {w:List Int} {i:Nat} (hi:i<w.length) (h:¬(w.getD i 0<=m/\-m<=w.getD i 0)):zA m w=false:=by unfold zA;rw[Ej];exact⟨_,qV hi,by rw[Ag h];decide⟩
theorem Zu {m:Int} {w:List Int} (h:∀x∈w,x<=m/\-m<=x):zA m w=true:=by unfold zA;rw[Ax];exact fun x hx=>Aj (h x hx)
theorem lX {m:Int} (hm:m.natAbs<2^62) {w:List Int} (h3:w.length=3) (H:aA):Sg 42 [.int .i64 m,.agg (iC w)] H (.ret (.bool (zA m w))) H:=by
 refine So bGz (by simp only[sf,jF]) ?_ H;unfold W42;dsimp only;have hlen:(iC w).length=3:=by rw[cC,h3]
 have wo:IntKind.i64.wrap (0 -m)= -m:=wI (by omega);refine bQ ?_;refine Ty ?_;refine bR ?_;refine aJ fun K hK=>?_;refine Tz ?_;refine bP [] (fun i vs H'=>H'.get 0=some (.cells (iC w) false)/\∀x∈w.take i,x<=m/\-m<=x) 0 3 (Az _) (by omega) (by decide) ?_ ?_ ?_ ?_ ?_
 . exact zq
 . exact⟨by simp only[zI,seval],fun x hx=>by simp at hx⟩
 . rintro i f H1 h0 hi hk e1 _;simp only[↓zP,zG,seval,e1];exact Zaf
 . rintro i f H1 h0 hi hk e1 ⟨g0,bV⟩;have f3:f 3=.ref 0 0:=hk 3 rfl;have f0:f 0=.int .i64 m:=hk 0 rfl;have gO:i<w.length:=by omega
   have hd:=dV gO;have hle:i+1<=(iC w).length:=(by rw[hlen];omega);have fQ:=Uv gO bV;have eW:=xq (m:=m) gO;generalize w.getD i 0=x at *;refine aL ?_;by_cases c1:x>m
   . have d1:=Aj c1;simp only[↓zP,zJ,seval,e1,f0,f3,g0,aB,hi,hle,hd,d1];exact ZaE
   have d1:=Ag c1;by_cases c2:x< -m
   . have d2:=Aj c2;simp only[↓zP,zJ,seval,e1,f0,f3,g0,aB,hi,hle,hd,wo,d1,d2];exact ZaE
   have d2:=Ag c2;simp only[↓zP,zJ,seval,e1,f0,f3,g0,aB,hi,hle,hd,wo,d1,d2];exact⟨trivial,fQ ⟨by omega,by omega⟩⟩
 rintro f H1 hk ⟨g0,bV⟩;refine Tx ?_;apply hK;clear hK K;refine Tz ?_;refine Rx ?_;rw[Zu fun x hx=>bV x (by rw[As (by omega)];exact hx)];rfl
def aUa (H:aA) (v:AV) (L:List (List Int)):Prop:=(v=.aR/\L=[])\/(∃tag,v=.bB tag 3 (L.map iC))\/∃id off o cs,v=.sl id 3 off L.length L.length/\id<H.next/\H.get id=some (.cells cs o)/\∀i (h:i<L.length),off+i*3+3<=cs.length/\(cs.drop (off+i*3)).take 3=iC L[i]
theorem oh {m:Int} (hm:m.natAbs<2^62) {v:AV} {L:List (List Int)} (h3:∀w∈L,w.length=3) (hL:L.length<2^63) {H:aA} (hv:aUa H v L):
 FC Tryz.prog gv W40.1.ntmps W40.1.body (fK [.int .i64 m,v]) [] H (Lz W40.1.results fun o H'=>o=.ret (.bool (L.all (zA m)))/\Over H H'):=by
 have wo:IntKind.i64.wrap (0 -m)= -m:=wI (by omega)
 have hln:∀H,dA (fun _=>v) H (.OD (.tmp 0))=some (.int .i64 L.length,H):=fun H=>by rcases hv with ⟨rfl,rfl⟩|⟨tag,rfl⟩|⟨id,off,o,cs,rfl,_⟩<;>simp[dA]
 simp only[dA] at hln;unfold W40;dsimp only;refine bQ ?_;refine Tz ?_;refine bR ?_;refine aJ fun K hK=>?_;refine bQ ?_;simp only[↓zP,zJ,seval,hln];refine bR ?_;refine dD [] (fun i _ H'=>Over H H'/\∀w∈L.take i,zA m w=true) L.length (by omega) (by decide) ?_ ?_ ?_ ?_ ?_
 . exact zq
 . exact zq
 . exact⟨.refl H,fun w hw=>by simp at hw⟩
 . rintro i f H1 hi hk e1 ⟨hO,bV⟩;have f9:f 9=v:=hk 9 rfl;have f0:f 0=.int .i64 m:=hk 0 rfl
   have fQ:zA m L[i]=true->∀w∈L.take (i+1),zA m w=true:=fun h w hw=>by
    rw[Ao,Ap] at hw
    rcases hw with hw|hw
    . exact bV w hw
    simp[hi] at hw;subst hw;exact h
   have eW:zA m L[i]=false->L.all (zA m)=false:=fun h=>by rw[Ej];exact⟨_,Ac hi,by rw[h];decide⟩
   have MP:=h3 _ (Ac hi);have ZZ:(iC L[i]).length=3:=(by rw[cC,MP]);generalize hw:L[i]=w at *;refine aL ?_;refine aJ fun K2 bW=>?_
   have key:∀f':dE,f' 6=.ref H1.next 0->f' 0=.int .i64 m->K2 f' [] ((H1.alloc (.cells [.int .i64 0,.int .i64 0,.int .i64 0] false)).set H1.next (.cells (iC w) false)):=by
    intro f' f6 f0;apply bW;clear bW K2;have hO2:Over H ((H1.alloc (.cells [.int .i64 0,.int .i64 0,.int .i64 0] false)).set H1.next (.cells (iC w) false)):=(hO.alloc _).set hO.le _;have g6:((H1.alloc (.cells [.int .i64 0,.int .i64 0,.int .i64 0] false)).set H1.next (.cells (iC w) false)).get H1.next=some (.cells (iC w) false):=(by rw[aA.aD,if_pos rfl]);generalize ((H1.alloc _).set H1.next _)=H2 at *;generalize H1.next=r6 at *;refine bQ ?_;simp only[↓zP,zJ,seval,f6,g6,oL ZZ];refine bR ?_;refine jI [] (fun j _ H'=>H'=H2/\∀x∈w.take j,x<=m/\-m<=x) 3 (by omega) rfl (by decide) ?_ ?_ ?_ ?_
    . exact zq
    . exact⟨rfl,fun x hx=>by simp at hx⟩
    . rintro j f2 H3 hj eO e2 ⟨rfl,qX⟩;have u15:f2 15=.agg (iC w):=eO 15 rfl;have u0:f2 0=.int .i64 m:=(by rw[eO 0 rfl];simp only[zB,seval];exact f0);have FE:j<w.length:=(by omega);have hd:=dV FE;have hle:j+1<=(iC w).length:=(by rw[ZZ];omega);have j6:=Uv FE qX;have Xd:=xq (m:=m) FE;generalize w.getD j 0=x at *;refine aL ?_;refine bQ ?_;simp only[↓zP,zJ,seval,e2,u15,aB,hj,hle,hd];refine bR ?_;refine aJ fun K2 bW=>?_;by_cases c1:x>m
      . have d1:=Aj c1;simp only[↓zP,zG,seval,u0,d1];apply bW;clear bW K2;refine Tz ?_;refine Rx ?_;rw[eW (Xd (by omega))];exact⟨rfl,hO2⟩
      have d1:=Ag c1;by_cases c2:x< -m
      . have d2:=Aj c2;simp only[↓zP,zG,seval,u0,wo,d1,d2];apply bW;clear bW K2;refine Tz ?_;refine Rx ?_;rw[eW (Xd (by omega))];exact⟨rfl,hO2⟩
      have d2:=Ag c2;simp only[↓zP,zG,seval,u0,wo,d1,d2];apply bW;clear bW K2;refine Tz ?_;exact⟨trivial,j6 ⟨by omega,by omega⟩⟩
    rintro f2 H3 eO ⟨rfl,qX⟩;refine Tx ?_;exact⟨hO2,fQ (Zu fun x hx=>qX x (by rw[As (by omega)];exact hx))⟩
   have e11:f 11=.int .i64 i:=e1
   rcases hv with ⟨_,h0⟩|⟨tag,rfl⟩|⟨id,off,o,cs,rfl,dB,hg,MI⟩
   . rw[h0] at hi;exact absurd hi (An _)
   . have sH:(L.map iC).getD i []=iC w:=(by rw[<-hw];simp[hi]);have yZ:(L.map iC).length=L.length:=Af _;simp only[↓zP,zJ,seval,e11,f9,aB,yZ,hi,sH,oL ZZ];exact key _ zq (by simp only[zB,seval];exact f0)
   obtain⟨h1,h2⟩:=MI i hi;rw[hw] at h2;have CZ:=(hO.same id dB).trans hg;simp only[↓zP,zJ,seval,e11,f9,aB,hi,CZ,h1,h2,oL ZZ];exact key _ zq (by simp only[zB,seval];exact f0)
 rintro f H1 hk ⟨hO,bV⟩;rw[Ay] at bV;refine Tx ?_;apply hK;clear hK K;refine Tz ?_;refine Rx ?_;rw[Ax.2 bV];exact⟨rfl,hO⟩
theorem aBx {m:Int} (hm:m.natAbs<2^62) {v:AV} {L:List (List Int)} (h3:∀w∈L,w.length=3) (hL:L.length<2^63) (hv:(v=.aR/\L=[])\/∃tag,Nat.blt tag 2=true/\v=.bB tag 3 (L.map iC)) (H:aA):
 Sg 40 [.int .i64 m,v] H (.ret (.bool (L.all (zA m)))) H:=by
 refine Sp bBx ?_ Zah (jM (fun e f ds H h=>RU (fun o H h=>h.1) h) (oh hm h3 hL (hv.imp id fun h=>.inl (h.imp fun _ h=>h.2)))) H
 rcases hv with ⟨rfl,_⟩|⟨tag,ht,rfl⟩
 . rfl
 have :dR (L.map iC)=true:=by
  induction L with
  |nil=>rfl
  |cons x L ih=>simp only[Cd,dR,jF,Co];exact ih (fun w hw=>h3 w (Aw _ hw)) (by simp at hL;omega)
 simp only[bO,AV.free,ht,this,Cv]
end Go.Proofs.YtgggiembljfnhaaGreatDoor
