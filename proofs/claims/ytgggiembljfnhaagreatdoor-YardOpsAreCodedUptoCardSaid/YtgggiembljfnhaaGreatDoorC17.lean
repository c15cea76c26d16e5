/-
  Part of the proof of statement 14
-/
import Derived.Test.YtgggiembljfnhaaGreatDoorC16
import Derived.Test.YtgggiembljfnhaaGreatDoorC06
import Derived.Test.YtgggiembljfnhaaGreatDoorC15
import Derived.Test.YtgggiembljfnhaaGreatDoorC07
set_option linter.unusedVariables false
set_option linter.unusedSimpArgs false
set_option maxRecDepth 100000
set_option maxHeartbeats 16000000
namespace Go.Proofs.YtgggiembljfnhaaGreatDoor
open Go Go.Av Go.aY
attribute [local congr] aP aJ aK aH aU aM aL aD
attribute [local irreducible] FC bM dX
theorem kG {x:Int} {B:Nat} (h:x.natAbs<=B) (hB:B<2^63):IntKind.i64.wrap x=x:=wrap_i64 (by omega) (by omega)
theorem fI.c {A:Nat} {v:aY.V} (h:fI A v) (i:Nat):(v.at i).natAbs<=A:=by
 unfold V.at;split
 . exact h.1
 . exact h.2.1
 exact h.2.2
theorem BQ {a b:aY.V} {A B:Nat} (ha:fI A a) (hb:fI B b) (hs:3*(A*B)<2^62) (H:aA):Sound Tryz.prog gv 210 [.agg (iB a),.agg (iB b)] H (.ret (.int .i64 (aY.dot a b))) H:=by
 have h1:=dD ha.1 hb.1;have h2:=dD ha.2.1 hb.2.1;have h3:=dD ha.2.2 hb.2.2;have w1:=kG h1 (by omega);have w2:=kG h2 (by omega);have w3:=kG h3 (by omega);have w4:IntKind.i64.wrap (a.x*b.x+a.y*b.y)=a.x*b.x+a.y*b.y:=kG (B:=2*(A*B)) (by omega) (by omega);have w5:IntKind.i64.wrap (a.x*b.x+a.y*b.y+a.z*b.z)=a.x*b.x+a.y*b.y+a.z*b.z:=kG (B:=3*(A*B)) (by omega) (by omega);refine So aGl (by simp only[sf,gZ]) ?_ H;unfold xj;dsimp only;simp only[↓zP,zG,seval,zI,iB,TT,w1,w2,w3,w4,w5]
 (refine Rx ?_;rfl)
theorem Xu {x y:Int} {M:Nat} (hx:x.natAbs<=M) (hy:y.natAbs<=M) (hM:M<2^61):IntKind.i64.wrap (x -y)=x -y:=kG (B:=2*M) (by omega) (by omega)
theorem MN {a b:aY.V} {A B:Nat} (ha:fI A a) (hb:fI B b) (hs:A*B<2^61) (H:aA):Sound Tryz.prog gv 274 [.agg (iB a),.agg (iB b)] H (.ret (.agg (iB (aY.aV a b)))) H:=by
 obtain⟨a1,a2,a3⟩:=ha;obtain⟨b1,b2,b3⟩:=hb;have w1:=kG (dD a2 b3) (by omega);have w2:=kG (dD a3 b2) (by omega);have w3:=kG (dD a3 b1) (by omega);have w4:=kG (dD a1 b3) (by omega);have w5:=kG (dD a1 b2) (by omega);have w6:=kG (dD a2 b1) (by omega);have w7:=Xu (dD a2 b3) (dD a3 b2) hs;have w8:=Xu (dD a3 b1) (dD a1 b3) hs;have w9:=Xu (dD a1 b2) (dD a2 b1) hs;refine So aHr (by simp only[sf,gZ]) ?_ H;unfold yy;dsimp only;simp only[zG,seval,zI,iB,TT,w1,w2,w3,w4,w5,w6,w7,w8,w9]
 (refine Rx ?_;rfl)
theorem UZ {a:aY.V} {A:Nat} (ha:fI A a) (hs:A<2^62) (H:aA):Sound Tryz.prog gv 179 [.agg (iB a)] H (.ret (.agg (iB (aY.neg a)))) H:=by
 obtain⟨a1,a2,a3⟩:=ha;have w1:IntKind.i64.wrap (0 -a.x)= -a.x:=(kG (B:=A) (by omega) (by omega)).trans (by omega);have w2:IntKind.i64.wrap (0 -a.y)= -a.y:=(kG (B:=A) (by omega) (by omega)).trans (by omega);have w3:IntKind.i64.wrap (0 -a.z)= -a.z:=(kG (B:=A) (by omega) (by omega)).trans (by omega);refine So ry (by simp only[sf,gZ]) ?_ H;unfold ct;dsimp only;simp only[↓zP,zG,seval,zI,iB,TT,w1,w2,w3]
 (refine Rx ?_;rfl)
theorem mj {a b:aY.V} {A B:Nat} (ha:fI A a) (hb:fI B b) (hs:A+B<2^62) (H:aA):Sound Tryz.prog gv 278 [.agg (iB a),.agg (iB b)] H (.ret (.agg (iB (aY.add a b)))) H:=by
 refine So aHu (by simp only[sf,gZ]) ?_ H;unfold y8;dsimp only;simp only[↓zP,zG,seval,zI,iB];refine lE [] (fun i _ H'=>H'.get 0=some (.cells ([0,1,2].map fun j=>if j<i then .int .i64 (a.at j+b.at j) else .int .i64 (a.at j)) false)/\H'.get 1=some (.cells (iB b) false)/\H'.get 2=some (.cells [.int .i64 0,.int .i64 0,.int .i64 0] false)) 3 (by decide) rfl (by decide) ?_ ?_ ?_ ?_
 . simp only[zB,seval]
 . simp only[seval,zI,Bh];exact⟨rfl,rfl,trivial⟩
 . rintro i f H hi hk e1 ⟨g0,g1,g2⟩;have hl:([0,1,2].map fun j=>if j<i then AV.int .i64 (a.at j+b.at j) else .int .i64 (a.at j)).length=3:=by simp
   have hg:([0,1,2].map fun j=>if j<i then AV.int .i64 (a.at j+b.at j) else .int .i64 (a.at j)).getD i aC=.int .i64 (a.at i):=by
    match i,hi with
    |0,_=>rfl
    |1,_=>rfl
    |2,_=>rfl
   have w:IntKind.i64.wrap (a.at i+b.at i)=a.at i+b.at i:=by have h1:=fI.c ha i;have h2:=fI.c hb i;exact kG (B:=A+B) (by omega) (by omega)
   refine aS ?_;refine aB fun K hK=>?_;simp only[↓zP,zG,seval,e1];apply hK;clear hK K;refine bK (by decide) ?_;generalize hc:([0,1,2].map fun j=>if j<i then AV.int .i64 (a.at j+b.at j) else .int .i64 (a.at j))=cs at *;simp only[↓zP,zG,seval,zD,reduceCtorEq,zI,hk 2 rfl,hk 3 rfl,aQ,hi,g0,g1,hl,hg,bR,tT b hi,w,show i+1<=3 by omega];subst hc;refine⟨?_,g2⟩
   match i,hi with
   |0,_=>rfl
   |1,_=>rfl
   |2,_=>rfl
 rintro f H hk ⟨g0,g1,g2⟩;simp only[↓zP,zG,seval,zI,hk 2 rfl,hk 4 rfl,g0,g2];exact⟨rfl,_,by simp only[↓zP,zR,seval,hk 4 rfl];rfl,rfl⟩
theorem Oq (a b:aY.V):aY.add a (aY.neg b)=aY.sub a b:=by simp only[aY.add,aY.neg,aY.sub,Int.sub_eq_add_neg]
theorem IC {a b:aY.V} {A B:Nat} (ha:fI A a) (hb:fI B b) (hs:A+B<2^62) (H:aA):Sound Tryz.prog gv 212 [.agg (iB a),.agg (iB b)] H (.ret (.agg (iB (aY.sub a b)))) H:=by refine Sp aGn (by simp only[sf,gZ]) (by simp only[sf,gZ]) ?_ H;unfold xl;dsimp only;simp only[↓zP,zG,seval,zI];refine bK (by decide) ?_;simp only[↓zP,zG,seval,zD,reduceCtorEq,zI,oL (bR a),oL (bR b)];refine rM (UZ hb (by omega) _) ?_;simp only[seval];refine rM (mj ha (KL hb) hs _) ?_;rw[Oq];simp only[↓zP,zG,seval,zD,reduceCtorEq,zI,oL (bR (aY.sub a b))];exact⟨rfl,_,by simp only[↓zP,zR,seval,oL (bR (aY.sub a b))];rfl,rfl⟩
theorem Pq (a:Int) (H:aA):Sound Tryz.prog gv 273 [.int .i64 a] H (.ret (.bool false)) H:=by
 refine So aHq (by simp only[sf]) ?_ H;unfold yw;dsimp only;simp only[↓zP,zG,seval,zI,Eg]
 (refine Rx ?_;rfl)
def vF (a b:Int):Int:=if a<b then -1 else if b<a then 1 else 0
theorem jH (a b:Int) (H:aA):Sound Tryz.prog gv 204 [.int .i64 a,.int .i64 b] H (.ret (.int .i64 (vF a b))) H:=by
 refine So aGh (by simp only[sf]) ?_ H;unfold xf;dsimp only;simp only[↓zP,zG,seval,zI];refine cT (Pq a _) ?_;simp only[↓zP,zG,seval,zI];refine cT (Pq b _) ?_;simp only[↓zP,zG,seval,zI];refine⟨fun h=>?_,fun h=>⟨fun h2=>?_,fun h2=>?_⟩⟩<;>refine Rx ?_<;>unfold vF
 . rw[if_pos (by omega)];rfl
 . rw[if_neg (by omega),if_pos (by omega)];rfl
 rw[if_neg (by omega),if_neg (by omega)];rfl
def orZ (l:List Int):Int:=(l.find? (· ≠0)).getD 0
theorem nn (l:List Int) (hl:l.length<2^30) (H:aA):Sound Tryz.prog gv 203 [.bH 1 1 (bU l)] H (.ret (.int .i64 (orZ l))) H:=by
 refine So aGg (by simp only[sf,pM]) ?_ H;unfold xe;dsimp only;refine aB fun K hK=>?_;simp only[↓zP,zG,seval];apply hK;clear hK K;refine aB fun K hK=>?_;simp only[↓zP,zG,seval];apply hK;clear hK K;refine aB fun K hK=>?_;refine aB fun K2 bO=>?_;simp only[↓zP,zG,seval,zI];apply bO;clear bO K2;refine bV [] (fun i _ H=>∀x∈l.take i,x=0) l.length (by omega) (by decide) ?_ ?_ ?_ ?_ ?_
 . simp only[zB,seval]
 . simp only[zB,seval,bQ]
 . intro x hx;simp at hx
 . intro i f H hi hk e1 hj;have hg:(bU l).getD i []=[.int .i64 l[i]]:=by simp[bU,List.getD,hi]
   refine aS ?_;by_cases hz:l[i]=0
   . simp only[↓zP,zG,seval,zI,e1,hk 6 rfl,hk 3 rfl,aQ,bQ,hi,hg,hz,show((0:Int) != 0)=false from rfl];intro x hx;rw[Bv,Az] at hx
     rcases hx with hx|hx
     . exact hj x hx
     simp[hi] at hx;rw[hx,hz]
   have hb:(l[i] != 0)=true:=(by simpa using hz);simp only[↓zP,zG,seval,zI,e1,hk 6 rfl,hk 3 rfl,aQ,bQ,hi,hg,hb];refine Rx ?_
   have :l.find? (· ≠0)=some l[i]:=by
    conv=>lhs;rw[<-Gw i l]
    rw[List.find?_append,List.find?_eq_none.2 (fun x hx=>by simp[hj x hx]),Hx hi,List.find?_cons_of_pos (by simpa using hz)];rfl
   rw[orZ,this];rfl
 intro f H hk hj;rw[Bm] at hj;simp only[↓zP,seval];apply hK;simp only[↓zP,zG,seval,hk 3 rfl];refine Rx ?_;have :l.find? (· ≠0)=none:=List.find?_eq_none.2 fun x hx=>by simp[hj x hx]
 rw[orZ,this];rfl
def iV (q:aY.V×Int):List AV:=[.int .i64 q.1.x,.int .i64 q.1.y,.int .i64 q.1.z,.int .i64 q.2]
theorem wG (q:aY.V×Int):bN (iV q)=true:=by simp only[iV,sf]
theorem Xx {a b:Int} {B:Nat} (ha:a.natAbs<=B) (hb:b.natAbs<=B) (hB:B<2^62) (H:aA):Sound Tryz.prog gv 275 [.int .i64 a,.int .i64 b] H (.ret (.int .i64 (Int.gcd a b))) H:=by
 refine So aHs (by simp only[sf]) ?_ H;unfold yz;dsimp only;refine aB fun K hK=>?_;simp only[↓zP,zG,seval];apply hK;clear hK K;refine aB fun K hK=>?_;refine aS (jI [0,1] (fun m vs _=>∃x y:Int,vs=[.int .i64 x,.int .i64 y]/\x.natAbs<=B/\y.natAbs<=B/\m=y.natAbs/\Int.gcd x y=Int.gcd a b) b.natAbs (by rfl) ?_ ?_)
 . exact⟨a,b,by simp only[sm,zB,seval,dW],ha,hb,rfl,rfl⟩
 rintro m f H hk ⟨x,y,hv,hx,hy,rfl,hg⟩;simp only[sm,Am,Bs] at hv;obtain⟨h0,h1⟩:=hv;by_cases bb:y=0
 . subst bb;have hw:IntKind.i64.wrap (0 -x)= -x:=(kG (B:=B) (by omega) (by omega)).trans (by omega);simp only[↓zP,zG,seval,h1,show((0:Int) != 0)=false from rfl];apply hK;simp only[↓zP,zG,seval,h0,hw];refine Rx ?_
   have Vm:(Int.gcd a b:Int)=if -x>x then -x else x:=(by rw[<-hg,fq]);rw[Vm];rfl
 have Ji:(y != 0)=true:=by simpa using bb
 simp only[↓zP,zG,seval,h1,Ji];refine aS (bK (by decide) ?_);simp only[↓zP,zG,seval,zD,reduceCtorEq,h0,h1];rw[if_neg bb]
 have eW:(x.tmod y).natAbs<y.natAbs:=by rw[natAbs_tmod];exact Dp _ (by omega)
 simp only[zG,seval,zD];exact⟨_,eW,y,x.tmod y,by simp only[sm,zB,seval],hy,by omega,rfl,by rw[Xy,hg]⟩
theorem Xw {a b:Int} {B:Nat} (ha:a.natAbs<=B) (hb:b.natAbs<=B):Int.gcd a b<=B:=by
 unfold Int.gcd
 rcases Nat.eq_zero_or_pos a.natAbs with h|h
 . rw[h,Nat.gcd_zero_left];exact hb
 exact By (Nat.gcd_le_left _ h) ha
def DA (a b c:aY.V):aY.V×Int:=let n:=kX (aY.aV (aY.sub b a) (aY.sub c a));(n,aY.dot n a)
theorem TF {a b c:aY.V} {M:Nat} (ha:fI M a) (hb:fI M b) (hc:fI M c) (hM:M<=2^18) (H:aA):Sound Tryz.prog gv 206 [.agg (iB a),.agg (iB b),.agg (iB c)] H (.ret (.agg (iV (DA a b c)))) H:=by
 have hu:=kZ hb ha;have hw:=kZ hc ha;have hn:=tH hu hw;have hMM:(M+M)*(M+M)<=2^19*2^19:=Ch (by omega) (by omega);have aDh:2*((M+M)*(M+M))*M<=2^39*2^18:=Ch (by omega) (by omega);refine Sp aGi (by simp only[sf,gZ]) (by simp only[sf,wG]) ?_ H;unfold xg;dsimp only;refine aB fun K hK=>?_;simp only[↓zP,zG,seval,zI];apply hK;clear hK K;refine aB fun K hK=>?_;refine II 1 (by decide) (by simp only[mQ,seval,zI,Option.isNone_none,Cx]) fun H1 n1 e1=>?_;simp only[zI,seval] at n1 e1;simp only[↓zP,zG,seval,zD,reduceCtorEq,zI,e1,oL (bR a),oL (bR b)];refine rM (IC hb ha (by omega) _) ?_;simp only[↓zP,zG,seval,zD,reduceCtorEq,zI,e1,oL (bR a),oL (bR c)];refine rM (IC hc ha (by omega) _) ?_;simp only[seval];refine rM (MN hu hw (by omega) _) ?_;generalize hN:aY.aV (aY.sub b a) (aY.sub c a)=N at *;simp only[↓zP,zG,seval,zD,reduceCtorEq,zI,n1,e1,oL (bR N)];apply hK;clear hK K;generalize hB:2*((M+M)*(M+M))=B at *;generalize hX:(H1.set 4 _).set 4 _=H2;have g0:H2.get 0=some (.cells (iB a) false):=by subst hX;simp only[seval,zI,e1]
 have g3:H2.get 3=some (.cells [.int .i64 0,.int .i64 0,.int .i64 0,.int .i64 0] false):=by subst hX;simp only[seval,zI,e1]
 have g4:H2.get 4=some (.cells (iB N) false):=by subst hX;simp only[seval,zI]
 clear hX e1 n1
 have rO:(Int.gcd N.x N.y:Int).natAbs<=B:=by rw[Int.natAbs_natCast];exact Xw hn.1 hn.2.1
 have hp:=xG hn;refine aB fun K hK=>?_;refine aB fun K2 bO=>?_;refine bK (by decide) ?_;simp only[↓zP,zG,seval,zD,reduceCtorEq,zI,g4,TT,iB];refine rM (Xx hn.1 hn.2.1 (by omega) _) ?_;simp only[↓zP,zG,seval,zD,reduceCtorEq,zI,g4,TT,iB];refine rM (Xx rO hn.2.2 (by omega) _) ?_;simp only[↓zP,zG,seval,zD,reduceCtorEq,zI,TI];apply bO;clear bO K2
 have fin:∀(f:cQ) (H3:aA),f 3=.ref 0 0->f 6=.ref 3 0->f 7=.ref 4 0->H3.get 0=some (.cells (iB a) false)->H3.get 3=some (.cells [.int .i64 0,.int .i64 0,.int .i64 0,.int .i64 0] false)->H3.get 4=some (.cells (iB (kX N)) false)->K f [] H3:=by intro f H3 f3 f6 f7 g0 g3 g4;apply hK;clear hK K;refine aB fun K hK=>?_;refine bK (by decide) ?_;simp only[↓zP,zG,seval,zD,reduceCtorEq,zI,f3,f7,g0,g4,oL (bR a),oL (bR (kX N))];refine rM (BQ hp ha (by omega) _) ?_;simp only[↓zP,zG,seval,zD,reduceCtorEq,zI,f6,g3,iB];apply hK;clear hK K;simp only[↓zP,seval];refine⟨rfl,_,by simp only[↓zP,zR,seval,f6];rfl,?_⟩;simp only[DA,hN,iV];rfl
 simp only[↓zP,zG,seval];refine⟨fun hgt=>?_,fun hle=>?_⟩
 . have cF:¬((gE N:Nat):Int)=0:=by omega
   have ep:=Mb N;have q1:IntKind.i64.wrap (N.x.tdiv (gE N))=(kX N).x:=(by rw[kG (B:=B) (by have :=hp.1;rw[ep] at this;exact this) (by omega),ep]);have q2:IntKind.i64.wrap (N.y.tdiv (gE N))=(kX N).y:=(by rw[kG (B:=B) (by have :=hp.2.1;rw[ep] at this;exact this) (by omega),ep]);have q3:IntKind.i64.wrap (N.z.tdiv (gE N))=(kX N).z:=(by rw[kG (B:=B) (by have :=hp.2.2;rw[ep] at this;exact this) (by omega),ep]);refine bK (by decide) ?_;simp only[↓zP,zG,seval,zD,reduceCtorEq,zI,g4,TT,iB,cF,q1,q2,q3];apply fin<;>simp only[↓zP,zG,seval,zI,g0,g3,iB]
 have e1:kX N=N:=ZF (by omega)
 apply fin<;>first|(simp only[↓zP,zG,seval];done)|(rw[e1];exact g4)|assumption
end Go.Proofs.YtgggiembljfnhaaGreatDoor
namespace Go.Proofs.YtgggiembljfnhaaGreatDoor
open Go Go.Av Go.aY Go.DL
attribute [local congr] aP aJ aK aH aU aM aL aD
attribute [local irreducible] FC bM dX

end Go.Proofs.YtgggiembljfnhaaGreatDoor
namespace Go.Proofs.YtgggiembljfnhaaGreatDoor
open Go Go.Av Go.DL Go.aY
attribute [local congr] aP aJ aK aH aU aM aL aD
attribute [local irreducible] FC bM dX

end Go.Proofs.YtgggiembljfnhaaGreatDoor
namespace Go.Proofs.YtgggiembljfnhaaGreatDoor
open Go Go.Av Go.aY
attribute [local congr] aP aJ aK aH aU aM aL aD
attribute [local irreducible] FC bM dX
def gL (l:List aY.V):List (List AV):=l.map iB
theorem bY (l:List aY.V):(gL l).length=l.length:=by simp[gL]
theorem hU {l:List aY.V} {i:Nat} (h:i<l.length):(gL l).getD i []=iB l[i]:=sP h
theorem kU {tag:Nat} (ht:Nat.blt tag 2=true) (l:List aY.V):(AV.bH tag 3 (gL l)).free=true:=by simp only[AV.free,ht,Cu];exact jS gZ l
def QL (l:List aY.V) (q:aY.V×Int):Bool:=l.all (fun v=>decide (aY.dot q.1 v<=q.2))&& !l.all (fun v=>aY.dot q.1 v==q.2)
theorem Sj {tag:Nat} (ht:Nat.blt tag 2=true) {l:List aY.V} {M B:Nat} (hl:∀v∈l,fI M v) (hlen:l.length<2^30) {q:aY.V×Int} (hq:fI B q.1) (hs:3*(B*M)<2^62) (H:aA):
 Sound Tryz.prog gv 207 [.bH tag 3 (gL l),.agg (iV q)] H (.ret (.bool (QL l q))) H:=by
 refine So aGj (by simp only[sf,kU ht,wG]) ?_ H;unfold xh;dsimp only;have p3:(iV q).length=4:=rfl;have p1:(iV q).take 3=iB q.1:=rfl;have p2:(iV q).getD 3 aC=.int .i64 q.2:=rfl;refine aB fun K hK=>?_;simp only[↓zP,zG,seval,zI];apply hK;clear hK K;refine aB fun K hK=>?_;simp only[↓zP,zG,seval];apply hK;clear hK K;refine aB fun K hK=>?_;refine aB fun K2 bO=>?_;simp only[↓zP,zG,seval,zI];apply bO;clear bO K2;refine bV [5] (fun i vs H=>vs=[.bool ((l.take i).all (fun v=>aY.dot q.1 v==q.2))]/\(∀v∈l.take i,aY.dot q.1 v<=q.2)/\1<=H.next/\H.get 0=some (.cells (iV q) false)) l.length (by omega) (by decide) ?_ ?_ ?_ ?_ ?_
 . simp only[zB,seval]
 . simp only[zB,seval,bY]
 . refine⟨by simp only[sm,zB,seval];rfl,fun v hv=>by simp at hv,by simp only[zI,seval],by simp only[seval,zI]⟩
 . rintro i f H hi hk e1 ⟨hv,hle,hn,g0⟩;simp only[sm,Am,Bs] at hv
   have hx:∀v,v∈l.take (i+1)->v∈l.take i\/v=l[i]:=fun v hv=>by
    rw[Bv,Az] at hv
    rcases hv with h|h
    . exact .inl h
    simp[hi] at h;exact .inr h
   have nQ:(l.take (i+1)).all (fun v=>aY.dot q.1 v==q.2)=((l.take i).all (fun v=>aY.dot q.1 v==q.2)&&(aY.dot q.1 l[i]==q.2)):=by rw[Bv,List.all_append];simp[hi]
   generalize hb:(l.take i).all (fun v=>aY.dot q.1 v==q.2)=b at *;have Pe:=Ap hi;have hg:=hU hi;generalize Tu:l[i]=x at *;have cF:¬(0=H.next):=(by omega);refine aS ?_;simp only[↓zP,zG,seval,zI,e1,hk 9 rfl,hk 3 rfl,aQ,bY,hi,hg,oL (bR x),cF,g0,p3,p1];refine cT (BQ hq (hl x Pe) hs _) ?_;simp only[↓zP,zG,seval,zI,hk 3 rfl,cF,g0,p3,p2,hv];refine⟨fun h=>?_,fun h=>?_⟩
   . refine Rx ?_
     have :QL l q=false:=by simp only[QL,Bool.and_eq_false_iff];refine .inl ?_;rw[<-Ik,Bc];intro ha;have :=Dq (ha x Pe);omega
     rw[this];rfl
   have gz:∀v∈l.take (i+1),aY.dot q.1 v<=q.2:=fun v hv=>by
    rcases hx v hv with h1|rfl
    . exact hle v h1
    omega
   cases b
   . simp only[↓zP,zG,seval];exact⟨by rw[nQ];rfl,gz,trivial⟩
   simp only[↓zP,seval];exact⟨by rw[nQ];rfl,gz,trivial⟩
 rintro f H hk ⟨hv,hle,hn,g0⟩;simp only[sm,Am,Bs] at hv;rw[Bm] at hv hle;simp only[↓zP,seval];apply hK;simp only[↓zP,zG,seval,hv];refine Rx ?_;have :l.all (fun v=>decide (aY.dot q.1 v<=q.2))=true:=Bc.2 fun v hv=>Bk (hle v hv);simp only[QL,this,Cu];rfl
def QO (p q:aY.V×Int):Int:=orZ [vF p.1.x q.1.x,vF p.1.y q.1.y,vF p.1.z q.1.z]
theorem QP (p q:aY.V×Int) (H:aA):Sound Tryz.prog gv 209 [.agg (iV p),.agg (iV q)] H (.ret (.int .i64 (QO p q))) H:=by
 refine So aGk (by simp only[sf,wG]) ?_ H;unfold xi;dsimp only;refine aB fun K hK=>?_;simp only[↓zP,zG,seval,zI];apply hK;clear hK K;refine aB fun K hK=>?_;refine bK (by decide) ?_;simp only[↓zP,zG,seval,zD,reduceCtorEq,zI,iV,TT];refine rM (jH p.1.x q.1.x _) ?_;simp only[↓zP,zG,seval,zD,reduceCtorEq,zI,TT];refine rM (jH p.1.y q.1.y _) ?_;simp only[↓zP,zG,seval,zD,reduceCtorEq,zI,TT];refine rM (jH p.1.z q.1.z _) ?_;simp only[↓zP,zG,seval,zD,reduceCtorEq,zI];have Pg:=nn [vF p.1.x q.1.x,vF p.1.y q.1.y,vF p.1.z q.1.z] (by simp);simp only[bU,sm] at Pg;refine rM (Pg _) ?_;simp only[↓zP,zG,seval,zD,reduceCtorEq,zI];apply hK;clear hK K;simp only[↓zP,seval]
 (refine Rx ?_;rfl)
end Go.Proofs.YtgggiembljfnhaaGreatDoor
namespace Go.Proofs.YtgggiembljfnhaaGreatDoor
open Go Go.Av
attribute [local congr] aP aJ aK aH aU aM aL aD
attribute [local irreducible] FC bM dX
def inV (m:Int) (w:List Int):Bool:=w.all fun x=>decide (x<=m/\-m<=x)
end Go.Proofs.YtgggiembljfnhaaGreatDoor
