/-
  Parts of the proof of statement 4: Kg, Kh
-/
import Derived.Test.YtjiignefffdelaaGreatDoorA25
import Derived.Test.YtjiignefffdelaaGreatDoorA21
set_option linter.unusedVariables false
set_option maxRecDepth 100000
set_option maxHeartbeats 16000000
namespace Go.Proofs.YtjiignefffdelaaGreatDoor
open Go Go.Av Go.Geo
attribute [local congr] aU aN aO aM aW aR aP aL
attribute [local irreducible] FC FOps FD2
theorem cJ {x:Int} {B:Nat} (h:x.natAbs≤B) (hB:B<2^63):IntKind.i64.wrap x=x:=wrap_i64 (by omega) (by omega)
theorem Near.c {A:Nat} {v:Geo.V} (h:Near A v) (i:Nat):(v.at i).natAbs≤A:=by
 unfold V.at;split
 · exact h.1
 · exact h.2.1
 · exact h.2.2
theorem pQ {a b:Geo.V} {A B:Nat} (ha:Near A a) (hb:Near B b) (hs:3*(A*B)<2^62) (H:Heap):Sound Tryz.prog gv 158 [.agg (ivC a),.agg (ivC b)] H (.ret (.int .i64 (Geo.dot a b))) H:=by
 have h1:=aY ha.1 hb.1;have h2:=aY ha.2.1 hb.2.1;have h3:=aY ha.2.2 hb.2.2;have w1:=cJ h1 (by omega);have w2:=cJ h2 (by omega);have w3:=cJ h3 (by omega);have w4:IntKind.i64.wrap (a.x*b.x+a.y*b.y)=a.x*b.x+a.y*b.y:=cJ (B:=2*(A*B)) (by omega) (by omega);have w5:IntKind.i64.wrap (a.x*b.x+a.y*b.y+a.z*b.z)=a.x*b.x+a.y*b.y+a.z*b.z:=cJ (B:=3*(A*B)) (by omega) (by omega);refine Sp aZe (by simp only[sf,bA]) (by simp only[sf]) ?_ H;unfold W158;dsimp only;simp only[↓zP,zG,Nat.reduceLT,Nat.reduceEqDiff,Nat.reduceAdd,zI,Nat.reduceLeDiff,ivC,fS,w1,w2,w3,w4,w5];exact⟨rfl,_,by simp only[↓zP,zR];rfl,rfl⟩
theorem xK {x y:Int} {M:Nat} (hx:x.natAbs≤M) (hy:y.natAbs≤M) (hM:M<2^61):IntKind.i64.wrap (x -y)=x -y:=cJ (B:=2*M) (by omega) (by omega)
theorem xS {a b:Geo.V} {A B:Nat} (ha:Near A a) (hb:Near B b) (hs:A*B<2^61) (H:Heap):Sound Tryz.prog gv 120 [.agg (ivC a),.agg (ivC b)] H (.ret (.agg (ivC (Geo.cross a b)))) H:=by
 obtain⟨a1,a2,a3⟩:=ha;obtain⟨b1,b2,b3⟩:=hb;have w1:=cJ (aY a2 b3) (by omega);have w2:=cJ (aY a3 b2) (by omega);have w3:=cJ (aY a3 b1) (by omega);have w4:=cJ (aY a1 b3) (by omega);have w5:=cJ (aY a1 b2) (by omega);have w6:=cJ (aY a2 b1) (by omega);have w7:=xK (aY a2 b3) (aY a3 b2) hs;have w8:=xK (aY a3 b1) (aY a1 b3) hs;have w9:=xK (aY a1 b2) (aY a2 b1) hs;refine Sp aUc (by simp only[sf,bA]) (by simp only[sf,bA]) ?_ H;unfold W120;dsimp only;simp only[zG,Nat.reduceLT,Nat.reduceEqDiff,Nat.reduceAdd,zI,Nat.reduceLeDiff,ivC,fS,w1,w2,w3,w4,w5,w6,w7,w8,w9];exact⟨rfl,_,by simp only[↓zP,zR,Nat.reduceEqDiff,Nat.reduceAdd];rfl,rfl⟩
theorem aIy {a:Geo.V} {A:Nat} (ha:Near A a) (hs:A<2^62) (H:Heap):Sound Tryz.prog gv 154 [.agg (ivC a)] H (.ret (.agg (ivC (Geo.neg a)))) H:=by
 obtain⟨a1,a2,a3⟩:=ha;have w1:IntKind.i64.wrap (0 -a.x)= -a.x:=(cJ (B:=A) (by omega) (by omega)).trans (by omega);have w2:IntKind.i64.wrap (0 -a.y)= -a.y:=(cJ (B:=A) (by omega) (by omega)).trans (by omega);have w3:IntKind.i64.wrap (0 -a.z)= -a.z:=(cJ (B:=A) (by omega) (by omega)).trans (by omega);refine Sp aZb (by simp only[sf,bA]) (by simp only[sf,bA]) ?_ H;unfold W154;dsimp only;simp only[↓zP,zG,Nat.reduceLT,Nat.reduceEqDiff,Nat.reduceAdd,zI,Nat.reduceLeDiff,ivC,fS,w1,w2,w3];exact⟨rfl,_,by simp only[↓zP,zR,Nat.reduceEqDiff,Nat.reduceAdd];rfl,rfl⟩
theorem aTm {a b:Geo.V} {A B:Nat} (ha:Near A a) (hb:Near B b) (hs:A+B<2^62) (H:Heap):Sound Tryz.prog gv 197 [.agg (ivC a),.agg (ivC b)] H (.ret (.agg (ivC (Geo.add a b)))) H:=by
 refine Sp bAa (by simp only[sf,bA]) (by simp only[sf,bA]) ?_ H;unfold W197;dsimp only;simp only[↓zP,zG,Nat.reduceLT,Nat.reduceEqDiff,Nat.reduceAdd,zI,ivC];refine dH [] (fun i _ H'=>H'.get 0=some (.cells ([0,1,2].map fun j=>if j<i then .int .i64 (a.at j+b.at j) else .int .i64 (a.at j)) false)∧H'.get 1=some (.cells (ivC b) false)∧H'.get 2=some (.cells [.int .i64 0,.int .i64 0,.int .i64 0] false)) 3 (by decide) rfl (by decide) ?_ ?_ ?_ ?_
 · simp only[aC]
 · simp only[Nat.reduceEqDiff,Nat.reduceAdd,zI,Nat.not_lt_zero];exact⟨rfl,rfl,trivial⟩
 · rintro i f H hi hk e1 ⟨g0,g1,g2⟩
   have hl:([0,1,2].map fun j=>if j<i then AV.int .i64 (a.at j+b.at j) else .int .i64 (a.at j)).length=3:=by simp
   have hg:([0,1,2].map fun j=>if j<i then AV.int .i64 (a.at j+b.at j) else .int .i64 (a.at j)).getD i undefA=.int .i64 (a.at i):=by
    match i,hi with
    |0,_=>rfl
    |1,_=>rfl
    |2,_=>rfl
   have w:IntKind.i64.wrap (a.at i+b.at i)=a.at i+b.at i:=by
    have h1:=Near.c ha i;have h2:=Near.c hb i;exact cJ (B:=A+B) (by omega) (by omega)
   refine aI ?_;refine aA fun K hK=>?_;simp only[↓zP,zG,Nat.reduceLT,e1];apply hK;clear hK K;refine aQ (by decide) ?_;generalize hc:([0,1,2].map fun j=>if j<i then AV.int .i64 (a.at j+b.at j) else .int .i64 (a.at j))=cs at *;simp only[↓zP,zG,Nat.reduceLT,Nat.reduceEqDiff,Nat.reduceAdd,zD,reduceCtorEq,zI,hk 2 rfl,hk 3 rfl,aD,hi,g0,g1,hl,hg,aG,dB b hi,w,show i+1≤3 by omega];subst hc;refine⟨?_,g2⟩
   match i,hi with
   |0,_=>rfl
   |1,_=>rfl
   |2,_=>rfl
 · rintro f H hk ⟨g0,g1,g2⟩
   simp only[↓zP,zG,Nat.reduceLT,Nat.reduceEqDiff,Nat.reduceAdd,zI,hk 2 rfl,hk 4 rfl,g0,g2];exact⟨rfl,_,by simp only[↓zP,zR,Nat.reduceEqDiff,Nat.reduceAdd,hk 4 rfl];rfl,rfl⟩
theorem aBi (a b:Geo.V):Geo.add a (Geo.neg b)=Geo.sub a b:=by
 simp only[Geo.add,Geo.neg,Geo.sub,Int.sub_eq_add_neg]
theorem qQ {a b:Geo.V} {A B:Nat} (ha:Near A a) (hb:Near B b) (hs:A+B<2^62) (H:Heap):Sound Tryz.prog gv 143 [.agg (ivC a),.agg (ivC b)] H (.ret (.agg (ivC (Geo.sub a b)))) H:=by
 refine Sp aYv (by simp only[sf,bA]) (by simp only[sf,bA]) ?_ H;unfold W143;dsimp only;simp only[↓zP,zG,Nat.reduceLT,Nat.reduceEqDiff,Nat.reduceAdd,zI];refine aQ (by decide) ?_;simp only[↓zP,zG,Nat.reduceLT,Nat.reduceEqDiff,Nat.reduceAdd,zD,reduceCtorEq,zI,oL (aG a),oL (aG b)];refine cE (aIy hb (by omega) _) ?_;simp only[Nat.reduceAdd];refine cE (aTm ha (qB hb) hs _) ?_;rw[aBi];simp only[↓zP,zG,Nat.reduceEqDiff,Nat.reduceAdd,zD,reduceCtorEq,zI,oL (aG (Geo.sub a b))];exact⟨rfl,_,by simp only[↓zP,zR,Nat.reduceEqDiff,Nat.reduceAdd,oL (aG (Geo.sub a b))];rfl,rfl⟩
theorem aCl (a:Int) (H:Heap):Sound Tryz.prog gv 201 [.int .i64 a] H (.ret (.bool false)) H:=by
 refine Sp bAb (by simp only[sf]) (by simp only[sf]) ?_ H;unfold W201;dsimp only;simp only[↓zP,zG,Nat.reduceLT,Nat.reduceEqDiff,zI,bne_self_eq_false];exact⟨rfl,_,by simp only[↓zP,zR];rfl,rfl⟩
def cmpZ (a b:Int):Int:=if a<b then -1 else if b<a then 1 else 0
theorem cX (a b:Int) (H:Heap):Sound Tryz.prog gv 151 [.int .i64 a,.int .i64 b] H (.ret (.int .i64 (cmpZ a b))) H:=by
 refine Sp aYz (by simp only[sf]) (by simp only[sf]) ?_ H;unfold W151;dsimp only;simp only[↓zP,zG,Nat.reduceLT,Nat.reduceEqDiff,zI];refine bF (aCl a _) ?_;simp only[↓zP,zG,Nat.reduceLT,Nat.reduceEqDiff,zI];refine bF (aCl b _) ?_;simp only[↓zP,zG,Nat.reduceLT,Nat.reduceEqDiff,zI];refine⟨fun h=>?_,fun h=>⟨fun h2=>?_,fun h2=>?_⟩⟩<;>refine⟨rfl,_,by simp only[↓zP,zR];rfl,?_⟩<;>unfold cmpZ
 · rw[if_pos (by omega)];rfl
 · rw[if_neg (by omega),if_pos (by omega)];rfl
 · rw[if_neg (by omega),if_neg (by omega)];rfl
def orZ (l:List Int):Int:=(l.find? (· ≠0)).getD 0
theorem aNb (l:List Int) (hl:l.length<2^30) (H:Heap):Sound Tryz.prog gv 150 [.aT 1 1 (intsE l)] H (.ret (.int .i64 (orZ l))) H:=by
 refine Sp aYy (by simp only[sf,pI]) (by simp only[sf]) ?_ H;unfold W150;dsimp only;refine aA fun K hK=>?_;simp only[↓zP,zG,Nat.reduceLT];apply hK;clear hK K;refine aA fun K hK=>?_;simp only[↓zP,zG,Nat.reduceLT];apply hK;clear hK K;refine aA fun K hK=>?_;refine aA fun K2 hK2=>?_;simp only[↓zP,zG,Nat.reduceLT,Nat.reduceEqDiff,zI];apply hK2;clear hK2 K2;refine bD [] (fun i _ H=>∀x∈l.take i,x=0) l.length (by omega) (by decide) ?_ ?_ ?_ ?_ ?_
 · simp only[aC]
 · simp only[aC,ne_eq,Nat.reduceEqDiff,not_false_eq_true,jV]
 · intro x hx;simp at hx
 · intro i f H hi hk e1 hj
   have hg:(intsE l).getD i []=[.int .i64 l[i]]:=by simp[intsE,List.getD,hi]
   refine aI ?_;by_cases hz:l[i]=0
   · simp only[↓zP,zG,Nat.reduceLT,Nat.reduceEqDiff,zI,e1,hk 6 rfl,hk 3 rfl,aD,jV,hi,hg,hz,show((0:Int) != 0)=false from rfl]
     intro x hx;rw[List.take_add_one,List.mem_append] at hx
     rcases hx with hx|hx
     · exact hj x hx
     · simp[hi] at hx;rw[hx,hz]
   · have hb:(l[i] != 0)=true:=by simpa using hz
     simp only[↓zP,zG,Nat.reduceLT,Nat.reduceEqDiff,zI,e1,hk 6 rfl,hk 3 rfl,aD,jV,hi,hg,hb];refine⟨rfl,_,by simp only[↓zP,zR];rfl,?_⟩
     have :l.find? (· ≠0)=some l[i]:=by
      conv=>lhs;rw[←List.take_append_drop i l]
      rw[List.find?_append,List.find?_eq_none.2 (fun x hx=>by simp[hj x hx]),List.drop_eq_getElem_cons hi,List.find?_cons_of_pos (by simpa using hz)];rfl
     rw[orZ,this];rfl
 · intro f H hk hj
   rw[List.take_length] at hj;simp only[↓zP];apply hK;simp only[↓zP,zG,Nat.reduceLT,Nat.reduceEqDiff,hk 3 rfl];refine⟨rfl,_,by simp only[↓zP,zR];rfl,?_⟩
   have :l.find? (· ≠0)=none:=List.find?_eq_none.2 fun x hx=>by simp[hj x hx]
   rw[orZ,this];rfl
def plC (q:Geo.V×Int):List AV:=[.int .i64 q.1.x,.int .i64 q.1.y,.int .i64 q.1.z,.int .i64 q.2]
theorem lX (q:Geo.V×Int):freeL (plC q)=true:=by simp only[plC,sf]
theorem aNy {a b:Int} {B:Nat} (ha:a.natAbs≤B) (hb:b.natAbs≤B) (hB:B<2^62) (H:Heap):Sound Tryz.prog gv 202 [.int .i64 a,.int .i64 b] H (.ret (.int .i64 (Int.gcd a b))) H:=by
 refine Sp bAc (by simp only[sf]) (by simp only[sf]) ?_ H;unfold W202;dsimp only;refine aA fun K hK=>?_;simp only[↓zP,zG,Nat.reduceLT];apply hK;clear hK K;refine aA fun K hK=>?_;refine aI (dM [0,1] (fun m vs _=>∃x y:Int,vs=[.int .i64 x,.int .i64 y]∧x.natAbs≤B∧y.natAbs≤B∧m=y.natAbs∧Int.gcd x y=Int.gcd a b) b.natAbs (by rfl) ?_ ?_)
 · exact⟨a,b,by simp only[sm,aC,Nat.reduceEqDiff,startF],ha,hb,rfl,rfl⟩
 rintro m f H hk ⟨x,y,hv,hx,hy,rfl,hg⟩;simp only[sm,List.cons.injEq,and_true] at hv;obtain⟨h0,h1⟩:=hv;by_cases hy0:y=0
 · subst hy0
   have hw:IntKind.i64.wrap (0 -x)= -x:=(cJ (B:=B) (by omega) (by omega)).trans (by omega);simp only[↓zP,zG,Nat.reduceLT,h1,show((0:Int) != 0)=false from rfl];apply hK;simp only[↓zP,zG,Nat.reduceLT,Nat.reduceEqDiff,h0,hw];refine⟨rfl,_,by simp only[↓zP,zR];rfl,?_⟩
   have hx':(Int.gcd a b:Int)=if -x>x then -x else x:=by rw[←hg,aRj]
   rw[hx'];rfl
 · have hb1:(y != 0)=true:=by simpa using hy0
   simp only[↓zP,zG,Nat.reduceLT,h1,hb1];refine aI (aQ (by decide) ?_);simp only[↓zP,zG,Nat.reduceLT,Nat.reduceEqDiff,Nat.reduceAdd,zD,reduceCtorEq,h0,h1];rw[if_neg hy0]
   have hlt:(x.tmod y).natAbs<y.natAbs:=by
    rw[natAbs_tmod];exact Nat.mod_lt _ (by omega)
   simp only[zG,zD];exact⟨_,hlt,y,x.tmod y,by simp only[sm,aC,Nat.reduceEqDiff],hy,by omega,rfl,by rw[aCf,hg]⟩
theorem aCe {a b:Int} {B:Nat} (ha:a.natAbs≤B) (hb:b.natAbs≤B):Int.gcd a b≤B:=by
 unfold Int.gcd
 rcases Nat.eq_zero_or_pos a.natAbs with h|h
 · rw[h,Nat.gcd_zero_left];exact hb
 · exact Nat.le_trans (Nat.gcd_le_left _ h) ha
def throughP (a b c:Geo.V):Geo.V×Int:=let n:=prim (Geo.cross (Geo.sub b a) (Geo.sub c a));(n,Geo.dot n a)
theorem aGw {a b c:Geo.V} {M:Nat} (ha:Near M a) (hb:Near M b) (hc:Near M c) (hM:M≤2^18) (H:Heap):Sound Tryz.prog gv 153 [.agg (ivC a),.agg (ivC b),.agg (ivC c)] H (.ret (.agg (plC (throughP a b c)))) H:=by
 have hu:=cH hb ha;have hw:=cH hc ha;have hn:=dJ hu hw;have hMM:(M+M)*(M+M)≤2^19*2^19:=Nat.mul_le_mul (by omega) (by omega);have hMM2:2*((M+M)*(M+M))*M≤2^39*2^18:=Nat.mul_le_mul (by omega) (by omega);refine Sp aZa (by simp only[sf,bA]) (by simp only[sf,lX]) ?_ H;unfold W153;dsimp only;refine aA fun K hK=>?_;simp only[↓zP,zG,Nat.reduceLT,Nat.reduceEqDiff,Nat.reduceAdd,zI];apply hK;clear hK K;refine aA fun K hK=>?_;refine eY 1 (by decide) (by simp only[freeAt,Nat.reduceEqDiff,Nat.reduceAdd,zI,Option.isNone_none,Bool.and_self]) fun H1 n1 e1=>?_;simp only[zI,Nat.reduceAdd] at n1 e1;simp only[↓zP,zG,Nat.reduceLT,Nat.reduceEqDiff,Nat.reduceAdd,zD,reduceCtorEq,zI,e1,oL (aG a),oL (aG b)];refine cE (qQ hb ha (by omega) _) ?_;simp only[↓zP,zG,Nat.reduceLT,Nat.reduceEqDiff,Nat.reduceAdd,zD,reduceCtorEq,zI,e1,oL (aG a),oL (aG c)];refine cE (qQ hc ha (by omega) _) ?_;simp only[Nat.reduceAdd];refine cE (xS hu hw (by omega) _) ?_;generalize hN:Geo.cross (Geo.sub b a) (Geo.sub c a)=N at *;simp only[↓zP,zG,Nat.reduceLT,Nat.reduceEqDiff,Nat.reduceAdd,zD,reduceCtorEq,zI,n1,e1,oL (aG N)];apply hK;clear hK K;generalize hB:2*((M+M)*(M+M))=B at *;generalize hX:(H1.set 4 _).set 4 _=H2
 have g0:H2.get 0=some (.cells (ivC a) false):=by subst hX;simp only[Nat.reduceEqDiff,zI,e1]
 have g3:H2.get 3=some (.cells [.int .i64 0,.int .i64 0,.int .i64 0,.int .i64 0] false):=by subst hX;simp only[Nat.reduceEqDiff,zI,e1]
 have g4:H2.get 4=some (.cells (ivC N) false):=by subst hX;simp only[Nat.reduceEqDiff,zI,e1]
 clear hX e1 n1
 have hg1:(Int.gcd N.x N.y:Int).natAbs≤B:=by
  rw[Int.natAbs_natCast];exact aCe hn.1 hn.2.1
 have hp:=gP hn;refine aA fun K hK=>?_;refine aA fun K2 hK2=>?_;refine aQ (by decide) ?_;simp only[↓zP,zG,Nat.reduceLT,Nat.reduceEqDiff,Nat.reduceAdd,zD,reduceCtorEq,zI,Nat.reduceLeDiff,g4,fS,ivC];refine cE (aNy hn.1 hn.2.1 (by omega) _) ?_;simp only[↓zP,zG,Nat.reduceLT,Nat.reduceEqDiff,Nat.reduceAdd,zD,reduceCtorEq,zI,g4,fS,ivC];refine cE (aNy hg1 hn.2.2 (by omega) _) ?_;simp only[↓zP,zG,Nat.reduceLT,Nat.reduceEqDiff,Nat.reduceAdd,zD,reduceCtorEq,zI,vW];apply hK2;clear hK2 K2
 have fin:∀(f:Slt) (H3:Heap),f 3=.ref 0 0→f 6=.ref 3 0→f 7=.ref 4 0→H3.get 0=some (.cells (ivC a) false)→H3.get 3=some (.cells [.int .i64 0,.int .i64 0,.int .i64 0,.int .i64 0] false)→H3.get 4=some (.cells (ivC (prim N)) false)→K f [] H3:=by
  intro f H3 f3 f6 f7 g0 g3 g4;apply hK;clear hK K;refine aA fun K hK=>?_;refine aQ (by decide) ?_;simp only[↓zP,zG,Nat.reduceLT,Nat.reduceEqDiff,Nat.reduceAdd,zD,reduceCtorEq,zI,f3,f7,g0,g4,oL (aG a),oL (aG (prim N))];refine cE (pQ hp ha (by omega) _) ?_;simp only[↓zP,zG,Nat.reduceLT,Nat.reduceEqDiff,Nat.reduceAdd,zD,reduceCtorEq,zI,Nat.reduceLeDiff,f6,g3,ivC];apply hK;clear hK K;simp only[↓zP];refine⟨rfl,_,by simp only[↓zP,zR,Nat.reduceEqDiff,Nat.reduceAdd,f6];rfl,?_⟩;simp only[throughP,hN,plC];rfl
 simp only[↓zP,zG,Nat.reduceLT,zI];refine⟨fun hgt=>?_,fun hle=>?_⟩
 · have hne:¬((vgcd N:Nat):Int)=0:=by omega
   have ep:=yE N
   have q1:IntKind.i64.wrap (N.x.tdiv (vgcd N))=(prim N).x:=by rw[cJ (B:=B) (by have :=hp.1;rw[ep] at this;exact this) (by omega),ep]
   have q2:IntKind.i64.wrap (N.y.tdiv (vgcd N))=(prim N).y:=by rw[cJ (B:=B) (by have :=hp.2.1;rw[ep] at this;exact this) (by omega),ep]
   have q3:IntKind.i64.wrap (N.z.tdiv (vgcd N))=(prim N).z:=by rw[cJ (B:=B) (by have :=hp.2.2;rw[ep] at this;exact this) (by omega),ep]
   refine aQ (by decide) ?_;simp only[↓zP,zG,Nat.reduceLT,Nat.reduceEqDiff,Nat.reduceAdd,zD,reduceCtorEq,zI,Nat.reduceLeDiff,g4,fS,ivC,hne,q1,q2,q3];apply fin<;>simp only[↓zP,zG,Nat.reduceEqDiff,zI,g0,g3,ivC]
 · have e1:prim N=N:=aPb (by omega)
   apply fin<;>first|(simp only[↓zP,zG,Nat.reduceEqDiff];done)|(rw[e1];exact g4)|assumption
def ivE (l:List Geo.V):List (List AV):=l.map ivC
theorem aJ (l:List Geo.V):(ivE l).length=l.length:=by simp[ivE]
theorem bC {l:List Geo.V} {i:Nat} (h:i<l.length):(ivE l).getD i []=ivC l[i]:=bU h
theorem bG {tag:Nat} (ht:Nat.blt tag 2=true) (l:List Geo.V):(AV.aT tag 3 (ivE l)).free=true:=by
 simp only[AV.free,ht,Bool.true_and];exact bR bA l
def outB (l:List Geo.V) (q:Geo.V×Int):Bool:=l.all (fun v=>decide (Geo.dot q.1 v≤q.2))&& !l.all (fun v=>Geo.dot q.1 v==q.2)
theorem aFx {tag:Nat} (ht:Nat.blt tag 2=true) {l:List Geo.V} {M B:Nat} (hl:∀v∈l,Near M v) (hlen:l.length<2^30) {q:Geo.V×Int} (hq:Near B q.1) (hs:3*(B*M)<2^62) (H:Heap):
 Sound Tryz.prog gv 155 [.aT tag 3 (ivE l),.agg (plC q)] H (.ret (.bool (outB l q))) H:=by
 refine Sp aZc (by simp only[sf,bG ht,lX]) (by simp only[sf]) ?_ H;unfold W155;dsimp only;have p3:(plC q).length=4:=rfl;have p1:(plC q).take 3=ivC q.1:=rfl;have p2:(plC q).getD 3 undefA=.int .i64 q.2:=rfl;refine aA fun K hK=>?_;simp only[↓zP,zG,Nat.reduceLT,zI];apply hK;clear hK K;refine aA fun K hK=>?_;simp only[↓zP,zG,Nat.reduceLT];apply hK;clear hK K;refine aA fun K hK=>?_;refine aA fun K2 hK2=>?_;simp only[↓zP,zG,Nat.reduceLT,Nat.reduceEqDiff,zI];apply hK2;clear hK2 K2;refine bD [5] (fun i vs H=>vs=[.bool ((l.take i).all (fun v=>Geo.dot q.1 v==q.2))]∧(∀v∈l.take i,Geo.dot q.1 v≤q.2)∧1≤H.next∧H.get 0=some (.cells (plC q) false)) l.length (by omega) (by decide) ?_ ?_ ?_ ?_ ?_
 · simp only[aC]
 · simp only[aC,ne_eq,Nat.reduceEqDiff,not_false_eq_true,aJ]
 · refine⟨by simp only[sm,aC,Nat.reduceEqDiff];rfl,fun v hv=>by simp at hv,by simp only[zI,Nat.reduceLeDiff],by simp only[zI]⟩
 · rintro i f H hi hk e1 ⟨hv,hle,hn,g0⟩
   simp only[sm,List.cons.injEq,and_true] at hv
   have hx:∀v,v∈l.take (i+1)→v∈l.take i∨v=l[i]:=fun v hv=>by
    rw[List.take_add_one,List.mem_append] at hv
    rcases hv with h|h
    · exact .inl h
    · simp[hi] at h;exact .inr h
   have hall:(l.take (i+1)).all (fun v=>Geo.dot q.1 v==q.2)=((l.take i).all (fun v=>Geo.dot q.1 v==q.2)&&(Geo.dot q.1 l[i]==q.2)):=by
    rw[List.take_add_one,List.all_append];simp[hi]
   generalize hb:(l.take i).all (fun v=>Geo.dot q.1 v==q.2)=b at *;have hmem:=List.getElem_mem hi;have hg:=bC hi;generalize hli:l[i]=x at *
   have hne:¬(0=H.next):=by omega
   refine aI ?_;simp only[↓zP,zG,Nat.reduceLT,Nat.reduceEqDiff,Nat.reduceAdd,zI,Nat.reduceLeDiff,e1,hk 9 rfl,hk 3 rfl,aD,aJ,hi,hg,oL (aG x),hne,g0,p3,p1];refine bF (pQ hq (hl x hmem) hs _) ?_;simp only[↓zP,zG,Nat.reduceLT,Nat.reduceEqDiff,Nat.reduceAdd,zI,Nat.reduceLeDiff,hk 3 rfl,hne,g0,p3,p2,hv];refine⟨fun h=>?_,fun h=>?_⟩
   · refine⟨rfl,_,by simp only[↓zP,zR];rfl,?_⟩
     have :outB l q=false:=by
      simp only[outB,Bool.and_eq_false_iff];refine .inl ?_;rw[←Bool.not_eq_true,List.all_eq_true];intro ha;have :=of_decide_eq_true (ha x hmem);omega
     rw[this];rfl
   · have hle':∀v∈l.take (i+1),Geo.dot q.1 v≤q.2:=fun v hv=>by
      rcases hx v hv with h1|rfl
      · exact hle v h1
      · omega
     cases b
     · simp only[↓zP,zG,zI]
       exact⟨by rw[hall];rfl,hle',trivial⟩
     · simp only[↓zP,zI]
       exact⟨by rw[hall];rfl,hle',trivial⟩
 · rintro f H hk ⟨hv,hle,hn,g0⟩
   simp only[sm,List.cons.injEq,and_true] at hv;rw[List.take_length] at hv hle;simp only[↓zP];apply hK;simp only[↓zP,zG,Nat.reduceLT,hv];refine⟨rfl,_,by simp only[↓zP,zR];rfl,?_⟩;have :l.all (fun v=>decide (Geo.dot q.1 v≤q.2))=true:=List.all_eq_true.2 fun v hv=>decide_eq_true (hle v hv);simp only[outB,this,Bool.true_and];rfl
def plCmp (p q:Geo.V×Int):Int:=orZ [cmpZ p.1.x q.1.x,cmpZ p.1.y q.1.y,cmpZ p.1.z q.1.z]
theorem aCw (p q:Geo.V×Int) (H:Heap):Sound Tryz.prog gv 157 [.agg (plC p),.agg (plC q)] H (.ret (.int .i64 (plCmp p q))) H:=by
 refine Sp aZd (by simp only[sf,lX]) (by simp only[sf]) ?_ H;unfold W157;dsimp only;refine aA fun K hK=>?_;simp only[↓zP,zG,Nat.reduceLT,Nat.reduceEqDiff,zI];apply hK;clear hK K;refine aA fun K hK=>?_;refine aQ (by decide) ?_;simp only[↓zP,zG,Nat.reduceLT,Nat.reduceEqDiff,Nat.reduceAdd,zD,reduceCtorEq,zI,Nat.reduceLeDiff,plC,fS];refine cE (cX p.1.x q.1.x _) ?_;simp only[↓zP,zG,Nat.reduceLT,Nat.reduceEqDiff,Nat.reduceAdd,zD,reduceCtorEq,zI,Nat.reduceLeDiff,fS];refine cE (cX p.1.y q.1.y _) ?_;simp only[↓zP,zG,Nat.reduceLT,Nat.reduceEqDiff,Nat.reduceAdd,zD,reduceCtorEq,zI,Nat.reduceLeDiff,fS];refine cE (cX p.1.z q.1.z _) ?_;simp only[↓zP,zG,Nat.reduceLT,Nat.reduceEqDiff,Nat.reduceAdd,zD,reduceCtorEq,zI];have hor:=aNb [cmpZ p.1.x q.1.x,cmpZ p.1.y q.1.y,cmpZ p.1.z q.1.z] (by simp);simp only[intsE,sm] at hor;refine cE (hor _) ?_;simp only[↓zP,zG,Nat.reduceLT,Nat.reduceEqDiff,Nat.reduceAdd,zD,reduceCtorEq,zI];apply hK;clear hK K;simp only[↓zP];exact⟨rfl,_,by simp only[↓zP,zR];rfl,rfl⟩
end Go.Proofs.YtjiignefffdelaaGreatDoor
