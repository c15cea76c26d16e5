/-
  Parts of the proof of statement 4: KRh, KRi, KRj, KRk
-/
import Derived.Test.YtjiignefffdelaaGreatDoorA39
import Derived.Test.YtjiignefffdelaaGreatDoorA26
import Derived.Test.YtjiignefffdelaaGreatDoorA32
import Derived.Test.YtjiignefffdelaaGreatDoorA31
set_option linter.unusedVariables false
set_option maxRecDepth 100000
set_option maxHeartbeats 16000000
namespace Go.Proofs.YtjiignefffdelaaGreatDoor
open Go Go.Av Go.Geo Go.Num
attribute [local congr] aU aN aO aM aW aR aP aL
attribute [local irreducible] FC FOps FD2
theorem fP {a b:Geo.V} {A B:Nat} (ha:Near A a) (hb:Near B b) (hs:3*(A*B)<2^62) (H:Heap):Sound Tryz.prog gv 163 [.agg (ivC a),.agg (ivC b)] H (.ret (.int .i64 (Geo.dot a b))) H:=by
 obtain⟨a1,a2,a3⟩:=ha;obtain⟨b1,b2,b3⟩:=hb;have m1:=aY a1 b1;have m2:=aY a2 b2;have m3:=aY a3 b3;have w1:=cJ m1 (by omega);have w2:=cJ m2 (by omega);have w3:=cJ m3 (by omega);have w4:IntKind.i64.wrap (a.x*b.x+a.y*b.y)=a.x*b.x+a.y*b.y:=cJ (B:=2*(A*B)) (by omega) (by omega);have w5:IntKind.i64.wrap (a.x*b.x+a.y*b.y+a.z*b.z)=a.x*b.x+a.y*b.y+a.z*b.z:=cJ (B:=3*(A*B)) (by omega) (by omega);refine Sp aZj (by simp only[sf,bA]) (by simp only[sf]) ?_ H;unfold W163;dsimp only;simp only[↓zP,zG,Nat.reduceLT,Nat.reduceEqDiff,Nat.reduceAdd,zI,Nat.reduceLeDiff,ivC,fS,w1,w2,w3,w4,w5];exact⟨rfl,_,by simp only[↓zP,zR];rfl,rfl⟩
theorem sD {a b:Geo.V} {A B:Nat} (ha:Near A a) (hb:Near B b) (hs:A*B<2^61) (H:Heap):Sound Tryz.prog gv 205 [.agg (ivC a),.agg (ivC b)] H (.ret (.agg (ivC (Geo.cross a b)))) H:=by
 obtain⟨a1,a2,a3⟩:=ha;obtain⟨b1,b2,b3⟩:=hb;have w1:=cJ (aY a2 b3) (by omega);have w2:=cJ (aY a3 b2) (by omega);have w3:=cJ (aY a3 b1) (by omega);have w4:=cJ (aY a1 b3) (by omega);have w5:=cJ (aY a1 b2) (by omega);have w6:=cJ (aY a2 b1) (by omega);have w7:=xK (aY a2 b3) (aY a3 b2) hs;have w8:=xK (aY a3 b1) (aY a1 b3) hs;have w9:=xK (aY a1 b2) (aY a2 b1) hs;refine Sp bAd (by simp only[sf,bA]) (by simp only[sf,bA]) ?_ H;unfold W205;dsimp only;simp only[zG,Nat.reduceLT,Nat.reduceEqDiff,Nat.reduceAdd,zI,Nat.reduceLeDiff,ivC,fS,w1,w2,w3,w4,w5,w6,w7,w8,w9];exact⟨rfl,_,by simp only[↓zP,zR,Nat.reduceEqDiff,Nat.reduceAdd];rfl,rfl⟩
def gF (v:Geo.V):Nat→Nat
 |0=>0
 |i+1=>Int.gcd (gF v i) (v.at i)
theorem aXs (v:Geo.V):gF v 3=vgcd v:=by
 rw[←vW];simp only[gF,V.at,Int.gcd,Int.natAbs_natCast,Nat.gcd_zero_left]
theorem aNx {v:Geo.V} {B:Nat} (h:Near B v):∀i,gF v i≤B
 |0=>Nat.zero_le _
 |i+1=>aCe (a:=(gF v i:Int)) (by rw[Int.natAbs_natCast];exact aNx h i) (Near.c h i)
theorem aMk {v:Geo.V}:vgcd v=0↔v=V0:=by
 constructor
 · intro h
   refine Decidable.byContradiction fun hc=>?_;have :=iI hc;omega
 · rintro rfl;rfl
theorem aSu (v:Geo.V) (i:Nat):(prim v).at i=v.at i / (vgcd v:Int):=by
 match i with
 |0=>rfl
 |1=>rfl
 |i+2=>rfl
theorem aQi (v:Geo.V) (i:Nat):(vgcd v:Int)∣v.at i:=by
 match i with
 |0=>exact Int.gcd_dvd_left ..
 |1=>exact Int.dvd_trans (Int.gcd_dvd_right ..) (Int.gcd_dvd_left ..)
 |i+2=>exact Int.dvd_trans (Int.gcd_dvd_right ..) (Int.gcd_dvd_right ..)
def dirC (n:Geo.V) (e:Int):List AV:=[.int .i64 n.x,.int .i64 n.y,.int .i64 n.z,.int .i64 e]
theorem aPg {v:Geo.V} {B:Nat} (hv:Near B v) (hB:B<2^60) (H:Heap):Sound Tryz.prog gv 206 [.agg (c3 fun i=>cI (v.at i))] H (.ret (.agg (dirC (prim v) (if v=V0 then 31 else 0)))) H:=by
 refine Sp bAe (by simp only[sf,dI fun i _=>bK _]) (by simp only[sf,dirC]) ?_ H;unfold W206;dsimp only;have hl:=fun i (hi:i<3)=>gE (c:=fun i=>cI (v.at i)) (fun i _=>bM _) hi;have h54:(c3 fun i=>cI (v.at i)).length=54:=cK fun _ _=>bM _;have o0:=iY (z:=0) (by decide) (by decide);refine aA fun K hK=>?_;simp only[↓zP,zG,Nat.reduceLT,zI];apply hK;clear hK K;refine aA fun K hK=>?_;simp only[↓zP,zI];refine bF (o0 _) ?_;simp only[↓zP,zG,Nat.reduceLT,Nat.reduceEqDiff,Nat.reduceAdd,zI];apply hK;clear hK K;refine aA fun K hK=>?_;simp only[↓zP,zG,Nat.reduceLT];refine bB [] (fun i vs H'=>H'.get 0=some (.cells (c3 fun i=>cI (v.at i)) false)∧H'.get 1=some (.cells [.int .i64 0,.int .i64 0,.int .i64 0,.int .i64 0] false)∧H'.get 2=some (.cells (cI (gF v i)) false)∧H'.next=3) 0 3 (by decide) (by decide) (by decide) ?_ ?_ ?_ ?_ ?_
 · simp only[aC];rfl
 · exact⟨by simp only[zI,Nat.reduceAdd,Nat.reduceEqDiff],by simp only[zI,Nat.reduceAdd,Nat.reduceEqDiff],by simp only[zI,Nat.reduceAdd,Nat.reduceEqDiff];rfl,by simp only[zI,Nat.reduceAdd]⟩
 · rintro i f H1 h0 hi hk e1 ⟨g0,g1,g2,gn⟩
   simp only[↓zP,zG,Nat.reduceLT,zI,e1];exact⟨trivial,trivial,congrArg AV.bool (decide_eq_decide.2 (by omega))⟩
 · rintro i f H1 h0 hi hk e1 ⟨g0,g1,g2,gn⟩
   have f1:f 1=.ref 0 0:=by rw[hk 1 rfl];simp only[aC,ne_eq,Nat.reduceEqDiff,not_false_eq_true]
   have f3:f 3=.ref 2 0:=by rw[hk 3 rfl];simp only[aC,ne_eq,Nat.reduceEqDiff,not_false_eq_true]
   have hb:=aNx hv i;have hvb:=Near.c hv i;have hg:=aGe (a:=(gF v i:Int)) (b:=v.at i) (by rw[Int.natAbs_natCast];omega) (by omega);refine aI ?_;refine aQ (by decide) ?_;simp only[↓zP,zG,Nat.reduceLT,Nat.reduceEqDiff,Nat.reduceAdd,zD,reduceCtorEq,zI,f1,f3,e1,g0,g2,aD,hi,h54,hl i hi,show i*18+18≤54 by omega];refine cE (hg _) ?_;simp only[↓zP,zG,Nat.reduceEqDiff,Nat.reduceAdd,zD,reduceCtorEq,zI,f3,g2];exact⟨g0,g1,rfl,gn⟩
 · rintro f H1 hk ⟨g0,g1,g2,gn⟩
   rw[aXs] at g2
   have f1:f 1=.ref 0 0:=by rw[hk 1 rfl];simp only[aC,ne_eq,Nat.reduceEqDiff,not_false_eq_true]
   have f2:f 2=.ref 1 0:=by rw[hk 2 rfl];simp only[aC,ne_eq,Nat.reduceEqDiff,not_false_eq_true]
   have f3:f 3=.ref 2 0:=by rw[hk 3 rfl];simp only[aC,ne_eq,Nat.reduceEqDiff,not_false_eq_true]
   have hb:=aNx hv 3;rw[aXs] at hb;have hb0:(cI ((vgcd v:Nat):Int)).getD 0 undefA=.bool false:=rfl;have hsg:=aPi (z:=((vgcd v:Nat):Int)) (aNw (by rw[Int.natAbs_natCast];omega));show K f [] H1;apply hK;clear hK K;refine aA fun K hK=>?_;simp only[↓zP,zG,Nat.reduceLT,zI,Nat.reduceLeDiff,f3,g2,hb0];apply hK;clear hK K;refine aA fun K hK=>?_;simp only[↓zP,zG,Nat.reduceLT,Nat.reduceEqDiff,Nat.reduceAdd,zI,f3,g2];refine bF (hsg _) ?_;by_cases hv0:v=V0
   · have hg0:vgcd v=0:=aMk.2 hv0
     have hb1:(sgnZ ((vgcd v:Nat):Int)==0)=true:=by rw[hg0];rfl
     rw[if_pos hv0];simp only[↓zP,zG,Nat.reduceLT,Nat.reduceEqDiff,Nat.reduceAdd,zI,hb1,f2,g1];refine⟨rfl,_,by simp only[↓zP,zR,Nat.reduceEqDiff,Nat.reduceAdd,f2];rfl,?_⟩;subst hv0;rfl
   · have hgp:=iI hv0
     have hb1:(sgnZ ((vgcd v:Nat):Int)==0)=false:=by
      rw[beq_eq_false_iff_ne];unfold sgnZ;rw[if_neg (by omega),if_neg (by omega)];decide
     rw[if_neg hv0];simp only[↓zP,zG,Nat.reduceLT,zI,hb1];apply hK;clear hK K;refine aA fun K hK=>?_;simp only[↓zP,zG,Nat.reduceLT,Nat.reduceEqDiff,Nat.reduceAdd,zI];apply hK;clear hK K;refine aA fun K hK=>?_;have hpn:=gP hv;have hqat:∀i,i<3→(AV.int .i64 ((prim v).at i))=(ivC (prim v)).getD i undefA:=fun i hi=>(dB _ hi).symm;simp only[↓zP,zG,Nat.reduceLT,gn];refine bB [] (fun i vs H'=>H'.get 0=some (.cells (c3 fun i=>cI (v.at i)) false)∧H'.get 1=some (.cells [.int .i64 0,.int .i64 0,.int .i64 0,.int .i64 0] false)∧H'.get 2=some (.cells (cI ((vgcd v:Nat):Int)) false)∧H'.get 3=some (.cells ((ivC (prim v)).take i++[AV.int .i64 0,.int .i64 0,.int .i64 0,.int .i64 0].drop i) false)) 0 3 (by decide) (by decide) (by decide) ?_ ?_ ?_ ?_ ?_
     · simp only[aC];rfl
     · refine⟨?_,?_,?_,?_⟩
       · simp only[zI,Nat.reduceEqDiff,gn];exact g0
       · simp only[zI,Nat.reduceEqDiff,gn];exact g1
       · simp only[zI,Nat.reduceEqDiff,gn];exact g2
       · simp only[zI,gn]
     · rintro i f5 H5 h0 hi hk5 e5 ⟨q0,q1,q2,q3⟩
       simp only[↓zP,zG,Nat.reduceLT,zI,e5];exact⟨trivial,trivial,congrArg AV.bool (decide_eq_decide.2 (by omega))⟩
     · rintro i f5 H5 h0 hi hk5 e5 ⟨q0,q1,q2,q3⟩
       have k1:f5 1=.ref 0 0:=by rw[hk5 1 rfl];simp only[aC,ne_eq,Nat.reduceEqDiff,not_false_eq_true];exact f1
       have k3:f5 3=.ref 2 0:=by rw[hk5 3 rfl];simp only[aC,ne_eq,Nat.reduceEqDiff,not_false_eq_true];exact f3
       have k5:f5 5=.ref 3 0:=by rw[hk5 5 rfl];simp only[aC,ne_eq,Nat.reduceEqDiff,not_false_eq_true]
       have hvb:=Near.c hv i;have hq:=aGf (n:=v.at i) (m:=((vgcd v:Nat):Int)) (by omega) (aQi v i) (by omega) (by rw[Int.natAbs_natCast];omega);rw[←aSu] at hq;have hpb:=Near.c hpn i;have hsm:=yH (z:=(prim v).at i) (by omega) (by omega);refine aI ?_;refine aA fun K2 hK2=>?_;refine aQ (by decide) ?_;simp only[↓zP,zG,Nat.reduceLT,Nat.reduceEqDiff,Nat.reduceAdd,zD,reduceCtorEq,zI,k1,k3,e5,q0,q2,aD,hi,h54,hl i hi,show i*18+18≤54 by omega];refine cE (hq _) ?_;simp only[Nat.reduceAdd];refine cE (hsm _) ?_;simp only[↓zP,zG,Nat.reduceLT,Nat.reduceEqDiff,Nat.reduceAdd,zD,reduceCtorEq,zI];apply hK2;clear hK2 K2
       match i,hi with
       |0,_=>
        simp only[↓zP,zG,Nat.reduceLT,Nat.reduceEqDiff,Nat.reduceAdd,zI,Nat.reduceLeDiff,k5,e5,aD,q3,ivC];exact⟨q0,q1,q2,rfl⟩
       |1,_=>
        simp only[↓zP,zG,Nat.reduceLT,Nat.reduceEqDiff,Nat.reduceAdd,zI,Nat.reduceLeDiff,k5,e5,aD,q3,ivC];exact⟨q0,q1,q2,rfl⟩
       |2,_=>
        simp only[↓zP,zG,Nat.reduceLT,Nat.reduceEqDiff,Nat.reduceAdd,zI,Nat.reduceLeDiff,Nat.reduceMul,k5,e5,aD,q3,ivC];exact⟨q0,q1,q2,rfl⟩
     · rintro f5 H5 hk5 ⟨q0,q1,q2,q3⟩
       have k2:f5 2=.ref 1 0:=by rw[hk5 2 rfl];simp only[aC,ne_eq,Nat.reduceEqDiff,not_false_eq_true];exact f2
       have k5:f5 5=.ref 3 0:=by rw[hk5 5 rfl];simp only[aC,ne_eq,Nat.reduceEqDiff,not_false_eq_true]
       have hsm:=aGp hpn (by omega);have e3:(ivC (prim v)).take 3++[AV.int .i64 0,.int .i64 0,.int .i64 0,.int .i64 0].drop 3=dirC (prim v) 0:=rfl;rw[e3] at q3;have d3:(dirC (prim v) 0).take 3=ivC (prim v):=rfl;have d4:(dirC (prim v) 0).length=4:=rfl;show K f5 [] H5;apply hK;clear hK K;refine aA fun K hK=>?_;simp only[↓zP,zG,Nat.reduceLT,Nat.reduceEqDiff,zI,Nat.reduceLeDiff,k5,q3,d3,d4];refine bF (hsm _) ?_;simp only[↓zP,zG,Nat.reduceLT];apply hK;clear hK K;simp only[↓zP,zG,Nat.reduceLT,Nat.reduceEqDiff,Nat.reduceAdd,zI,k5,k2,q3,q1,d4,oL d4];refine⟨rfl,_,by simp only[↓zP,zR,Nat.reduceEqDiff,k2,oL d4];rfl,?_⟩
       first|rfl|(rw[if_neg hv0];rfl)
theorem aGn {a b c:Geo.V} {M:Nat} (ha:Near M a) (hb:Near M b) (hc:Near M c) (hM:M≤2^18) (H:Heap):Sound Tryz.prog gv 162 [.agg (ivC a),.agg (ivC b),.agg (ivC c)] H (.ret (.agg (ivC (prim (Geo.cross (Geo.sub b a) (Geo.sub c a)))))) H:=by
 have hu:=cH hb ha;have hw:=cH hc ha;have hn:=dJ hu hw;have hMM:(M+M)*(M+M)≤2^19*2^19:=Nat.mul_le_mul (by omega) (by omega);refine Sp aZi (by simp only[sf,bA]) (by simp only[sf,bA]) ?_ H;unfold W162;dsimp only;refine aA fun K hK=>?_;simp only[↓zP,zG,Nat.reduceLT,Nat.reduceEqDiff,Nat.reduceAdd,zI];apply hK;clear hK K;refine aA fun K hK=>?_;refine eY 1 (by decide) (by simp only[freeAt,Nat.reduceEqDiff,Nat.reduceAdd,zI,Option.isNone_none,Bool.and_self]) fun H1 n1 e1=>?_;simp only[zI,Nat.reduceAdd] at n1 e1;simp only[↓zP,zG,Nat.reduceLT,Nat.reduceEqDiff,Nat.reduceAdd,zD,reduceCtorEq,zI,e1,oL (aG a),oL (aG b)];refine cE (jK hb ha (by omega) _) ?_;simp only[↓zP,zG,Nat.reduceLT,Nat.reduceEqDiff,Nat.reduceAdd,zD,reduceCtorEq,zI,e1,oL (aG a),oL (aG c)];refine cE (jK hc ha (by omega) _) ?_;simp only[Nat.reduceAdd];refine cE (sD hu hw (by omega) _) ?_;generalize hN:Geo.cross (Geo.sub b a) (Geo.sub c a)=N at *;simp only[↓zP,zG,Nat.reduceLT,Nat.reduceEqDiff,Nat.reduceAdd,zD,reduceCtorEq,zI,n1,e1,oL (aG N)];apply hK;clear hK K;generalize hB:2*((M+M)*(M+M))=B at *;generalize hX:(H1.set 4 _).set 4 _=H2
 have g3:H2.get 3=some (.cells [.int .i64 0,.int .i64 0,.int .i64 0] false):=by subst hX;simp only[Nat.reduceEqDiff,zI,e1]
 have g4:H2.get 4=some (.cells (ivC N) false):=by subst hX;simp only[Nat.reduceEqDiff,zI,e1]
 have gn:H2.next=5:=by subst hX;simp only[Heap.aS];exact n1
 clear hX e1 n1
 have iN:∀i,I64 (N.at i):=fun i=>by have :=Near.c hn i;unfold I64;omega
 have hp:=aPg hn (by omega);refine aA fun K hK=>?_;simp only[↓zP,zG,Nat.reduceLT,Nat.reduceEqDiff,zI,g4,oL (aG N)];refine bF (lZ iN _) ?_;refine bF (hp _) ?_;have d4:∀e,(dirC (prim N) e).length=4:=fun _=>rfl;have d3:∀e,(dirC (prim N) e).take 3=ivC (prim N):=fun _=>rfl;simp only[↓zP,zG,Nat.reduceLT,Nat.reduceEqDiff,Nat.reduceAdd,zI,oL (d4 _),gn];apply hK;clear hK K;simp only[↓zP,zG,Nat.reduceLT,Nat.reduceEqDiff,Nat.reduceAdd,zI,Nat.reduceLeDiff,oL (d4 _),d3,g3,gn,oL (aG (prim N))];refine⟨rfl,_,by simp only[↓zP,zR,Nat.reduceEqDiff,oL (aG (prim N)),g3,gn];rfl,?_⟩;rfl
theorem nB {α:Type} {f g:α→Bool}:∀{l:List α},(∀x∈l,f x=g x)→l.any f=l.any g
 |[],_=>rfl
 |x::l,h=>by rw[List.any_cons,List.any_cons,h x List.mem_cons_self,nB fun y hy=>h y (List.mem_cons_of_mem _ hy)]
theorem aLw {l:List Geo.V} {M B:Nat} (hl:∀v∈l,Near M v) (hlen:l.length<2^30) {n:Geo.V} {d:Int} (hq:Near B n) (hs:3*(B*M)<2^62) (H:Heap):
 Sound Tryz.prog gv 165 [.aT 0 3 (ivE l),.agg (ivC n),.int .i64 d] H (.ret (.bool (outB l (n,d)))) H:=by
 have ht0:Nat.blt 0 2=true:=rfl;refine Sp aZl (by simp only[sf,bG ht0,bA]) (by simp only[sf]) ?_ H;unfold W165;dsimp only;simp only[↓zP,zG,Nat.reduceLT,zI];refine bB [7] (fun i vs H'=>H'=((⟨0,.nil⟩:Heap).alloc (.cells (ivC n) false))∧vs=[.bool ((l.take i).any fun v=>decide (Geo.dot n v<d))]∧∀v∈l.take i,Geo.dot n v≤d) 0 l.length (Nat.zero_le _) (by omega) (by decide) ?_ ?_ ?_ ?_ ?_
 · simp only[aC];rfl
 · exact⟨rfl,by simp only[sm,aC,Nat.reduceEqDiff];rfl,fun v hv=>by simp at hv⟩
 · rintro i f H1 h0 hi hk e1 ⟨rfl,hv,hle⟩
   have f0:f 0=.aT 0 3 (ivE l):=by rw[hk 0 rfl];simp only[aC,ne_eq,Nat.reduceEqDiff,not_false_eq_true,startF,List.getD_cons_zero]
   simp only[↓zP,zG,Nat.reduceLT,Nat.reduceEqDiff,zI,e1,f0,aJ];exact⟨trivial,trivial,congrArg AV.bool (decide_eq_decide.2 (by omega))⟩
 · rintro i f H1 h0 hi hk e1 ⟨rfl,hv,hle⟩
   simp only[sm,List.cons.injEq,and_true] at hv
   have f0:f 0=.aT 0 3 (ivE l):=by rw[hk 0 rfl];simp only[aC,ne_eq,Nat.reduceEqDiff,not_false_eq_true,startF,List.getD_cons_zero]
   have f2:f 2=.int .i64 d:=by rw[hk 2 rfl];simp only[aC,ne_eq,Nat.reduceEqDiff,not_false_eq_true,startF,List.getD_cons_zero,List.getD_cons_succ]
   have f4:f 4=.ref 0 0:=by rw[hk 4 rfl];simp only[aC,ne_eq,Nat.reduceEqDiff,not_false_eq_true]
   have hg:=bC hi;have hm:=List.getElem_mem hi;have hd:=fP hq (hl _ hm) hs
   have hany:(l.take (i+1)).any (fun v=>decide (Geo.dot n v<d))=((l.take i).any (fun v=>decide (Geo.dot n v<d))||decide (Geo.dot n l[i]<d)):=by
    rw[List.take_add_one,List.any_append];simp[hi]
   have hx:∀v,v∈l.take (i+1)→v∈l.take i∨v=l[i]:=fun v hv=>by
    rw[List.take_add_one,List.mem_append] at hv
    rcases hv with h|h
    · exact .inl h
    · simp[hi] at h;exact .inr h
   have hout:Geo.dot n l[i]>d→outB l (n,d)=false:=fun h=>by
    unfold outB
    have :l.all (fun v=>decide (Geo.dot n v≤d))=false:=by
     rw[List.all_eq_false];exact⟨l[i],hm,by simp;omega⟩
    rw[this];rfl
   generalize (l.take i).any (fun v=>decide (Geo.dot n v<d))=b at *;generalize l[i]=x at *;rw[hany];refine aI ?_;refine aA fun K hK=>?_;refine aQ (by decide) ?_;simp only[↓zP,zG,Nat.reduceLT,Nat.reduceEqDiff,Nat.reduceAdd,zD,reduceCtorEq,zI,f0,f4,e1,aD,aJ,hi,hg,oL (aG n),oL (aG x)];refine cE (hd _) ?_;simp only[↓zP,zG,Nat.reduceLT,Nat.reduceAdd,zD,reduceCtorEq,zI];apply hK;clear hK K;by_cases c:Geo.dot n x>d
   · have c1:=decide_eq_true c
     simp only[↓zP,zG,Nat.reduceLT,Nat.reduceEqDiff,zI,f2,c1];refine⟨rfl,_,by simp only[↓zP,zR];rfl,?_⟩;rw[hout c];rfl
   · have c1:=decide_eq_false c
     have hle':∀v∈l.take (i+1),Geo.dot n v≤d:=fun v hv=>by
      rcases hx v hv with h|rfl
      · exact hle v h
      · omega
     cases b with
     |true=>
      simp only[↓zP,zG,Nat.reduceLT,Nat.reduceEqDiff,zI,f2,c1,hv,Bool.true_or];exact⟨trivial,trivial,hle'⟩
     |false=>
      simp only[↓zP,zG,Nat.reduceLT,Nat.reduceEqDiff,zI,f2,c1,hv,Bool.false_or];exact⟨trivial,trivial,hle'⟩
 · rintro f H1 hk ⟨rfl,hv,hle⟩
   simp only[sm,List.cons.injEq,and_true] at hv;rw[List.take_length] at hv hle
   have :outB l (n,d)=l.any fun v=>decide (Geo.dot n v<d):=by
    unfold outB
    have h1:l.all (fun v=>decide (Geo.dot n v≤d))=true:=by
     rw[List.all_eq_true];exact fun v hv=>decide_eq_true (hle v hv)
    rw[h1,Bool.true_and,List.not_all_eq_any_not];refine nB fun v hv=>?_;have :=hle v hv;rw[Bool.eq_iff_iff,Bool.not_eq_true',beq_eq_false_iff_ne,decide_eq_true_eq];show Geo.dot n v≠d↔_;omega
   rw[this];simp only[↓zP,hv];refine⟨rfl,_,by simp only[↓zP,zR];rfl,?_⟩;rfl
theorem aDe (tag:Nat) {l:List Geo.V} {M B:Nat} (hl:∀v∈l,Near M v) (hlen:l.length<2^30) {n:Geo.V} {d:Int} (hq:Near B n) (hs:3*(B*M)<2^62) (H:Heap):
 Sound Tryz.prog gv 165 [.aT tag 3 (ivE l),.agg (ivC n),.int .i64 d] H (.ret (.bool (outB l (n,d)))) H:=(aLw hl hlen hq hs H).oO tag
theorem dY (u v:Geo.V):eqFlat [.i,.i,.i] (ivC u) (ivC v)=some (decide (u=v)):=by
 obtain⟨a,b,c⟩:=u;obtain⟨a',b',c'⟩:=v;simp only[ivC,eqFlat,if_true,Option.map_some,V.mk.injEq,Bool.and_true];congr 1;rw[Bool.eq_iff_iff];simp
def facR (L:Geo.V×Int→List Nat) (S:List (Geo.V×Int)):AV:=rowO 5 (S.map (facC L))
theorem cZ (L:Geo.V×Int→List Nat) (S:List (Geo.V×Int)):(S=[]∧facR L S=.nilsl)∨(S≠[]∧facR L S=.aT 0 5 (S.map (facC L))):=by
 unfold facR rowO;by_cases h:S=[]
 · exact .inl ⟨h,by rw[if_pos (by simp[h])]⟩
 · exact .inr ⟨h,by rw[if_neg (by simpa using h)]⟩
theorem rE (L:Geo.V×Int→List Nat) (S:List (Geo.V×Int)):(facR L S).free=true:=aLz (bR (fK L) S)
theorem aLy (L:Geo.V×Int→List Nat) (S:List (Geo.V×Int)) (hlen:S.length<2^30) (n:Geo.V) (H:Heap):
 Sound Tryz.prog gv 164 [facR L S,.agg (ivC n)] H (.ret (.bool (S.any fun q=>decide (q.1=n)))) H:=by
 refine Sp aZk (by simp only[sf,rE,bA]) (by simp only[sf]) ?_ H;unfold W164;dsimp only;simp only[↓zP,zG,Nat.reduceLT,zI];refine bB [] (fun i vs H'=>H'=((⟨0,.nil⟩:Heap).alloc (.cells (ivC n) false))∧∀q∈S.take i,q.1≠n) 0 S.length (Nat.zero_le _) (by omega) (by decide) ?_ ?_ ?_ ?_ ?_
 · simp only[aC];rfl
 · exact⟨rfl,fun v hv=>by simp at hv⟩
 · rintro i f H1 h0 hi hk e1 ⟨rfl,hne⟩
   have f0:f 0=facR L S:=by rw[hk 0 rfl];simp only[aC,ne_eq,Nat.reduceEqDiff,not_false_eq_true,startF,List.getD_cons_zero]
   rcases cZ L S with ⟨h,e⟩|⟨h,e⟩
   · rw[e] at f0
     subst h;simp only[↓zP,zG,Nat.reduceLT,Nat.reduceEqDiff,zI,e1,f0];exact⟨trivial,trivial,congrArg AV.bool (decide_eq_decide.2 (by simp at hi;simp[hi]))⟩
   · rw[e] at f0
     simp only[↓zP,zG,Nat.reduceLT,Nat.reduceEqDiff,zI,e1,f0,List.length_map];exact⟨trivial,trivial,congrArg AV.bool (decide_eq_decide.2 (by omega))⟩
 · rintro i f H1 h0 hi hk e1 ⟨rfl,hne⟩
   have f0:f 0=.aT 0 5 (S.map (facC L)):=by
    rw[hk 0 rfl];simp only[aC,ne_eq,Nat.reduceEqDiff,not_false_eq_true,startF,List.getD_cons_zero]
    rcases cZ L S with ⟨h,e⟩|⟨h,e⟩
    · rw[h] at hi;exact absurd hi (Nat.not_lt_zero _)
    · exact e
   have f3:f 3=.ref 0 0:=by rw[hk 3 rfl];simp only[aC,ne_eq,Nat.reduceEqDiff,not_false_eq_true]
   have hg:(S.map (facC L)).getD i []=facC L S[i]:=bU hi;have d3:(facC L S[i]).take 3=ivC S[i].1:=rfl;have d5:(facC L S[i]).length=5:=rfl;refine aI ?_;refine aA fun K hK=>?_;refine aQ (by decide) ?_;simp only[↓zP,zG,Nat.reduceLT,Nat.reduceEqDiff,Nat.reduceAdd,zD,reduceCtorEq,zI,Nat.reduceLeDiff,f0,f3,e1,aD,List.length_map,hi,hg,d3,d5,oL (aG n),dY];apply hK;clear hK K;by_cases c:S[i].1=n
   · have c1:=decide_eq_true c
     simp only[↓zP,zG,Nat.reduceLT,c1];refine⟨rfl,_,by simp only[↓zP,zR];rfl,?_⟩;have :S.any (fun q=>decide (q.1=n))=true:=List.any_eq_true.2 ⟨S[i],List.getElem_mem hi,c1⟩;rw[this];rfl
   · have c1:=decide_eq_false c
     simp only[↓zP,zG,c1];refine⟨trivial,fun q hq=>?_⟩;rw[List.take_add_one,List.mem_append] at hq
     rcases hq with h|h
     · exact hne q h
     · simp[hi] at h;subst h;exact c
 · rintro f H1 hk ⟨rfl,hne⟩
   rw[List.take_length] at hne
   have :S.any (fun q=>decide (q.1=n))=false:=by
    rw[List.any_eq_false]
    exact fun q hq=>by simpa using hne q hq
   rw[this];simp only[↓zP];refine⟨rfl,_,by simp only[↓zP,zR];rfl,?_⟩;rfl
def insS (q:Geo.V×Int):List (Geo.V×Int)→List (Geo.V×Int)
 |[]=>[q]
 |s::r=>if vltB q.1 s.1 then q::s::r else s::insS q r
theorem zX {q:Geo.V×Int}:∀{S:List (Geo.V×Int)} {i:Nat},(∀s∈S.take i,vltB q.1 s.1=false)→insS q S=S.take i++insS q (S.drop i)
 |[],i,_=>by simp
 |s::r,0,_=>by simp
 |s::r,i+1,h=>by
  have h1:=h s (by simp);have ih:=zX (q:=q) (S:=r) (i:=i) fun x hx=>h x (by simp[hx]);simp only[insS,h1,List.take_succ_cons,List.drop_succ_cons,List.cons_append];rw[←ih];rfl
theorem uE (q:Geo.V×Int):∀S:List (Geo.V×Int),(insS q S).length=S.length+1
 |[]=>rfl
 |s::r=>by
  unfold insS;split
  · rfl
  · rw[List.length_cons,uE q r];rfl
theorem aNs (L:Geo.V×Int→List Nat) (q:Geo.V×Int):(facC L q).length=5:=rfl
theorem aGk (L:Geo.V×Int→List Nat) (S:List (Geo.V×Int)) (hlen:S.length<2^20) (q:Geo.V×Int) (H:Heap):
 Sound Tryz.prog gv 166 [facR L S,.agg (facC L q)] H (.ret (.aT (H.next+2) 5 ((insS q S).map (facC L)))) (H.alloc .tok):=by
 have hne:insS q S≠[]:=fun h=>by have :=uE q S;rw[h] at this;simp at this
 refine mG bW (by simp only[sf,rE,fK]) (by simpa using hne) (bR (fK L) _) ?_ H;refine cV fit aZm (Nat.le_of_ble_eq_true rfl) ?_;unfold W166;dsimp only;have q3:(facC L q).take 3=ivC q.1:=rfl;have q5:=aNs L q;simp only[↓zP,zG,Nat.reduceLT,Nat.reduceEqDiff,zI];refine bB [5,6] (fun i vs H'=>∃v X put,vs=[v,.bool put]∧H'.get 0=some (.cells (facC L q) false)∧1≤H'.next∧Own H' 5 v (X.map (facC L))∧X.length≤i+1∧(if put then X++S.drop i=insS q S else X=S.take i∧∀s∈S.take i,vltB q.1 s.1=false)) 0 S.length (Nat.zero_le _) (by omega) (by decide) ?_ ?_ ?_ ?_ ?_
 · simp only[aC];rfl
 · exact⟨.nilsl,[],false,by simp only[sm,aC,Nat.reduceEqDiff],by simp only[zI],by simp only[zI,Nat.reduceLeDiff],.nil _ _,by simp,by simp⟩
 · rintro i f H1 h0 hi hk e1 ⟨v,X,put,hv,g0,gn,ho,hX,hp⟩
   have f0:f 0=facR L S:=by rw[hk 0 rfl];simp only[aC,ne_eq,Nat.reduceEqDiff,not_false_eq_true,startF,List.getD_cons_zero]
   rcases cZ L S with ⟨h,e⟩|⟨h,e⟩
   · rw[e] at f0
     subst h;simp only[↓zP,zG,Nat.reduceLT,Nat.reduceEqDiff,zI,e1,f0];exact⟨trivial,trivial,congrArg AV.bool (decide_eq_decide.2 (by simp at hi;simp[hi]))⟩
   · rw[e] at f0
     simp only[↓zP,zG,Nat.reduceLT,Nat.reduceEqDiff,zI,e1,f0,List.length_map];exact⟨trivial,trivial,congrArg AV.bool (decide_eq_decide.2 (by omega))⟩
 · rintro i f H1 h0 hi hk e1 ⟨v,X,put,hv,g0,gn,ho,hX,hp⟩
   simp only[sm,List.cons.injEq,and_true] at hv
   have f0:f 0=.aT 0 5 (S.map (facC L)):=by
    rw[hk 0 rfl];simp only[aC,ne_eq,Nat.reduceEqDiff,not_false_eq_true,startF,List.getD_cons_zero]
    rcases cZ L S with ⟨h,e⟩|⟨h,e⟩
    · rw[h] at hi;exact absurd hi (Nat.not_lt_zero _)
    · exact e
   have f3:f 3=.ref 0 0:=by rw[hk 3 rfl];simp only[aC,ne_eq,Nat.reduceEqDiff,not_false_eq_true]
   have hg:(S.map (facC L)).getD i []=facC L S[i]:=bU hi;have d3:(facC L S[i]).take 3=ivC S[i].1:=rfl;have d5:(facC L S[i]).length=5:=rfl;have hls:=yJ q.1 S[i].1;have hdr:S.drop i=S[i]::S.drop (i+1):=List.drop_eq_getElem_cons hi
   have htk:S.take (i+1)=S.take i++[S[i]]:=by rw[List.take_add_one];simp[hi]
   rw[hdr] at hp;rw[htk]
   have hnp:(∀s∈S.take i,vltB q.1 s.1=false)→insS q S=S.take i++insS q (S[i]::S.drop (i+1)):=fun h=>by
    have :=zX h
    rwa [hdr] at this
   generalize S[i]=s at *;generalize hT:S.take i=T at *;generalize S.drop (i+1)=D at *
   have push:∀(HA:Heap) (w:AV) (Y:List (Geo.V×Int)) (x:Geo.V×Int),Own HA 5 w (Y.map (facC L))→Y.length<2^21→HA.get 0=some (.cells (facC L q) false)→1≤HA.next→
    ∃H5,appendA HA 5 56 false w [facC L x]=some (.aT (HA.next+2) 5 ((Y++[x]).map (facC L)),H5)∧H5.get 0=some (.cells (facC L q) false)∧1≤H5.next∧Own H5 5 (.aT (HA.next+2) 5 ((Y++[x]).map (facC L))) ((Y++[x]).map (facC L)):=fun HA w Y x ho hY h0 h1=>by
    obtain⟨H5,z1,z2,z3,z4,z5⟩:=Has.push (.inr ho) (ys:=[facC L x]) (bytes:=56) rfl (by simp only[List.length_map,List.length_cons,List.length_nil];omega);refine⟨H5,by rw[z1,List.map_append];rfl,(z4 0 (by omega) (by rw[h0];simp)).trans h0,by omega,.inr ⟨HA.next,rfl,by omega,z3⟩⟩
   refine aI ?_;refine aA fun K hK=>?_;refine aQ (by decide) ?_;simp only[↓zP,zG,Nat.reduceLT,Nat.reduceEqDiff,Nat.reduceAdd,zD,reduceCtorEq,zI,Nat.reduceLeDiff,f0,f3,e1,g0,aD,List.length_map,hi,hg,d3,d5,q3,q5];refine cE (hls _) ?_;simp only[↓zP,zG,Nat.reduceLT,Nat.reduceAdd,zD,reduceCtorEq,zI];apply hK;clear hK K;refine aA fun K hK=>?_
   have key:∀(f':Slt) (HA:Heap) (w:AV) (Y:List (Geo.V×Int)) (put':Bool),f' 5=w→f' 6=.bool put'→f' 0=.aT 0 5 (S.map (facC L))→f' 7=.int .i64 i→HA.get 0=some (.cells (facC L q) false)→1≤HA.next→Own HA 5 w (Y.map (facC L))→Y.length≤i+1→
    (if put' then Y++s::D=insS q S else Y=T∧∀s'∈T++[s],vltB q.1 s'.1=false)→K f' [] HA:=by
    intro f' HA w Y put' v5 v6 v0 v7 h0 h1 hY hYl hcond;apply hK;clear hK K;obtain⟨H5,z1,z2,z3,z4⟩:=push HA w Y s hY (by omega) h0 h1;simp only[↓zP,zG,Nat.reduceLT,Nat.reduceEqDiff,zI,v5,v0,v7,aD,List.length_map,hi,hg,d5,oL d5];rw[show ∀(h:Heap) (x:List AV),elemsOf h 5 (.aT 1 5 [x])=some [x] from fun _ _=>rfl];simp only[z1,aZ,v6];refine⟨_,Y++[s],put',rfl,z2,z3,z4,by simp;omega,?_⟩
    cases put' with
    |true=>
     simp only[if_true] at hcond ⊢;rw[←hcond];simp
    |false=>
     simp only[Bool.false_eq_true,if_false] at hcond ⊢;rw[hcond.1];exact⟨rfl,hcond.2⟩
   clear hK
   cases put with
   |true=>
    simp only[if_true] at hp;simp only[↓zP,zG,Nat.reduceLT,Nat.reduceEqDiff,zI,hv];exact key _ H1 v X true (by simp only[aC,ne_eq,Nat.reduceEqDiff,not_false_eq_true];exact hv.1) (by simp only[aC,ne_eq,Nat.reduceEqDiff,not_false_eq_true];exact hv.2) (by simp only[aC,ne_eq,Nat.reduceEqDiff,not_false_eq_true];exact f0) (by simp only[aC,ne_eq,Nat.reduceEqDiff,not_false_eq_true];exact e1) g0 gn ho hX (by simpa using hp)
   |false=>
    simp only[Bool.false_eq_true,if_false] at hp;obtain⟨rfl,hall⟩:=hp
    cases hb:vltB q.1 s.1 with
    |false=>
     simp only[↓zP,zG,Nat.reduceLT,Nat.reduceEqDiff,zI,hv];refine key _ H1 v X false (by simp only[aC,ne_eq,Nat.reduceEqDiff,not_false_eq_true];exact hv.1) (by simp only[aC,ne_eq,Nat.reduceEqDiff,not_false_eq_true];exact hv.2) (by simp only[aC,ne_eq,Nat.reduceEqDiff,not_false_eq_true];exact f0) (by simp only[aC,ne_eq,Nat.reduceEqDiff,not_false_eq_true];exact e1) g0 gn ho hX ?_;simp only[Bool.false_eq_true,if_false];refine⟨trivial,fun s' hs'=>?_⟩
     rcases List.mem_append.1 hs' with h|h
     · exact hall s' h
     · rw[List.mem_singleton] at h;subst h;exact hb
    |true=>
     obtain⟨H5,z1,z2,z3,z4⟩:=push H1 v X q ho (by omega) g0 gn;simp only[↓zP,zG,Nat.reduceLT,Nat.reduceEqDiff,zI,hv,f3,g0,q5,oL q5];rw[show ∀(h:Heap) (x:List AV),elemsOf h 5 (.aT 1 5 [x])=some [x] from fun _ _=>rfl];simp only[z1,aZ]
     have hXl:X.length=i:=by rw[←hT];simp;omega
     refine key _ H5 _ (X++[q]) true (by simp only[aC,ne_eq,Nat.reduceEqDiff,not_false_eq_true]) (by simp only[aC]) (by simp only[aC,ne_eq,Nat.reduceEqDiff,not_false_eq_true];exact f0) (by simp only[aC,ne_eq,Nat.reduceEqDiff,not_false_eq_true];exact e1) z2 z3 z4 (by simp[hXl]) ?_;simp only[if_true];rw[hnp hall,insS,if_pos hb];simp
 · rintro f H1 hk ⟨v,X,put,hv,g0,gn,ho,hX,hp⟩
   simp only[sm,List.cons.injEq,and_true] at hv
   have f3:f 3=.ref 0 0:=by rw[hk 3 rfl];simp only[aC,ne_eq,Nat.reduceEqDiff,not_false_eq_true]
   cases put with
   |true=>
    simp only[if_true] at hp;rw[List.drop_length,List.append_nil] at hp;simp only[↓zP,zG,zI,hv];refine⟨rfl,_,by simp only[↓zP,zR];rfl,?_⟩;exact⟨v,rfl,hp▸ho⟩
   |false=>
    simp only[Bool.false_eq_true,if_false] at hp;obtain⟨rfl,hall⟩:=hp;obtain⟨H5,z1,z2,z3,z4,z5⟩:=Has.push (.inr ho) (ys:=[facC L q]) (bytes:=56) rfl (by simp only[List.length_map,List.length_cons,List.length_nil];omega);simp only[↓zP,zG,zI,hv,f3,g0,q5,oL q5];rw[show ∀(h:Heap) (x:List AV),elemsOf h 5 (.aT 1 5 [x])=some [x] from fun _ _=>rfl];simp only[z1,aZ];refine⟨rfl,_,by simp only[↓zP,zR];rfl,?_⟩;refine⟨_,rfl,?_⟩;rw[zX hall,List.drop_length];rw[show S.take S.length++insS q []=S.take S.length++[q] from rfl,List.map_append];exact .inr ⟨H1.next,rfl,by omega,z3⟩
theorem eD (b:Bool) (A B:Prop):guardK undefA b A B=B:=rfl
theorem aDj (x:Int) (H:Heap):Sound Tryz.prog gv 279 [.int .i64 x] H (.ret (.int .i64 (sgn x))) H:=by
 refine Sp bBe (by simp only[sf]) (by simp only[sf]) ?_ H;unfold W279;dsimp only;unfold sgn;by_cases h:x<0
 · have d1:=decide_eq_true h
   simp only[↓zP,zG,Nat.reduceLT,Nat.reduceEqDiff,zI,d1];refine⟨rfl,_,by simp only[↓zP,zR];rfl,?_⟩;rw[if_pos h];rfl
 · have d1:=decide_eq_false h
   by_cases h2:x>0
   · have d2:=decide_eq_true h2
     simp only[↓zP,zG,Nat.reduceLT,Nat.reduceEqDiff,zI,d1,d2];refine⟨rfl,_,by simp only[↓zP,zR];rfl,?_⟩;rw[if_neg h,if_pos h2];rfl
   · have d2:=decide_eq_false h2
     simp only[↓zP,zG,Nat.reduceLT,Nat.reduceEqDiff,zI,d1,d2];refine⟨rfl,_,by simp only[↓zP,zR];rfl,?_⟩;rw[if_neg h,if_neg h2];rfl
theorem aPn (n c:Geo.V) (H:Heap):Sound Tryz.prog gv 242 [.agg (ivC n),.agg (ivC c)] H (.ret (.int .i64 (Geo.turn n c))) H:=by
 refine Sp bAv (by simp only[sf,bA]) (by simp only[sf]) ?_ H;unfold W242;dsimp only;simp only[↓zP,zG,Nat.reduceLT,Nat.reduceEqDiff,zI];refine bB [] (fun i vs H'=>H'=((⟨0,.nil⟩:Heap).alloc (.cells (ivC n) false)).alloc (.cells (ivC c) false)∧∀k,k<i→n.at k=0) 0 3 (by decide) (by decide) (by decide) ?_ ?_ ?_ ?_ ?_
 · simp only[aC];rfl
 · exact⟨rfl,fun k hk=>absurd hk (Nat.not_lt_zero _)⟩
 · rintro i f H1 h0 hi hk e1 ⟨rfl,hz⟩
   simp only[↓zP,zG,Nat.reduceLT,zI,e1];exact⟨trivial,trivial,congrArg AV.bool (decide_eq_decide.2 (by omega))⟩
 · rintro i f H1 h0 hi hk e1 ⟨rfl,hz⟩
   have f2:f 2=.ref 0 0:=by rw[hk 2 rfl];simp only[aC,ne_eq,Nat.reduceEqDiff,not_false_eq_true]
   have f3:f 3=.ref 1 0:=by rw[hk 3 rfl];simp only[aC,ne_eq,Nat.reduceEqDiff,not_false_eq_true]
   have hi3:i+1≤3:=by omega
   refine aI ?_;by_cases hn:n.at i=0
   · have hb:(n.at i != 0)=false:=by simp[hn]
     simp only[↓zP,zG,Nat.reduceLT,Nat.reduceEqDiff,zI,e1,f2,aD,hi,aG,dB n hi,hi3,hb];refine⟨trivial,fun k hk=>?_⟩;by_cases hki:k=i
     · subst hki;exact hn
     · exact hz k (by omega)
   · have hb:(n.at i != 0)=true:=by simp[hn]
     have w:IntKind.i64.wrap (sgn (n.at i)*sgn (c.at i))=sgn (n.at i)*sgn (c.at i):=cJ (B:=1*1) (by
      rw[Int.natAbs_mul];exact Nat.mul_le_mul (tB _) (tB _)) (by decide)
     simp only[↓zP,zG,Nat.reduceLT,Nat.reduceEqDiff,zI,e1,f2,aD,hi,aG,dB n hi,hi3,hb];refine aQ (by decide) ?_;simp only[↓zP,zG,Nat.reduceLT,Nat.reduceEqDiff,Nat.reduceAdd,zD,reduceCtorEq,zI,e1,f2,aD,hi,aG,dB n hi,hi3];refine cE (aDj (n.at i) _) ?_;simp only[↓zP,zG,Nat.reduceLT,Nat.reduceEqDiff,Nat.reduceAdd,zD,reduceCtorEq,zI,e1,f3,aD,hi,aG,dB c hi,hi3];refine cE (aDj (c.at i) _) ?_;simp only[↓zP,zG,Nat.reduceLT,Nat.reduceEqDiff,Nat.reduceAdd,zD,reduceCtorEq,zI,w];refine⟨rfl,_,by simp only[↓zP,zR];rfl,?_⟩;rw[aIw n c hi hz hn,Int.mul_comm];rfl
 · rintro f H1 hk ⟨rfl,hz⟩
   simp only[↓zP];refine⟨rfl,_,by simp only[↓zP,zR];rfl,?_⟩;rw[yN n c hz];rfl
def okV (n a b x:Geo.V):Bool:= !(decide (Geo.turn n (Geo.cross (Geo.sub b a) (Geo.sub x a))<0)||(decide (Geo.turn n (Geo.cross (Geo.sub b a) (Geo.sub x a))=0)&&(decide (Geo.dot (Geo.sub x a) (Geo.sub b a)<0)||decide (Geo.dot (Geo.sub x a) (Geo.sub b a)>Geo.dot (Geo.sub b a) (Geo.sub b a)))))
def sideV (l:List Geo.V) (n:Geo.V) (d:Int) (a b:Geo.V):Bool:=l.all fun x=> !decide (Geo.dot n x=d)||okV n a b x
theorem aXe {l:List Geo.V} {M B:Nat} (hl:∀v∈l,Near M v) (hM:M≤2^18) (hlen:l.length<2^30) {n a b:Geo.V} {d:Int} (hq:Near B n) (hs:3*(B*M)<2^62) (ha:Near M a) (hb:Near M b) (H:Heap):
 Sound Tryz.prog gv 207 [.aT 0 3 (ivE l),.agg (ivC n),.int .i64 d,.agg (ivC a),.agg (ivC b)] H (.ret (.bool (sideV l n d a b))) H:=by
 have ht0:Nat.blt 0 2=true:=rfl;have hw:=cH hb ha;have hMM:(M+M)*(M+M)≤2^19*2^19:=Nat.mul_le_mul (by omega) (by omega);have sw:=jK hb ha (by omega);have dww:=fP hw hw (by omega);refine Sp bAf (by simp only[sf,bG ht0,bA]) (by simp only[sf]) ?_ H;unfold W207;dsimp only;refine aA fun K hK=>?_;simp only[↓zP,zG,Nat.reduceLT,Nat.reduceEqDiff,Nat.reduceAdd,zI];apply hK;clear hK K;refine aA fun K hK=>?_;simp only[↓zP,zG,Nat.reduceLT,Nat.reduceEqDiff,Nat.reduceAdd,zI,oL (aG b),oL (aG a)];refine bF (sw _) ?_;simp only[↓zP,zG,Nat.reduceLT,Nat.reduceEqDiff,Nat.reduceAdd,zI,oL (aG (Geo.sub b a))];apply hK;clear hK K;have hMW:(M+M)*M≤2^19*2^18:=Nat.mul_le_mul (by omega) hM;generalize hwv:Geo.sub b a=w at *;refine aA fun K hK=>?_;simp only[↓zP,zG,Nat.reduceLT];refine bB [] (fun i vs H'=>H'.get 0=some (.cells (ivC n) false)∧H'.get 1=some (.cells (ivC a) false)∧H'.get 3=some (.cells (ivC w) false)∧4≤H'.next∧FreeUp H'∧∀x∈l.take i,Geo.dot n x=d→okV n a b x=true) 0 l.length (Nat.zero_le _) (by omega) (by decide) ?_ ?_ ?_ ?_ ?_
 · simp only[aC];rfl
 · refine⟨by simp only[zI,Nat.reduceAdd,Nat.reduceEqDiff],by simp only[zI,Nat.reduceAdd,Nat.reduceEqDiff],by simp only[zI,Nat.reduceAdd,Nat.reduceEqDiff],by simp only[zI,Nat.reduceAdd,Nat.reduceLeDiff],?_,fun v hv=>by simp at hv⟩
   exact((((((FreeUp.nil 0).alloc _).alloc _).alloc _).alloc _).set (by simp) _)
 · rintro i f H1 h0 hi hk e1 ⟨g0,g1,g3,gn,hf,hall⟩
   have f0:f 0=.aT 0 3 (ivE l):=by rw[hk 0 rfl];simp only[aC,ne_eq,Nat.reduceEqDiff,not_false_eq_true,startF,List.getD_cons_zero]
   simp only[↓zP,zG,Nat.reduceLT,Nat.reduceEqDiff,zI,e1,f0,aJ];exact⟨trivial,trivial,congrArg AV.bool (decide_eq_decide.2 (by omega))⟩
 · rintro i f H1 h0 hi hk e1 ⟨g0,g1,g3,gn,hf,hall⟩
   have f0:f 0=.aT 0 3 (ivE l):=by rw[hk 0 rfl];simp only[aC,ne_eq,Nat.reduceEqDiff,not_false_eq_true,startF,List.getD_cons_zero]
   have f2:f 2=.int .i64 d:=by rw[hk 2 rfl];simp only[aC,ne_eq,Nat.reduceEqDiff,not_false_eq_true,startF,List.getD_cons_zero,List.getD_cons_succ]
   have f6:f 6=.ref 0 0:=by rw[hk 6 rfl];simp only[aC,ne_eq,Nat.reduceEqDiff,not_false_eq_true]
   have f8:f 8=.ref 1 0:=by rw[hk 8 rfl];simp only[aC,ne_eq,Nat.reduceEqDiff,not_false_eq_true]
   have f11:f 11=.ref 3 0:=by rw[hk 11 rfl];simp only[aC,ne_eq,Nat.reduceEqDiff,not_false_eq_true]
   have hg:=bC hi;have hm:=List.getElem_mem hi;have hx:=hl _ hm
   have htk:∀v,v∈l.take (i+1)→v∈l.take i∨v=l[i]:=fun v hv=>by
    rw[List.take_add_one,List.mem_append] at hv
    rcases hv with h|h
    · exact .inl h
    · simp[hi] at h;exact .inr h
   have hfalse:Geo.dot n l[i]=d→okV n a b l[i]=false→sideV l n d a b=false:=fun h1 h2=>by
    unfold sideV;rw[List.all_eq_false];exact⟨l[i],hm,by simp[h1,h2]⟩
   generalize l[i]=x at *;have hd:=fP hq hx hs
   have hall':(Geo.dot n x=d→okV n a b x=true)→∀v∈l.take (i+1),Geo.dot n v=d→okV n a b v=true:=fun h v hv=>by
    rcases htk v hv with h1|rfl
    · exact hall v h1
    · exact h
   refine aI ?_;refine aA fun K2 hK2=>?_;refine aA fun K3 hK3=>?_;refine aQ (by decide) ?_;simp only[↓zP,zG,Nat.reduceLT,Nat.reduceEqDiff,Nat.reduceAdd,zD,reduceCtorEq,zI,f0,f6,e1,g0,aD,aJ,hi,hg,oL (aG n),oL (aG x)];refine cE (hd _) ?_;simp only[↓zP,zG,Nat.reduceLT,Nat.reduceEqDiff,Nat.reduceAdd,zD,reduceCtorEq,zI,f2];apply hK3;clear hK3 K3;by_cases hc:Geo.dot n x=d
   · have hb1:(Geo.dot n x != d)=false:=by simp[hc]
     have ht:=cH hx ha;have st:=jK hx ha (by omega);have cr:=sD hw ht (by omega);have lf:=aPn n (Geo.cross w (Geo.sub x a));have dtw:=fP ht hw (by omega)
     have hokv:okV n a b x= !(decide (Geo.turn n (Geo.cross w (Geo.sub x a))<0)||(decide (Geo.turn n (Geo.cross w (Geo.sub x a))=0)&&(decide (Geo.dot (Geo.sub x a) w<0)||decide (Geo.dot (Geo.sub x a) w>Geo.dot w w)))):=by
      unfold okV;rw[hwv]
     simp only[↓zP,zG,hb1];apply hK2;clear hK2 K2;refine aA fun K2 hK2=>?_;refine eY 1 (by decide) hf.at1 fun H2 n2 e2=>?_;have q1:=(e2 1).trans g1;simp only[↓zP,zG,Nat.reduceLT,Nat.reduceEqDiff,Nat.reduceAdd,zD,reduceCtorEq,zI,f0,f8,e1,q1,aD,aJ,hi,hg,oL (aG x),oL (aG a)];refine cE (st _) ?_;generalize hto:Geo.sub x a=t at *;simp only[↓zP,zG,Nat.reduceLT,Nat.reduceEqDiff,Nat.reduceAdd,zD,zI,oL (aG t)];generalize hX:(H2.set H1.next _).set H1.next _=H3
     have y0:H3.get 0=some (.cells (ivC n) false):=by subst hX;rw[Heap.aB,if_neg (by omega),Heap.aB,if_neg (by omega),e2];exact g0
     have y1:H3.get 1=some (.cells (ivC a) false):=by subst hX;rw[Heap.aB,if_neg (by omega),Heap.aB,if_neg (by omega),e2];exact g1
     have y3:H3.get 3=some (.cells (ivC w) false):=by subst hX;rw[Heap.aB,if_neg (by omega),Heap.aB,if_neg (by omega),e2];exact g3
     have yr:H3.get H1.next=some (.cells (ivC t) false):=by subst hX;rw[Heap.aB,if_pos rfl]
     have yn:4≤H3.next:=by subst hX;simp only[Heap.aS];omega
     have yf:FreeUp H3:=fun j hj=>by
      subst hX;simp only[Heap.aS] at hj;rw[Heap.aB,if_neg (by omega),Heap.aB,if_neg (by omega),e2];exact hf j (by omega)
     clear hX;apply hK2;clear hK2 K2;refine aA fun K2 hK2=>?_;refine aQ (by decide) ?_;simp only[↓zP,zG,Nat.reduceLT,Nat.reduceEqDiff,Nat.reduceAdd,zD,reduceCtorEq,zI,f6,f11,y0,y3,yr,oL (aG n),oL (aG w),oL (aG t)];refine cE (cr _) ?_;generalize Geo.cross w t=cw at *;simp only[Nat.reduceAdd];refine cE (lf _) ?_;generalize Geo.turn n cw=tn at *;simp only[↓zP,zG,Nat.reduceLT,Nat.reduceEqDiff,Nat.reduceAdd,zD,reduceCtorEq,zI];apply hK2;clear hK2 K2;refine aA fun K2 hK2=>?_;refine aQ (by decide) ?_
     have fin:∀(f':Slt) (r:Bool),f' 63=.bool (!r)→okV n a b x=r→K2 f' [] H3:=by
      intro f' r v63 hr;apply hK2;clear hK2 K2
      cases r with
      |true=>
       simp only[↓zP,zG,zI,v63];exact⟨y0,y1,y3,yn,yf,hall' fun _=>hr⟩
      |false=>
       simp only[↓zP,zG,Nat.reduceLT,zI,v63];refine⟨rfl,_,by simp only[↓zP,zR];rfl,?_⟩;rw[hfalse hc hr];rfl
     clear hK2;by_cases c1:tn<0
     · have d1:=decide_eq_true c1
       simp only[↓zP,zG,Nat.reduceLT,Nat.reduceEqDiff,Nat.reduceAdd,zD,reduceCtorEq,zI,d1,eD];exact fin _ false (by simp only[aC];rfl) (by rw[hokv,d1];rfl)
     · have d1:=decide_eq_false c1
       by_cases c2:tn=0
       · have d2:(tn==0)=true:=by simp[c2]
         have d2':decide (tn=0)=true:=decide_eq_true c2;simp only[↓zP,zG,Nat.reduceLT,Nat.reduceEqDiff,Nat.reduceAdd,zD,reduceCtorEq,zI,d1,d2,f11,y3,yr,oL (aG w),oL (aG t)];refine cE (dtw _) ?_;by_cases c3:Geo.dot t w<0
         · have d3:=decide_eq_true c3
           simp only[↓zP,zG,Nat.reduceLT,Nat.reduceEqDiff,Nat.reduceAdd,zD,reduceCtorEq,zI,d3];exact fin _ false (by simp only[aC];rfl) (by rw[hokv,d1,d2',d3];rfl)
         · have d3:=decide_eq_false c3
           simp only[↓zP,zG,Nat.reduceLT,Nat.reduceEqDiff,Nat.reduceAdd,zD,reduceCtorEq,zI,d3,f11,y3,yr,oL (aG w),oL (aG t)];refine cE (dtw _) ?_;simp only[↓zP,zG,Nat.reduceLT,Nat.reduceEqDiff,Nat.reduceAdd,zD,zI,f11,y3,oL (aG w)];refine cE (dww _) ?_;simp only[↓zP,zG,Nat.reduceLT,Nat.reduceEqDiff,Nat.reduceAdd,zD,reduceCtorEq,zI];exact fin _ (!decide (Geo.dot t w>Geo.dot w w)) (by simp only[aC,Bool.not_not]) (by rw[hokv,d1,d2',d3];rfl)
       · have d2:(tn==0)=false:=by simp[c2]
         have d2':decide (tn=0)=false:=decide_eq_false c2;simp only[↓zP,zG,Nat.reduceLT,Nat.reduceEqDiff,Nat.reduceAdd,zD,reduceCtorEq,zI,d1,d2,eD];exact fin _ true (by simp only[aC];rfl) (by rw[hokv,d1,d2'];rfl)
   · have hb1:(Geo.dot n x != d)=true:=by simp[hc]
     simp only[↓zP,zG,hb1];exact⟨g0,g1,g3,gn,hf,hall' fun h=>absurd h hc⟩
 · rintro f H1 hk ⟨g0,g1,g3,gn,hf,hall⟩
   rw[List.take_length] at hall
   have :sideV l n d a b=true:=by
    unfold sideV;rw[List.all_eq_true];intro x hx;by_cases h:Geo.dot n x=d
    · simp[hall x hx h]
    · simp[h]
   show K f [] H1;apply hK;simp only[↓zP,zG,Nat.reduceLT];refine⟨rfl,_,by simp only[↓zP,zR];rfl,?_⟩;rw[this];rfl
theorem aPq (tag:Nat) {l:List Geo.V} {M B:Nat} (hl:∀v∈l,Near M v) (hM:M≤2^18) (hlen:l.length<2^30) {n a b:Geo.V} {d:Int} (hq:Near B n) (hs:3*(B*M)<2^62) (ha:Near M a) (hb:Near M b) (H:Heap):
 Sound Tryz.prog gv 207 [.aT tag 3 (ivE l),.agg (ivC n),.int .i64 d,.agg (ivC a),.agg (ivC b)] H (.ret (.bool (sideV l n d a b))) H:=(aXe hl hM hlen hq hs ha hb H).oO tag
end Go.Proofs.YtjiignefffdelaaGreatDoor
