/-
  Parts of the proof of statement 4: KSd, KSe, KSf
-/
import Derived.Test.YtjiignefffdelaaGreatDoorA45
import Derived.Test.YtjiignefffdelaaGreatDoorA22
import Derived.Test.YtjiignefffdelaaGreatDoorA27
set_option linter.unusedVariables false
set_option maxRecDepth 100000
set_option maxHeartbeats 16000000
namespace Go.Proofs.YtjiignefffdelaaGreatDoor
open Go Go.Av Go.Num
attribute [local congr] aU aN aO aM aW aR aP aL
attribute [local irreducible] FC FOps FD2
def divS (x y:Int):Int×Int:=if(!decide (x.tmod y=0)&&(decide (x.tmod y<0) != decide (y<0)))=true then(x.tdiv y -1,x.tmod y+y) else(x.tdiv y,x.tmod y)
theorem tdiv_le (x y:Int):(x.tdiv y).natAbs≤x.natAbs:=by
 rw[Int.natAbs_tdiv];exact Nat.div_le_self _ _
theorem aTj (x:Int) {y:Int} (h:y≠0):(x.tmod y).natAbs<y.natAbs:=by
 rw[Int.natAbs_tmod];exact Nat.mod_lt _ (by omega)
theorem nC {a b:List AV} {x y:Int} (ha:IsI a (some x)) (hb:IsI b (some y)) (hx0: -2^63<x) (hx1:x<2^63) (hy0: -2^63<y) (hy1:y<2^63) (hy:y≠0) (H:Heap):
 Sound Tryz.prog gv 139 [.agg a,.agg b] H (.ret (.tup [.agg (cI (divS x y).1),.agg (cI (divS x y).2)])) H:=by
 refine Sp aYr (by simp only[sf,ha.free,hb.free]) (by simp only[sf,bK]) ?_ H;unfold W139;dsimp only;have hg:=lO ha hb;have hs:=sU hb;have h1:=oX ha;have h2:=oX hb
 have e1:smallO (some x)=(x,true):=by simp only[smallO];rw[if_pos (by omega)]
 have e2:smallO (some y)=(y,true):=by simp only[smallO];rw[if_pos (by omega)]
 rw[e1] at h1;rw[e2] at h2
 have hsg:(signO (some y)==0)=false:=by
  simp only[signO];split<;>(try split)<;>first|rfl|omega
 have hq:=tdiv_le x y;have hr:=aTj x hy;have wq:IntKind.i64.wrap (x.tdiv y)=x.tdiv y:=wrap_i64 (by omega) (by omega);have wr:IntKind.i64.wrap (x.tmod y)=x.tmod y:=wrap_i64 (by omega) (by omega);have la:=ha.len;have lb:=hb.len;have nx:(x != -9223372036854775808)=true:=bne_iff_ne.2 (by omega);have ny:(y != -9223372036854775808)=true:=bne_iff_ne.2 (by omega);refine aA fun K hK=>?_;simp only[↓zP,zG,Nat.reduceLT,Nat.reduceEqDiff,Nat.reduceAdd,zI];apply hK;clear hK K
 have z18:(AV.bool false::AV.bool false::wC zs).length=18:=by simp[bH];rfl
 have c18:∀z,(cI z).length=18:=fun z=>bM z;generalize hX:((((Heap.mk 0 .nil).alloc _).alloc _).alloc _).alloc _=HA
 have g0:HA.get 0=some (.cells a false):=by subst hX;simp only[zI,Nat.reduceAdd,Nat.reduceEqDiff]
 have g1:HA.get 1=some (.cells b false):=by subst hX;simp only[zI,Nat.reduceAdd,Nat.reduceEqDiff]
 have g2:HA.get 2=some (.cells (AV.bool false::AV.bool false::wC zs) false):=by subst hX;simp only[zI,Nat.reduceAdd,Nat.reduceEqDiff]
 have g3:HA.get 3=some (.cells (AV.bool false::AV.bool false::wC zs) false):=by subst hX;simp only[zI,Nat.reduceAdd,Nat.reduceEqDiff]
 clear hX;refine aA fun K hK=>?_;simp only[↓zP,zG,Nat.reduceLT,Nat.reduceEqDiff,zI,g0,g1,oL la,oL lb];refine bF (hg _) ?_;simp only[↓zP,zG,Nat.reduceLT,Nat.reduceEqDiff,zI,g1,oL lb,Option.isSome_some,Bool.and_self];refine bF (hs _) ?_;simp only[↓zP,zG,Nat.reduceLT,Nat.reduceEqDiff,zI,hsg];apply hK;clear hK K;refine aA fun K hK=>?_;refine aA fun K2 hK2=>?_;simp only[↓zP,zG,Nat.reduceLT,Nat.reduceEqDiff,zI,g0,oL la];refine bF (h1 _) ?_;simp only[↓zP,zG,Nat.reduceLT,Nat.reduceEqDiff,Nat.reduceAdd,zI];apply hK2;clear hK2 K2;clear hK;refine gI fun f hf=>?_
 have f3:f 3=.ref 1 0:=by subst hf;simp only[aC,ne_eq,Nat.reduceEqDiff,not_false_eq_true]
 have f4:f 4=.ref 2 0:=by subst hf;simp only[aC,ne_eq,Nat.reduceEqDiff,not_false_eq_true]
 have f5:f 5=.ref 3 0:=by subst hf;simp only[aC,ne_eq,Nat.reduceEqDiff,not_false_eq_true]
 have f6:f 6=.int .i64 x:=by subst hf;simp only[aC,ne_eq,Nat.reduceEqDiff,not_false_eq_true]
 have f7:f 7=.bool true:=by subst hf;simp only[aC]
 clear hf;refine aA fun K2 hK2=>?_;simp only[↓zP,zG,Nat.reduceLT,Nat.reduceEqDiff,zI,f6,f7,nx];apply hK2;clear hK2 K2;simp only[↓zP,zG,Nat.reduceLT,Nat.reduceEqDiff,zI,f3,g1,oL lb];refine bF (h2 _) ?_;simp only[↓zP,zG,Nat.reduceLT,Nat.reduceEqDiff,Nat.reduceAdd,zI,ny];refine gI fun f' hf=>?_
 have f4':f' 4=.ref 2 0:=by subst hf;simp only[aC,ne_eq,Nat.reduceEqDiff,not_false_eq_true];exact f4
 have f5':f' 5=.ref 3 0:=by subst hf;simp only[aC,ne_eq,Nat.reduceEqDiff,not_false_eq_true];exact f5
 have f6':f' 6=.int .i64 x:=by subst hf;simp only[aC,ne_eq,Nat.reduceEqDiff,not_false_eq_true];exact f6
 have f8':f' 8=.int .i64 y:=by subst hf;simp only[aC,ne_eq,Nat.reduceEqDiff,not_false_eq_true]
 clear hf f3 f4 f5 f6 f7;refine aQ (by decide) ?_
 have hdv:divS x y=if(!decide (x.tmod y=0)&&(decide (x.tmod y<0) != decide (y<0)))=true then(x.tdiv y -1,x.tmod y+y) else(x.tdiv y,x.tmod y):=rfl
 have oq:=oW (z:=x.tdiv y) (by omega) (by omega);have or:=oW (z:=x.tmod y) (by omega) (by omega);have oq1:∀H,Sound Tryz.prog gv 15 [.int .i64 (x.tdiv y -1)] H (.ret (.agg (cI (x.tdiv y -1)))) H:=oW (by omega) (by omega);have wq1:IntKind.i64.wrap (x.tdiv y -1)=x.tdiv y -1:=wrap_i64 (by omega) (by omega);by_cases c0:x.tmod y=0
 · have hn:(x.tmod y != 0)=false:=by simp[c0]
   rw[decide_eq_true c0] at hdv;simp only[↓zP,zG,Nat.reduceLT,Nat.reduceEqDiff,Nat.reduceAdd,zD,reduceCtorEq,zI,f6',f8',hy,wq,hn];refine bF (oq _) ?_;simp only[↓zP,zG,Nat.reduceLT,Nat.reduceEqDiff];refine bF (or _) ?_;simp only[↓zP,zG,Nat.reduceEqDiff,zI,f4',f5',g2,g3,c18,z18,oL z18];refine⟨rfl,_,by simp only[↓zP,zR,Nat.reduceEqDiff,f4',f5',g2,g3,c18,oL (c18 _)];rfl,?_⟩;rw[hdv];rfl
 · have hn:(x.tmod y != 0)=true:=bne_iff_ne.2 c0
   rw[decide_eq_false c0] at hdv;by_cases cA:x.tmod y<0
   · have hA:=decide_eq_true cA
     rw[hA] at hdv;by_cases cB:y<0
     · have hB:=decide_eq_true cB
       rw[hB] at hdv;simp only[↓zP,zG,Nat.reduceLT,Nat.reduceEqDiff,Nat.reduceAdd,zD,reduceCtorEq,zI,f6',f8',hy,wq,hn,hA,hB];refine bF (oq _) ?_;simp only[↓zP,zG,Nat.reduceLT,Nat.reduceEqDiff];refine bF (or _) ?_;simp only[↓zP,zG,Nat.reduceEqDiff,zI,f4',f5',g2,g3,c18,z18,oL z18];refine⟨rfl,_,by simp only[↓zP,zR,Nat.reduceEqDiff,f4',f5',g2,g3,c18,oL (c18 _)];rfl,?_⟩;rw[hdv];rfl
     · have hB:=decide_eq_false cB
       rw[hB] at hdv;have or1:∀H,Sound Tryz.prog gv 15 [.int .i64 (x.tmod y+y)] H (.ret (.agg (cI (x.tmod y+y)))) H:=oW (by omega) (by omega);have wr1:IntKind.i64.wrap (x.tmod y+y)=x.tmod y+y:=wrap_i64 (by omega) (by omega);simp only[↓zP,zG,Nat.reduceLT,Nat.reduceEqDiff,Nat.reduceAdd,zD,reduceCtorEq,zI,f6',f8',hy,wq,hn,hA,hB,wq1,wr1];refine bF (oq1 _) ?_;simp only[↓zP,zG,Nat.reduceLT,Nat.reduceEqDiff];refine bF (or1 _) ?_;simp only[↓zP,zG,Nat.reduceEqDiff,zI,f4',f5',g2,g3,c18,z18,oL z18];refine⟨rfl,_,by simp only[↓zP,zR,Nat.reduceEqDiff,f4',f5',g2,g3,c18,oL (c18 _)];rfl,?_⟩;rw[hdv];rfl
   · have hA:=decide_eq_false cA
     rw[hA] at hdv;by_cases cB:y<0
     · have hB:=decide_eq_true cB
       rw[hB] at hdv;have or1:∀H,Sound Tryz.prog gv 15 [.int .i64 (x.tmod y+y)] H (.ret (.agg (cI (x.tmod y+y)))) H:=oW (by omega) (by omega);have wr1:IntKind.i64.wrap (x.tmod y+y)=x.tmod y+y:=wrap_i64 (by omega) (by omega);simp only[↓zP,zG,Nat.reduceLT,Nat.reduceEqDiff,Nat.reduceAdd,zD,reduceCtorEq,zI,f6',f8',hy,wq,hn,hA,hB,wq1,wr1];refine bF (oq1 _) ?_;simp only[↓zP,zG,Nat.reduceLT,Nat.reduceEqDiff];refine bF (or1 _) ?_;simp only[↓zP,zG,Nat.reduceEqDiff,zI,f4',f5',g2,g3,c18,z18,oL z18];refine⟨rfl,_,by simp only[↓zP,zR,Nat.reduceEqDiff,f4',f5',g2,g3,c18,oL (c18 _)];rfl,?_⟩;rw[hdv];rfl
     · have hB:=decide_eq_false cB
       rw[hB] at hdv;simp only[↓zP,zG,Nat.reduceLT,Nat.reduceEqDiff,Nat.reduceAdd,zD,reduceCtorEq,zI,f6',f8',hy,wq,hn,hA,hB];refine bF (oq _) ?_;simp only[↓zP,zG,Nat.reduceLT,Nat.reduceEqDiff];refine bF (or _) ?_;simp only[↓zP,zG,Nat.reduceEqDiff,zI,f4',f5',g2,g3,c18,z18,oL z18];refine⟨rfl,_,by simp only[↓zP,zR,Nat.reduceEqDiff,f4',f5',g2,g3,c18,oL (c18 _)];rfl,?_⟩;rw[hdv];rfl
theorem qY {a b:List AV} {x y:Int} (ha:IsI a (some x)) (hb:IsI b (some y)) (hx0: -2^63<x) (hx1:x<2^63) (hy0: -2^63<y) (hy1:y<2^63) (hy:y≠0) (H:Heap):
 Sound Tryz.prog gv 101 [.agg a,.agg b] H (.ret (.agg (cI (divS x y).1))) H:=by
 refine Sp aXv (by simp only[sf,ha.free,hb.free]) (by simp only[sf,bK]) ?_ H;unfold W101;dsimp only;have hd:=nC ha hb hx0 hx1 hy0 hy1 hy;have la:=ha.len;have lb:=hb.len
 have z18:(AV.bool false::AV.bool false::wC zs).length=18:=by simp[bH];rfl
 have c18:∀z,(cI z).length=18:=fun z=>bM z;generalize divS x y=d at *;refine aA fun K hK=>?_;simp only[↓zP,zG,Nat.reduceLT,Nat.reduceEqDiff,Nat.reduceAdd,zI];apply hK;clear hK K;simp only[↓zP,zG,Nat.reduceLT,Nat.reduceEqDiff,Nat.reduceAdd,zI,oL la,oL lb];refine bF (hd _) ?_;simp only[↓zP,zG,Nat.reduceLT,Nat.reduceEqDiff,Nat.reduceAdd,zI,c18,z18,oL z18,oL (c18 _)];refine⟨rfl,_,by simp only[↓zP,zR,Nat.reduceEqDiff,Nat.reduceAdd,c18,oL (c18 _)];rfl,?_⟩;rfl
theorem aJm {a b:List AV} {x y:Int} (ha:IsI a (some x)) (hb:IsI b (some y)) (hx0: -2^63<x) (hx1:x<2^63) (hy0: -2^63<y) (hy1:y<2^63) (hy:y≠0) (H:Heap):
 Sound Tryz.prog gv 96 [.agg a,.agg b] H (.ret (.agg (cI (divS x y).2))) H:=by
 refine Sp bFj (by simp only[sf,ha.free,hb.free]) (by simp only[sf,bK]) ?_ H;unfold W96;dsimp only;have hd:=nC ha hb hx0 hx1 hy0 hy1 hy;have la:=ha.len;have lb:=hb.len
 have z18:(AV.bool false::AV.bool false::wC zs).length=18:=by simp[bH];rfl
 have c18:∀z,(cI z).length=18:=fun z=>bM z;generalize divS x y=d at *;refine aA fun K hK=>?_;simp only[↓zP,zG,Nat.reduceLT,Nat.reduceEqDiff,Nat.reduceAdd,zI];apply hK;clear hK K;simp only[↓zP,zG,Nat.reduceLT,Nat.reduceEqDiff,Nat.reduceAdd,zI,oL la,oL lb];refine bF (hd _) ?_;simp only[↓zP,zG,Nat.reduceLT,Nat.reduceEqDiff,Nat.reduceAdd,zI,c18,z18,oL z18,oL (c18 _)];refine⟨rfl,_,by simp only[↓zP,zR,Nat.reduceEqDiff,Nat.reduceAdd,c18,oL (c18 _)];rfl,?_⟩;rfl
def smallB (x y:Int):Bool:=decide (-2^63<x)&&decide (x<2^63)&&decide (-2^63<y)&&decide (y<2^63)&& !decide (y=0)
def orcD (g:Int×Int→AV):List AV→Option AV
 |[.agg a,.agg b]=>match decI a,decI b with
  |some (some x),some (some y)=>match smallB x y with
   |true=>some (g (divS x y))
   |false=>none
  |_,_=>none
 |_=>none
theorem aIl {g:Int×Int→AV} {f:FuncId} (hS:∀a b x y,IsI a (some x)→IsI b (some y)→-2^63<x→x<2^63→-2^63<y→y<2^63→y≠0→∀H,Sound Tryz.prog gv f [.agg a,.agg b] H (.ret (g (divS x y))) H) {args:List AV} {v:AV} (h:orcD g args=some v) (H:Heap):Sound Tryz.prog gv f args H (.ret v) H:=by
 unfold orcD at h;split at h
 · rename_i a b
   split at h
   · rename_i x y hx hy
     split at h
     · rename_i hc
       cases h;simp only[smallB,Bool.and_eq_true,Bool.not_eq_true',decide_eq_true_eq,decide_eq_false_iff_not] at hc;obtain⟨⟨⟨⟨c1,c2⟩,c3⟩,c4⟩,c5⟩:=hc;exact hS a b x y (gK hx) (gK hy) c1 c2 c3 c4 c5 H
     · cases h
   · cases h
 · cases h
def orcQ (f:FuncId) (args:List AV):Option AV:=
 match Nat.beq f 101 with
 |true=>orcD (fun d=>.agg (cI d.1)) args
 |false=>match Nat.beq f 96 with
 |true=>orcD (fun d=>.agg (cI d.2)) args
 |false=>orcW f args
theorem aIm {f:FuncId} {args:List AV} {v:AV} (h:orcQ f args=some v) (H:Heap):Sound Tryz.prog gv f args H (.ret v) H:=by
 unfold orcQ at h;split at h
 · rename_i hf;obtain rfl:=Nat.eq_of_beq_eq_true hf;exact aIl (fun a b x y ha hb h1 h2 h3 h4 h5 H=>qY ha hb h1 h2 h3 h4 h5 H) h H
 split at h
 · rename_i hf;obtain rfl:=Nat.eq_of_beq_eq_true hf;exact aIl (fun a b x y ha hb h1 h2 h3 h4 h5 H=>aJm ha hb h1 h2 h3 h4 h5 H) h H
 · exact aSm h H
theorem aDx {z:Int} (h:z.natAbs<2^64):limb z.natAbs 1*4294967296+limb z.natAbs 0=z.natAbs:=by
 have hW:W=4294967296:=rfl
 have h2:limb z.natAbs 0=z.natAbs%W:=by simp[limb]
 have h3:limb z.natAbs 1=z.natAbs / W:=by unfold limb;rw[Nat.pow_one,hW,Nat.mod_eq_of_lt (by omega)]
 rw[h2,h3,Nat.mul_comm];exact Nat.div_add_mod _ _
theorem aQc {a:Nat} (h:a<2^64):sz a≤2:=by
 rcases tC 16 a with h0|h0
 · unfold sz;omega
 · refine Nat.not_lt.1 fun h3=>h0 ?_
   unfold sz at h3;unfold limb;have :W^2≤W^(szF 16 a -1):=Nat.pow_le_pow_right (by decide) (by omega);have hW:W^2=2^64:=rfl;rw[Nat.div_eq_of_lt (by omega)];rfl
theorem qW {a b:List AV} {x y:Int} (ha:IsI a (some x)) (hb:IsI b (some y)) (hx:x.natAbs<2^64) (hy:y.natAbs<2^64) (H:Heap):
 Sound Tryz.prog gv 100 [.agg a,.agg b] H (.ret (.agg (cI (Int.gcd x y)))) H:=by
 refine Sp aXu (by simp only[sf,ha.free,hb.free]) (by simp only[sf,bK]) ?_ H;unfold W100;dsimp only;have hg:=lO ha hb;have s1:=qN x.natAbs;have s2:=qN y.natAbs;have la:=ha.len;have lb:=hb.len;obtain⟨rfl,hz⟩:=ha.some;obtain⟨rfl,hz'⟩:=hb.some;refine aA fun K hK=>?_;simp only[↓zP,zG,Nat.reduceLT,Nat.reduceEqDiff,Nat.reduceAdd,zI];apply hK;clear hK K;refine aA fun K hK=>?_;simp only[↓zP,zG,Nat.reduceLT,Nat.reduceEqDiff,Nat.reduceAdd,zI,oL la,oL lb];refine bF (hg _) ?_;simp only[↓zP,zG,Nat.reduceLT,zI,Option.isSome_some,Bool.and_self];apply hK;clear hK K
 have z18:(AV.bool false::AV.bool false::wC zs).length=18:=by simp[bH];rfl
 have c18:∀z,(cI z).length=18:=fun z=>bM z;generalize hX:(((Heap.mk 0 .nil).alloc _).alloc _).alloc _=HA
 have g0:HA.get 0=some (.cells (cI x) false):=by subst hX;simp only[zI,Nat.reduceAdd,Nat.reduceEqDiff]
 have g1:HA.get 1=some (.cells (cI y) false):=by subst hX;simp only[zI,Nat.reduceAdd,Nat.reduceEqDiff]
 have g2:HA.get 2=some (.cells (AV.bool false::AV.bool false::wC zs) false):=by subst hX;simp only[zI,Nat.reduceAdd,Nat.reduceEqDiff]
 clear hX;refine gI fun f hf=>?_
 have f2:f 2=.ref 0 0:=by subst hf;simp only[aC,ne_eq,Nat.reduceEqDiff,not_false_eq_true]
 have f3:f 3=.ref 1 0:=by subst hf;simp only[aC,ne_eq,Nat.reduceEqDiff,not_false_eq_true]
 have f4:f 4=.ref 2 0:=by subst hf;simp only[aC,ne_eq,Nat.reduceEqDiff,not_false_eq_true]
 clear hf;have lx:=iL (.limbs x.natAbs);have ly:=iL (.limbs y.natAbs);have dx:(cI x).drop 2=wC (limbs 16 x.natAbs):=rfl;have dy:(cI y).drop 2=wC (limbs 16 y.natAbs):=rfl;refine aA fun K hK=>?_;simp only[↓zP,zG,Nat.reduceLT,Nat.reduceEqDiff,Nat.reduceAdd,zI,Nat.reduceLeDiff,f2,g0,oL la,dx,lx];refine bF (s1 _) ?_;have e1:decide (((sz x.natAbs:Nat):Int)≤2)=true:=decide_eq_true (by have :=aQc hx;omega);have e2:decide (((sz y.natAbs:Nat):Int)≤2)=true:=decide_eq_true (by have :=aQc hy;omega);simp only[↓zP,zG,Nat.reduceLT,Nat.reduceEqDiff,Nat.reduceAdd,zI,f3,g1,oL lb,dy,ly,e1];refine bF (s2 _) ?_;simp only[↓zP,zG,Nat.reduceLT,Nat.reduceEqDiff,zI,e2];refine aQ (by decide) ?_;have h0:=dC x.natAbs 0;have h1:=dC x.natAbs 1;have k0:=dC y.natAbs 0;have k1:=dC y.natAbs 1;have hW:W=4294967296:=rfl;have p0:(cI x).getD 2 undefA=.int .u32 (limb x.natAbs 0:Nat):=dS (a:=x.natAbs) (i:=0) (by decide);have p1:(cI x).getD 3 undefA=.int .u32 (limb x.natAbs 1:Nat):=dS (a:=x.natAbs) (i:=1) (by decide);have q0:(cI y).getD 2 undefA=.int .u32 (limb y.natAbs 0:Nat):=dS (a:=y.natAbs) (i:=0) (by decide);have q1:(cI y).getD 3 undefA=.int .u32 (limb y.natAbs 1:Nat):=dS (a:=y.natAbs) (i:=1) (by decide);have w0:IntKind.u64.wrap ((limb x.natAbs 0:Nat):Int)=(limb x.natAbs 0:Nat):=gH (by omega) (.inl rfl);have w1:IntKind.u64.wrap ((limb x.natAbs 1:Nat):Int)=(limb x.natAbs 1:Nat):=gH (by omega) (.inl rfl);have v0:IntKind.u64.wrap ((limb y.natAbs 0:Nat):Int)=(limb y.natAbs 0:Nat):=gH (by omega) (.inl rfl);have v1:IntKind.u64.wrap ((limb y.natAbs 1:Nat):Int)=(limb y.natAbs 1:Nat):=gH (by omega) (.inl rfl);have ox:=aWw h1 h0;have oy:=aWw k1 k0;rw[aDx hx] at ox;rw[aDx hy] at oy;simp only[↓zP,zG,Nat.reduceLT,Nat.reduceEqDiff,Nat.reduceAdd,zD,reduceCtorEq,zI,Nat.reduceLeDiff,Int.reduceLT,f2,f3,g0,g1,oL la,oL lb,fS,p0,p1,q0,q1,w0,w1,v0,v1,ox,oy];refine gI fun f' hf=>?_
 have f4':f' 4=.ref 2 0:=by subst hf;simp only[aC,ne_eq,Nat.reduceEqDiff,not_false_eq_true];exact f4
 have f5:f' 5=.int .u64 (x.natAbs:Nat):=by subst hf;simp only[aC,ne_eq,Nat.reduceEqDiff,not_false_eq_true]
 have f6:f' 6=.int .u64 (y.natAbs:Nat):=by subst hf;simp only[aC]
 clear hf f2 f3 f4;refine aI (dM [5,6] (fun m vs H'=>H'=HA∧∃a b:Nat,vs=[.int .u64 (a:Nat),.int .u64 (b:Nat)]∧a<2^64∧b<2^64∧m=b∧Nat.gcd a b=Nat.gcd x.natAbs y.natAbs) y.natAbs (by rfl) ?_ ?_)
 · exact⟨rfl,_,_,by simp only[sm,f5,f6],hx,hy,rfl,rfl⟩
 rintro b f H1 hk ⟨rfl,a,_,hv,hx1,hy1,rfl,hgc⟩;simp only[sm,List.cons.injEq,and_true] at hv;obtain⟨h5,h6⟩:=hv
 have f4:f 4=.ref 2 0:=by rw[hk 4 rfl];exact f4'
 by_cases hb0:b=0
 · subst hb0
   have e0:(((0:Nat):Int) != 0)=false:=rfl
   have ea:a=Int.gcd x y:=by rw[Nat.gcd_zero_right] at hgc;exact hgc
   have l2:=xY hx1;have hl:=L16.limbs a
   have q0:((a%W:Nat):Int)=(limb a 0:Nat):=by simp[limb]
   have q1:((a / W%W:Nat):Int)=(limb a 1:Nat):=by simp[limb]
   have hd1:1≤(List.drop 1 (wC zs)).length:=by decide
   have hse:=eR (n:=false) (m:=a) (Nat.lt_trans hx1 (by decide)) (z:=(a:Int)) rfl;simp only[↓zP,zG,Nat.reduceLT,Nat.reduceEqDiff,Nat.reduceAdd,zI,Nat.reduceLeDiff,Int.reduceLT,h5,h6,e0,aHb,tY,q0,q1,l2,hd1];refine bF (hse _) ?_;simp only[↓zP,zG,Nat.reduceEqDiff,zI,f4,g2,c18,z18,oL z18];refine⟨rfl,_,by simp only[↓zP,zR,Nat.reduceEqDiff,f4,g2,c18,oL (c18 _)];rfl,?_⟩;rw[ea];rfl
 · have e0:(((b:Nat):Int) != 0)=true:=bne_iff_ne.2 (by omega)
   have hb0':¬((b:Nat):Int)=0:=by omega
   simp only[↓zP,zG,Nat.reduceLT,zI,h6,e0];refine aI ?_;refine aQ (by decide) ?_;simp only[↓zP,zG,Nat.reduceLT,Nat.reduceEqDiff,Nat.reduceAdd,zD,reduceCtorEq,zI,h5,h6,hb0'];have ht:Int.tmod (a:Int) (b:Int)=((a%b:Nat):Int):=rfl;have hlt:a%b<b:=Nat.mod_lt _ (by omega);have hwm:IntKind.u64.wrap ((a%b:Nat):Int)=((a%b:Nat):Int):=gH (by omega) (.inl rfl);rw[ht];exact⟨_,hlt,b,a%b,rfl,hy1,by omega,rfl,by rw[Nat.gcd_comm,←Nat.gcd_rec,Nat.gcd_comm,hgc]⟩
def cR (n d:Int):List AV:=cI n++cI d
theorem aNg (n d:Int):(cR n d).length=36:=by rw[cR,List.length_append,bM,bM]
theorem aQy (n d:Int):(cR n d).take 18=cI n:=by rw[cR,List.take_append_of_le_length (by rw[bM];decide)];exact(oL (bM n)).2.1
theorem aQx (n d:Int):(cR n d).drop 18=cI d:=by rw[cR,List.drop_append_of_le_length (by rw[bM];decide),(oL (bM n)).2.2,List.nil_append]
theorem aHg (n d:Int):freeL (cR n d)=true:=by rw[cR,eC,bK,bK];rfl
theorem mV {a:List AV} {x:Int} (ha:IsI a (some x)) (H:Heap):Sound Tryz.prog gv 98 [.agg a] H (.ret (.bool true)) H:=by
 refine Sp bFl (by simp only[sf,ha.free]) (by simp only[sf]) ?_ H;unfold W98;dsimp only;have la:=ha.len;obtain⟨rfl,hz⟩:=ha.some
 have hv:∀H,Sound Tryz.prog gv 137 [.agg (cI x)] H (.ret (.bool true)) H:=fun H=>by
  have :=aBh false (decide (x<0)) (.limbs x.natAbs) H
  have e:(!decide (limbs 16 x.natAbs=zs)|| !decide (x<0))=true:=by
   by_cases h:x<0
   · have :decide (limbs 16 x.natAbs=zs)=false:=by rw[decide_eq_false];rw[lQ hz];omega
     rw[this];rfl
   · rw[decide_eq_false h];simp
  rw[if_neg (by decide),e] at this;exact this
 have e0:(cI x).getD 0 undefA=.bool false:=rfl;simp only[↓zP,zG,Nat.reduceLT,Nat.reduceEqDiff,zI,Nat.reduceLeDiff,la,e0];refine bF (hv _) ?_;simp only[↓zP,zG,Nat.reduceLT,Nat.reduceEqDiff,zI];refine⟨rfl,_,by simp only[↓zP,zR];rfl,?_⟩;rfl
theorem aPs (H:Heap):Sound Tryz.prog gv 66 [] H (.ret (.agg (cI 1))) H:=by
 refine Sp bBq (by simp only[sf]) (by simp only[sf,bK]) ?_ H;unfold W66;dsimp only;simp only[↓zP,zG,Nat.reduceLT,zI];refine bF (oW (z:=1) (by decide) (by decide) _) ?_;simp only[↓zP,zG,Nat.reduceEqDiff,Nat.reduceAdd,zI];refine⟨rfl,_,by simp only[↓zP,zR,Nat.reduceEqDiff];rfl,?_⟩;rfl
theorem aMc {n d:Int} (hn:n.natAbs<2^64) (hd:d.natAbs<2^64) (hp:0<d) (hg:Int.gcd n d=1) (H:Heap):Sound Tryz.prog gv 76 [.agg (cR n d)] H (.ret (.bool true)) H:=by
 refine Sp bEw (by simp only[sf,aHg]) (by simp only[sf]) ?_ H;unfold W76;dsimp only;have wn:n.natAbs<W^16:=Nat.lt_trans hn (by decide);have wd:d.natAbs<W^16:=Nat.lt_trans hd (by decide);have g1:=mV (.enc wn);have g2:=mV (.enc wd);have sg:=sU (.enc wd);have gc:=qW (.enc wn) (.enc wd) hn hd;rw[hg] at gc
 have e1:decide (signO (some d)>0)=true:=by simp only[signO];split<;>(try split)<;>first|omega|rfl
 have l1:=aNg n d;have l2:=aQy n d;have l3:=aQx n d;have c18:∀z,(cI z).length=18:=fun z=>bM z
 have eqq:eqFlat [.b,.b,.i,.i,.i,.i,.i,.i,.i,.i,.i,.i,.i,.i,.i,.i,.i,.i] (cI 1) (cI 1)=some true:=by rfl
 simp only[↓zP,zG,Nat.reduceLT,Nat.reduceEqDiff,zI,Nat.reduceLeDiff,l1,l2];refine bF (g1 _) ?_;simp only[↓zP,zG,Nat.reduceLT,Nat.reduceEqDiff,Nat.reduceAdd,zI,l1,l3,oL (c18 _)];refine bF (g2 _) ?_;simp only[↓zP,zG,Nat.reduceLT,Nat.reduceEqDiff,Nat.reduceAdd,zI,l1,l3,oL (c18 _)];refine bF (sg _) ?_;simp only[↓zP,zG,Nat.reduceLT,Nat.reduceEqDiff,Nat.reduceAdd,zI,Nat.reduceLeDiff,l1,l2,l3,oL (c18 _),e1];refine bF (gc _) ?_;simp only[↓zP,zG,Nat.reduceLT,Nat.reduceEqDiff];refine bF (aPs _) ?_;simp only[↓zP,zG,Nat.reduceLT,Nat.reduceEqDiff,zI,show((1:Nat):Int)=1 from rfl,eqq];refine⟨rfl,_,by simp only[↓zP,zR];rfl,?_⟩;rfl
def mkG2 (n d:Int):Int:=if d<0 then -(Int.gcd n d:Int) else(Int.gcd n d:Int)
theorem aMd {a b:List AV} {n d:Int} (ha:IsI a (some n)) (hb:IsI b (some d)) (hn0: -2^63<n) (hn1:n<2^63) (hd0: -2^63<d) (hd1:d<2^63) (hd:d≠0) (H:Heap):
 Sound Tryz.prog gv 51 [.agg a,.agg b] H (.ret (.agg (cR (divS n (mkG2 n d)).1 (divS d (mkG2 n d)).1))) H:=by
 refine Sp bEd (by simp only[sf,ha.free,hb.free]) (by simp only[sf,aHg]) ?_ H;unfold W51;dsimp only;have g1:=mV ha;have g2:=mV hb;have sg:=sU hb;have gc:=qW ha hb (by omega) (by omega);have la:=ha.len;have lb:=hb.len;have c18:∀z,(cI z).length=18:=fun z=>bM z
 have z18:(AV.bool false::AV.bool false::wC zs).length=18:=by simp[bH];rfl
 have hgz:(Int.gcd n d)≠0:=fun h=>hd (Int.gcd_eq_zero_iff.1 h).2;have hgl:Int.gcd n d≤d.natAbs:=Nat.gcd_le_right _ (by omega)
 have e1:(signO (some d)==0)=false:=by simp only[signO];split<;>(try split)<;>first|rfl|omega
 have e2:decide (signO (some d)<0)=decide (d<0):=by
  rw[decide_eq_decide];simp only[signO];split<;>(try split)<;>omega
 have hwg:(Int.gcd n d:Int).natAbs<W^16:=Nat.lt_trans (show(Int.gcd n d:Int).natAbs<2^63 by omega) (by decide);have ng:=aEh (.enc hwg)
 have hwm:(mkG2 n d).natAbs<W^16:=by unfold mkG2;split<;>omega
 have hm0:mkG2 n d≠0:=by unfold mkG2;split<;>omega
 have hb1: -2^63<mkG2 n d:=by unfold mkG2;split<;>omega
 have hb2:mkG2 n d<2^63:=by unfold mkG2;split<;>omega
 have q1:=qY ha (.enc hwm) hn0 hn1 hb1 hb2 hm0;have q2:=qY hb (.enc hwm) hd0 hd1 hb1 hb2 hm0;refine aA fun K hK=>?_;simp only[↓zP,zG,Nat.reduceLT,Nat.reduceEqDiff,Nat.reduceAdd,zI];apply hK;clear hK K;generalize hX:(((Heap.mk 0 .nil).alloc _).alloc _).alloc _=HA
 have hn3:HA.next=3:=by subst hX;rfl
 have g0':HA.get 0=some (.cells a false):=by subst hX;simp only[zI,Nat.reduceAdd,Nat.reduceEqDiff]
 have g1':HA.get 1=some (.cells b false):=by subst hX;simp only[zI,Nat.reduceAdd,Nat.reduceEqDiff]
 obtain⟨zz,g2',z36⟩:∃zz,HA.get 2=some (.cells zz false)∧zz.length=36:=by subst hX;refine⟨_,by simp only[zI,Nat.reduceAdd,Nat.reduceEqDiff];rfl,?_⟩;rfl
 clear hX;refine aA fun K hK=>?_;simp only[↓zP,zG,Nat.reduceLT,Nat.reduceEqDiff,zI,g0',oL la];refine bF (g1 _) ?_;simp only[↓zP,zG,Nat.reduceLT,Nat.reduceEqDiff,zI,g1',oL lb];refine bF (g2 _) ?_;simp only[↓zP,zG,Nat.reduceLT,Nat.reduceEqDiff,zI,g1',oL lb];refine bF (sg _) ?_;simp only[↓zP,zG,Nat.reduceLT,Nat.reduceEqDiff,zI,e1];apply hK;clear hK K;refine gI fun f hf=>?_
 have f2:f 2=.ref 0 0:=by subst hf;simp only[aC,ne_eq,Nat.reduceEqDiff,not_false_eq_true]
 have f3:f 3=.ref 1 0:=by subst hf;simp only[aC,ne_eq,Nat.reduceEqDiff,not_false_eq_true]
 have f4:f 4=.ref 2 0:=by subst hf;simp only[aC,ne_eq,Nat.reduceEqDiff,not_false_eq_true]
 clear hf;refine aA fun K hK=>?_;simp only[↓zP,zG,Nat.reduceLT,Nat.reduceEqDiff,zI,f2,f3,g0',g1',oL la,oL lb];refine bF (gc _) ?_;simp only[↓zP,zG,Nat.reduceLT,Nat.reduceEqDiff,zI,hn3,c18,z18,oL z18];apply hK;clear hK K;generalize hX:(HA.alloc _).set 3 _=HB
 have h0:HB.get 0=some (.cells a false):=by subst hX;simp only[zI,Nat.reduceEqDiff,hn3,g0']
 have h1:HB.get 1=some (.cells b false):=by subst hX;simp only[zI,Nat.reduceEqDiff,hn3,g1']
 have h2:HB.get 2=some (.cells zz false):=by subst hX;simp only[zI,Nat.reduceEqDiff,hn3,g2']
 have h3:HB.get 3=some (.cells (cI (Int.gcd n d)) false):=by subst hX;simp only[zI,hn3]
 clear hX g0' g1' g2' hn3 HA;refine gI fun f' hf=>?_
 have f2':f' 2=.ref 0 0:=by subst hf;simp only[aC,ne_eq,Nat.reduceEqDiff,not_false_eq_true];exact f2
 have f3':f' 3=.ref 1 0:=by subst hf;simp only[aC,ne_eq,Nat.reduceEqDiff,not_false_eq_true];exact f3
 have f4':f' 4=.ref 2 0:=by subst hf;simp only[aC,ne_eq,Nat.reduceEqDiff,not_false_eq_true];exact f4
 have f5':f' 5=.ref 3 0:=by subst hf;simp only[aC]
 clear hf f2 f3 f4 f;refine aA fun K hK=>?_
 have key:∀(f:Slt) (HC:Heap),f 2=.ref 0 0→f 3=.ref 1 0→f 4=.ref 2 0→f 5=.ref 3 0→HC.get 0=some (.cells a false)→HC.get 1=some (.cells b false)→HC.get 2=some (.cells zz false)→HC.get 3=some (.cells (cI (mkG2 n d)) false)→K f [] HC:=by
  intro f HC f2 f3 f4 f5 h0 h1 h2 h3;apply hK;clear hK K;refine aA fun K hK=>?_;refine aQ (by decide) ?_;generalize (divS n (mkG2 n d)).1=qa at *;generalize (divS d (mkG2 n d)).1=qb at *
  have k1:(cI qa++AV.bool false::AV.bool false::wC zs).length=36:=by rw[List.length_append,c18,z18]
  have k2:(cI qa++AV.bool false::AV.bool false::wC zs).take 18=cI qa:=by rw[List.take_append_of_le_length (by rw[c18];decide)];exact(oL (c18 qa)).2.1
  have hcR:cI qa++cI qb=cR qa qb:=rfl;have hcl:=oL (aNg qa qb);have k3:(cI qa++AV.bool false::AV.bool false::wC zs).drop 36=[]:=List.drop_eq_nil_of_le (by rw[k1];decide);simp only[↓zP,zG,Nat.reduceLT,Nat.reduceEqDiff,Nat.reduceAdd,zD,reduceCtorEq,zI,f2,f5,h0,h3,oL la,oL (c18 _)];refine cE (q1 _) ?_;simp only[↓zP,zG,Nat.reduceLT,Nat.reduceEqDiff,Nat.reduceAdd,zD,zI,f3,f5,h1,h3,oL lb,oL (c18 _)];refine cE (q2 _) ?_;simp only[↓zP,zG,Nat.reduceLT,Nat.reduceEqDiff,Nat.reduceAdd,zD,reduceCtorEq,zI,Nat.reduceLeDiff,f4,h0,h1,h2,h3,oL (c18 _),z36,oL z36,k1,k2,k3,hcR,hcl];apply hK;clear hK K;simp only[↓zP];refine⟨rfl,_,by simp only[↓zP,zR,Nat.reduceEqDiff,f4,hcl];rfl,?_⟩;rfl
 simp only[↓zP,zG,Nat.reduceLT,Nat.reduceEqDiff,zI,f3',h1,oL lb];refine bF (sg _) ?_;simp only[↓zP,zG,Nat.reduceLT,Nat.reduceEqDiff,zI,e2];refine⟨fun hdn=>?_,fun hdn=>?_⟩
 · have em:mkG2 n d= -(Int.gcd n d:Int):=by unfold mkG2;rw[if_pos hdn]
   have ev:AV.agg (cO (negO (some (Int.gcd n d:Int))))=AV.agg (cI (mkG2 n d)):=by rw[em];rfl
   rw[ev] at ng;simp only[zG,zI,f5',h3,oL (c18 _)];refine bF (ng _) ?_;simp only[↓zP,zG,Nat.reduceEqDiff,zI,f5',h3,oL (c18 _)];refine key _ _ ?_ ?_ ?_ ?_ ?_ ?_ ?_ ?_
   · simp only[aC,ne_eq,Nat.reduceEqDiff,not_false_eq_true];exact f2'
   · simp only[aC,ne_eq,Nat.reduceEqDiff,not_false_eq_true];exact f3'
   · simp only[aC,ne_eq,Nat.reduceEqDiff,not_false_eq_true];exact f4'
   · simp only[aC,ne_eq,Nat.reduceEqDiff,not_false_eq_true];exact f5'
   · simp only[zI,Nat.reduceEqDiff,h0]
   · simp only[zI,Nat.reduceEqDiff,h1]
   · simp only[zI,Nat.reduceEqDiff,h2]
   · simp only[zI]
 · have em:mkG2 n d=(Int.gcd n d:Int):=by unfold mkG2;rw[if_neg hdn]
   rw[←em] at h3;refine key _ _ ?_ ?_ ?_ ?_ h0 h1 h2 h3
   · simp only[aC,ne_eq,Nat.reduceEqDiff,not_false_eq_true];exact f2'
   · simp only[aC,ne_eq,Nat.reduceEqDiff,not_false_eq_true];exact f3'
   · simp only[aC,ne_eq,Nat.reduceEqDiff,not_false_eq_true];exact f4'
   · simp only[aC,ne_eq,Nat.reduceEqDiff,not_false_eq_true];exact f5'
end Go.Proofs.YtjiignefffdelaaGreatDoor
