/-
  Parts of the proof of statement 4: KRd, KRe, KRf, KRg
-/
import Derived.Test.YtjiignefffdelaaGreatDoorA38
import Derived.Test.YtjiignefffdelaaGreatDoorA29
import Derived.Test.YtjiignefffdelaaGreatDoorA30
import Derived.Test.YtjiignefffdelaaGreatDoorA26
set_option linter.unusedVariables false
set_option maxRecDepth 100000
set_option maxHeartbeats 16000000
namespace Go.Proofs.YtjiignefffdelaaGreatDoor
open Go Go.Av Go.Num
attribute [local congr] aU aN aO aM aW aR aP aL
attribute [local irreducible] FC FOps FD2
theorem aNw {z:Int} (h:z.natAbs<2^62):z.natAbs<W^16:=w63 (by omega)
theorem aPm (x:Int) (H:Heap):Sound Tryz.prog gv 247 [.int .i64 x] H (.ret (.bool (decide (x<2147483648)&&decide (x> -2147483648)))) H:=by
 refine Sp bBa (by simp only[sf]) (by simp only[sf]) ?_ H;unfold W247;dsimp only
 cases h:decide (x<2147483648) with
 |true=>
  simp only[↓zP,zG,Nat.reduceLT,Nat.reduceEqDiff,zI,h];exact⟨rfl,_,by simp only[↓zP,zR];rfl,rfl⟩
 |false=>
  simp only[↓zP,zG,Nat.reduceLT,Nat.reduceEqDiff,zI,h];exact⟨rfl,_,by simp only[↓zP,zR];rfl,rfl⟩
theorem sH {x:Int} (h:x.natAbs<2^31) (H:Heap):Sound Tryz.prog gv 247 [.int .i64 x] H (.ret (.bool true)) H:=by
 have :=aPm x H
 rwa [decide_eq_true (show x<2147483648 by omega),decide_eq_true (show x> -2147483648 by omega)] at this
theorem iD {x y:Int} (hx:x.natAbs<2^31) (hy:y.natAbs<2^31) (H:Heap):Sound Tryz.prog gv 215 [.agg (cI x),.agg (cI y)] H (.ret (.agg (cI (x*y)))) H:=by
 refine Sp bAo (by simp only[sf,bK]) (by simp only[AV.free,bK]) ?_ H;unfold W215;dsimp only
 have hb:(x*y).natAbs<2^62:=by
  rw[Int.natAbs_mul];have :=Nat.mul_lt_mul'' hx hy
  have e:(2:Nat)^31*2^31=2^62:=by decide
  omega
 have wm:IntKind.i64.wrap (x*y)=x*y:=wrap_i64 (by omega) (by omega);have ho:=iY (z:=x*y) (by omega) (by omega);refine aA fun K hK=>?_;simp only[↓zP,zG,Nat.reduceLT,Nat.reduceEqDiff,Nat.reduceAdd,zI];apply hK;clear hK K;refine aA fun K hK=>?_;simp only[↓zP,zG,Nat.reduceLT,Nat.reduceEqDiff,Nat.reduceAdd,zI];refine bF (gB (z:=x) (by omega) _) ?_;simp only[↓zP,zG,Nat.reduceLT,Nat.reduceEqDiff,Nat.reduceAdd,zI];apply hK;clear hK K;refine aA fun K hK=>?_;simp only[↓zP,zG,Nat.reduceLT,Nat.reduceEqDiff,Nat.reduceAdd,zI];refine bF (gB (z:=y) (by omega) _) ?_;simp only[↓zP,zG,Nat.reduceLT,Nat.reduceEqDiff,Nat.reduceAdd,zI];apply hK;clear hK K;refine aA fun K hK=>?_;simp only[↓zP,zG,Nat.reduceLT,Nat.reduceEqDiff,zI];refine bF (sH hx _) ?_;simp only[↓zP,zG,Nat.reduceLT,Nat.reduceEqDiff,zI];refine bF (sH hy _) ?_;simp only[↓zP,zG,Nat.reduceLT,Nat.reduceEqDiff,zI,wm];refine bF (ho _) ?_;simp only[↓zP,zG,Nat.reduceEqDiff,Nat.reduceAdd,zI];refine⟨rfl,_,by simp only[↓zP,zR,Nat.reduceEqDiff,Nat.reduceAdd];rfl,?_⟩;rfl
theorem oI {x y:Int} (hx:x.natAbs<2^62) (hy:y.natAbs<2^62) (H:Heap):Sound Tryz.prog gv 243 [.agg (cI x),.agg (cI y)] H (.ret (.agg (cI (x+y)))) H:=by
 refine Sp bAw (by simp only[sf,bK]) (by simp only[AV.free,bK]) ?_ H;unfold W243;dsimp only;have wm:IntKind.i64.wrap (x+y)=x+y:=wrap_i64 (by omega) (by omega);have ho:=iY (z:=x+y) (by omega) (by omega);refine aA fun K hK=>?_;simp only[↓zP,zG,Nat.reduceLT,Nat.reduceEqDiff,Nat.reduceAdd,zI];apply hK;clear hK K;refine aA fun K hK=>?_;simp only[↓zP,zG,Nat.reduceLT,Nat.reduceEqDiff,Nat.reduceAdd,zI];refine bF (gB hx _) ?_;simp only[↓zP,zG,Nat.reduceLT,Nat.reduceEqDiff,Nat.reduceAdd,zI];apply hK;clear hK K;refine aA fun K hK=>?_;simp only[↓zP,zG,Nat.reduceLT,Nat.reduceEqDiff,Nat.reduceAdd,zI];refine bF (gB hy _) ?_;simp only[↓zP,zG,Nat.reduceLT,Nat.reduceEqDiff,Nat.reduceAdd,zI];apply hK;clear hK K;refine aA fun K hK=>?_;simp only[↓zP,zG,Nat.reduceLT,Nat.reduceEqDiff,zI,wm];refine bF (ho _) ?_;simp only[↓zP,zG,Nat.reduceEqDiff,Nat.reduceAdd,zI];refine⟨rfl,_,by simp only[↓zP,zR,Nat.reduceEqDiff,Nat.reduceAdd];rfl,?_⟩;rfl
theorem aTb {z:Int} (hz:z.natAbs<W^16) (H:Heap):Sound Tryz.prog gv 245 [.agg (cI z)] H (.ret (.agg (cI (-z)))) H:=by
 refine Sp bAy (by simp only[sf,bK]) (by simp only[AV.free,bK]) ?_ H;unfold W245;dsimp only;have hgood:=iC (IsI.enc hz);have hd:=iE false (decide (z<0)) (.limbs z.natAbs);have hn:=kK (!decide (z<0)) 0 (oS z.natAbs) (by have :=gV.2 hz;omega);rw[kT,qD (by rw[dR];exact hz),show sg (!decide (z<0)) z.natAbs= -z from by unfold sg;split<;>simp_all<;>omega] at hn;rw[cU hz] at hd;have hcz:AV.bool false::AV.bool (decide (z<0))::wC (limbs 16 z.natAbs)=cI z:=rfl;rw[hcz] at hd;have h1:(cI z).getD 1 undefA=.bool (decide (z<0)):=rfl;refine aA fun K hK=>?_;simp only[↓zP,zG,Nat.reduceLT,zI];apply hK;clear hK K;refine aA fun K hK=>?_;simp only[↓zP,zG,Nat.reduceLT,Nat.reduceEqDiff,zI];refine bF (hgood _) ?_;simp only[Option.isSome_some];simp only[↓zP,zG,Nat.reduceLT,zI];apply hK;clear hK K;refine aA fun K hK=>?_;refine aQ (by decide) ?_;simp only[↓zP,zG,Nat.reduceLT,Nat.reduceEqDiff,Nat.reduceAdd,zD,reduceCtorEq,zI,Nat.reduceLeDiff,h1];refine cE (hd _) ?_;simp only[Nat.reduceAdd];refine cE (hn _) ?_;simp only[cO];simp only[↓zP,zG,Nat.reduceEqDiff,Nat.reduceAdd,zD,reduceCtorEq,zI];apply hK;clear hK K;simp only[↓zP];refine⟨rfl,_,by simp only[↓zP,zR,Nat.reduceEqDiff];rfl,?_⟩;rfl
theorem aGg {x y:Int} (hx:x.natAbs<2^62) (hy:y.natAbs<2^62) (H:Heap):Sound Tryz.prog gv 214 [.agg (cI x),.agg (cI y)] H (.ret (.agg (cI (x -y)))) H:=by
 refine Sp bAn (by simp only[sf,bK]) (by simp only[AV.free,bK]) ?_ H;unfold W214;dsimp only;have ha:=oI hx (y:= -y) (by rwa [Int.natAbs_neg]);rw[←Int.sub_eq_add_neg] at ha;refine aA fun K hK=>?_;simp only[↓zP,zG,Nat.reduceLT,Nat.reduceEqDiff,Nat.reduceAdd,zI];apply hK;clear hK K;refine aA fun K hK=>?_;refine aQ (by decide) ?_;simp only[↓zP,zG,Nat.reduceLT,Nat.reduceEqDiff,Nat.reduceAdd,zD,reduceCtorEq,zI];refine cE (aTb (aNw hy) _) ?_;simp only[Nat.reduceAdd];refine cE (ha _) ?_;simp only[↓zP,zG,Nat.reduceEqDiff,Nat.reduceAdd,zD,reduceCtorEq,zI];apply hK;clear hK K;simp only[↓zP];refine⟨rfl,_,by simp only[↓zP,zR,Nat.reduceEqDiff,Nat.reduceAdd];rfl,?_⟩;rfl
theorem aSx {z:Int} (hz:z.natAbs<W^16) (H:Heap):Sound Tryz.prog gv 276 [.agg (cI z)] H (.ret (.agg (cI (z.natAbs:Int)))) H:=by
 refine Sp bBc (by simp only[sf,bK]) (by simp only[AV.free,bK]) ?_ H;unfold W276;dsimp only;have hgood:=iC (IsI.enc hz);have hd:=iE false (decide (z<0)) (.limbs z.natAbs);have hn:=kK false 0 (oS z.natAbs) (by have :=gV.2 hz;omega);rw[kT,qD (by rw[dR];exact hz),show sg false z.natAbs=(z.natAbs:Int) from rfl] at hn;rw[cU hz] at hd;have hcz:AV.bool false::AV.bool (decide (z<0))::wC (limbs 16 z.natAbs)=cI z:=rfl;rw[hcz] at hd;refine aA fun K hK=>?_;simp only[↓zP,zG,Nat.reduceLT,zI];apply hK;clear hK K;refine aA fun K hK=>?_;simp only[↓zP,zG,Nat.reduceLT,Nat.reduceEqDiff,zI];refine bF (hgood _) ?_;simp only[Option.isSome_some];simp only[↓zP,zG,Nat.reduceLT,zI];apply hK;clear hK K;simp only[↓zP,zG,Nat.reduceLT,Nat.reduceEqDiff,zI];refine bF (hd _) ?_;refine bF (hn _) ?_;simp only[cO];simp only[↓zP,zG,Nat.reduceEqDiff,Nat.reduceAdd,zI];refine⟨rfl,_,by simp only[↓zP,zR,Nat.reduceEqDiff];rfl,?_⟩;rfl
def sgnZ (z:Int):Int:=if z=0 then 0 else if z<0 then -1 else 1
theorem aPi {z:Int} (hz:z.natAbs<W^16) (H:Heap):Sound Tryz.prog gv 239 [.agg (cI z)] H (.ret (.int .i64 (sgnZ z))) H:=by
 refine Sp bAs (by simp only[sf,bK]) (by simp only[sf]) ?_ H;unfold W239;dsimp only;have hgood:=iC (IsI.enc hz);have hd:=iE false (decide (z<0)) (.limbs z.natAbs);rw[cU hz] at hd;have hcz:AV.bool false::AV.bool (decide (z<0))::wC (limbs 16 z.natAbs)=cI z:=rfl;rw[hcz] at hd;have h1:(cI z).getD 1 undefA=.bool (decide (z<0)):=rfl;unfold sgnZ;refine aA fun K hK=>?_;simp only[↓zP,zG,Nat.reduceLT,zI];apply hK;clear hK K;refine aA fun K hK=>?_;simp only[↓zP,zG,Nat.reduceLT,Nat.reduceEqDiff,zI];refine bF (hgood _) ?_;simp only[Option.isSome_some];simp only[↓zP,zG,Nat.reduceLT,Nat.reduceEqDiff,zI];refine bF (hd _) ?_;by_cases h0:z=0
 · have hb:(((dg z.natAbs).length:Int)==0)=true:=by
    rw[beq_iff_eq,zJ.2 (by omega)];rfl
   simp only[↓zP,zG,Nat.reduceLT,Nat.reduceEqDiff,zI,bT,hb];refine⟨rfl,_,by simp only[↓zP,zR];rfl,?_⟩;rw[if_pos h0];rfl
 · have hb:(((dg z.natAbs).length:Int)==0)=false:=by
    rw[beq_eq_false_iff_ne];intro h;have :=zJ.1 (List.eq_nil_of_length_eq_zero (l:=dg z.natAbs) (by omega));omega
   simp only[↓zP,zG,Nat.reduceLT,Nat.reduceEqDiff,zI,bT,hb];apply hK;clear hK K
   cases hn:decide (z<0) with
   |true=>
    rw[hn] at h1;simp only[↓zP,zG,Nat.reduceLT,Nat.reduceEqDiff,Nat.reduceAdd,zI,Nat.reduceLeDiff,h1];refine⟨rfl,_,by simp only[↓zP,zR];rfl,?_⟩;rw[if_neg h0,if_pos (of_decide_eq_true hn)];rfl
   |false=>
    rw[hn] at h1;simp only[↓zP,zG,Nat.reduceLT,Nat.reduceEqDiff,Nat.reduceAdd,zI,Nat.reduceLeDiff,h1];refine⟨rfl,_,by simp only[↓zP,zR];rfl,?_⟩;rw[if_neg h0,if_neg (of_decide_eq_false hn)];rfl
theorem mS {x y:Int} (hx:x.natAbs<W^16) (hy:y.natAbs<W^16) (H:Heap):Sound Tryz.prog gv 114 [.agg (cI x),.agg (cI y)] H (.ret (.int .i64 (cmpO (some x) (some y)))) H:=by
 refine Sp aYc (by simp only[sf,bK]) (by simp only[sf]) ?_ H;unfold W114;dsimp only;have gx:=iC (IsI.enc hx);have gy:=iC (IsI.enc hy);have dx:=iE false (decide (x<0)) (.limbs x.natAbs);have dy:=iE false (decide (y<0)) (.limbs y.natAbs);rw[cU hx] at dx;rw[cU hy] at dy;rw[show AV.bool false::AV.bool (decide (x<0))::wC (limbs 16 x.natAbs)=cI x from rfl] at dx;rw[show AV.bool false::AV.bool (decide (y<0))::wC (limbs 16 y.natAbs)=cI y from rfl] at dy
 have lx:(dg x.natAbs).length<2^29:=by have :=gV.2 hx;omega
 have ly:(dg y.natAbs).length<2^29:=by have :=gV.2 hy;omega
 have l1:=aDg (oS x.natAbs) (oS y.natAbs) lx ly 0 0;have l2:=aDg (oS y.natAbs) (oS x.natAbs) ly lx 0 0;rw[kT,kT] at l1 l2;have x1:(cI x).getD 1 undefA=.bool (decide (x<0)):=rfl;have y1:(cI y).getD 1 undefA=.bool (decide (y<0)):=rfl;simp only[cmpO];refine aA fun K hK=>?_;simp only[↓zP,zG,Nat.reduceLT,Nat.reduceEqDiff,zI];apply hK;clear hK K;refine aA fun K hK=>?_;simp only[↓zP,zG,Nat.reduceLT,Nat.reduceEqDiff,zI];refine bF (gx _) ?_;simp only[Option.isSome_some];simp only[↓zP,zG,Nat.reduceLT,Nat.reduceEqDiff,zI];apply hK;clear hK K;refine aA fun K hK=>?_;simp only[↓zP,zG,Nat.reduceLT,Nat.reduceEqDiff,zI];refine bF (gx _) ?_;simp only[Option.isSome_some];simp only[↓zP,zG,Nat.reduceLT,zI];apply hK;clear hK K;refine aA fun K hK=>?_;simp only[↓zP,zG,Nat.reduceLT,Nat.reduceEqDiff,zI];refine bF (gy _) ?_;simp only[Option.isSome_some];simp only[↓zP,zG,Nat.reduceLT,zI];apply hK;clear hK K;have tf:(true==false)=false:=rfl;have ft:(false==true)=false:=rfl;by_cases hx0:x<0
 · rw[decide_eq_true hx0] at x1
   by_cases hy0:y<0
   · rw[decide_eq_true hy0] at y1
     refine aA fun K hK=>?_;simp only[↓zP,zG,Nat.reduceLT,Nat.reduceEqDiff,Nat.reduceAdd,zI,Nat.reduceLeDiff,x1,y1];apply hK;clear hK K;refine aA fun K hK=>?_;simp only[↓zP,zG,Nat.reduceLT,Nat.reduceEqDiff,zI];refine bF (dx _) ?_;simp only[↓zP,zG,Nat.reduceLT];apply hK;clear hK K;refine aA fun K hK=>?_;simp only[↓zP,zG,Nat.reduceLT,Nat.reduceEqDiff,zI];refine bF (dy _) ?_;simp only[↓zP,zG,Nat.reduceLT];apply hK;clear hK K;refine aA fun K hK=>?_;simp only[↓zP,zG,Nat.reduceLT,Nat.reduceEqDiff,Nat.reduceAdd,zI,Nat.reduceLeDiff,x1];refine bF (dy _) ?_;simp only[↓zP,zG,Nat.reduceLT,Nat.reduceEqDiff,zI];refine bF (dx _) ?_;simp only[↓zP,zG,Nat.reduceLT];apply hK;clear hK K;refine aA fun K hK=>?_;simp only[↓zP,zG,Nat.reduceLT,Nat.reduceEqDiff];refine bF (l2 _) ?_;simp only[↓zP,zG,Nat.reduceLT];apply hK;clear hK K;refine aA fun K hK=>?_;simp only[↓zP,zG,Nat.reduceLT,Nat.reduceEqDiff];refine bF (l1 _) ?_;simp only[↓zP,zG,Nat.reduceLT];apply hK;clear hK K;by_cases h1:y.natAbs<x.natAbs
     · have e1:=decide_eq_true h1
       simp only[↓zP,zG,Nat.reduceLT,Nat.reduceEqDiff,e1];refine⟨rfl,_,by simp only[↓zP,zR];rfl,?_⟩;rw[if_pos (by omega)];rfl
     · have e1:=decide_eq_false h1
       by_cases h2:x.natAbs<y.natAbs
       · have e2:=decide_eq_true h2
         simp only[↓zP,zG,Nat.reduceLT,Nat.reduceEqDiff,e1,e2];refine⟨rfl,_,by simp only[↓zP,zR];rfl,?_⟩;rw[if_neg (by omega),if_pos (by omega)];rfl
       · have e2:=decide_eq_false h2
         simp only[↓zP,zG,Nat.reduceLT,Nat.reduceEqDiff,e1,e2];refine⟨rfl,_,by simp only[↓zP,zR];rfl,?_⟩;rw[if_neg (by omega),if_neg (by omega)];rfl
   · rw[decide_eq_false hy0] at y1
     simp only[↓zP,zG,Nat.reduceLT,Nat.reduceEqDiff,Nat.reduceAdd,zI,Nat.reduceLeDiff,x1,y1,tf];refine⟨rfl,_,by simp only[↓zP,zR];rfl,?_⟩;rw[if_pos (by omega)];rfl
 · rw[decide_eq_false hx0] at x1
   by_cases hy0:y<0
   · rw[decide_eq_true hy0] at y1
     simp only[↓zP,zG,Nat.reduceLT,Nat.reduceEqDiff,Nat.reduceAdd,zI,Nat.reduceLeDiff,x1,y1,ft];refine⟨rfl,_,by simp only[↓zP,zR];rfl,?_⟩;rw[if_neg (by omega),if_pos (by omega)];rfl
   · rw[decide_eq_false hy0] at y1
     refine aA fun K hK=>?_;simp only[↓zP,zG,Nat.reduceLT,Nat.reduceEqDiff,Nat.reduceAdd,zI,Nat.reduceLeDiff,x1,y1];apply hK;clear hK K;refine aA fun K hK=>?_;simp only[↓zP,zG,Nat.reduceLT,Nat.reduceEqDiff,zI];refine bF (dx _) ?_;simp only[↓zP,zG,Nat.reduceLT];apply hK;clear hK K;refine aA fun K hK=>?_;simp only[↓zP,zG,Nat.reduceLT,Nat.reduceEqDiff,zI];refine bF (dy _) ?_;simp only[↓zP,zG,Nat.reduceLT];apply hK;clear hK K;refine aA fun K hK=>?_;simp only[↓zP,zG,Nat.reduceLT,Nat.reduceEqDiff,Nat.reduceAdd,zI,Nat.reduceLeDiff,x1];apply hK;clear hK K;refine aA fun K hK=>?_;simp only[↓zP,zG,Nat.reduceLT,Nat.reduceEqDiff];refine bF (l1 _) ?_;simp only[↓zP,zG,Nat.reduceLT];apply hK;clear hK K;refine aA fun K hK=>?_;simp only[↓zP,zG,Nat.reduceLT,Nat.reduceEqDiff];refine bF (l2 _) ?_;simp only[↓zP,zG,Nat.reduceLT];apply hK;clear hK K;by_cases h1:x.natAbs<y.natAbs
     · have e1:=decide_eq_true h1
       simp only[↓zP,zG,Nat.reduceLT,Nat.reduceEqDiff,e1];refine⟨rfl,_,by simp only[↓zP,zR];rfl,?_⟩;rw[if_pos (by omega)];rfl
     · have e1:=decide_eq_false h1
       by_cases h2:y.natAbs<x.natAbs
       · have e2:=decide_eq_true h2
         simp only[↓zP,zG,Nat.reduceLT,Nat.reduceEqDiff,e1,e2];refine⟨rfl,_,by simp only[↓zP,zR];rfl,?_⟩;rw[if_neg (by omega),if_pos (by omega)];rfl
       · have e2:=decide_eq_false h2
         simp only[↓zP,zG,Nat.reduceLT,Nat.reduceEqDiff,e1,e2];refine⟨rfl,_,by simp only[↓zP,zR];rfl,?_⟩;rw[if_neg (by omega),if_neg (by omega)];rfl
end Go.Proofs.YtjiignefffdelaaGreatDoor
namespace Go.Proofs.YtjiignefffdelaaGreatDoor
open Go Go.Av Go.Geo Go.Num
attribute [local congr] aU aN aO aM aW aR aP aL
attribute [local irreducible] FC FOps FD2
theorem aDr {p q n:Nat} (hn:n<2^64) (e:n=p*4294967296+q) (hq:q<4294967296):IntKind.u64.wrap (p:Int)=p∧IntKind.u64.wrap ((p:Int)*4294967296)=(p:Int)*4294967296∧IntKind.u64.wrap (q:Int)=q∧IntKind.u64.wrap ((p:Int)*4294967296+(q:Int))=n:=by
 refine⟨?_,?_,?_,?_⟩<;>rw[wB (k:=.u64) rfl]<;>simp only[IntKind.bits]<;>omega
theorem aXg {n:Nat} (h:n<2^64):n=limb n 1*4294967296+limb n 0∧limb n 0<4294967296:=by
 have hW:W=4294967296:=rfl
 have e1:limb n 1=n / 4294967296%4294967296:=by simp[limb,hW]
 have e0:limb n 0=n%4294967296:=by simp[limb,hW]
 omega
theorem yH {z:Int} (h0: -2^63≤z) (h1:z<2^63) (H:Heap):Sound Tryz.prog gv 117 [.agg (cI z)] H (.ret (.tup [.int .i64 z,.bool true])) H:=by
 refine Sp aYf (by simp only[sf,bK]) (by simp only[sf]) ?_ H;unfold W117;dsimp only;have hz:z.natAbs<W^16:=w63 (by omega);have gz:=iC (IsI.enc hz);have lo:=iY (z:= -9223372036854775808) (by decide) (by decide);have hi:=iY (z:=9223372036854775807) (by decide) (by decide);have c1:=mS hz (y:= -9223372036854775808) (by decide);have c2:=mS hz (y:=9223372036854775807) (by decide);have d1:decide (cmpO (some z) (some (-9223372036854775808))<0)=false:=decide_eq_false (by simp only[cmpO];split<;>(try split)<;>omega);have d2:decide (cmpO (some z) (some 9223372036854775807)>0)=false:=decide_eq_false (by simp only[cmpO];split<;>(try split)<;>omega);obtain⟨s1,s2⟩:=aXg (n:=z.natAbs) (by omega);obtain⟨w1,w2,w3,w4⟩:=aDr (by omega) s1 s2
 have w5:IntKind.i64.wrap (z.natAbs:Int)=if z<0∧z.natAbs=2^63 then z else(z.natAbs:Int):=by
  by_cases h:z.natAbs=2^63
  · rw[if_pos ⟨by omega,h⟩,h]
    have :z= -2^63:=by omega
    rw[this];rfl
  · rw[if_neg (fun hh=>h hh.2)];exact wrap_i64 (by omega) (by omega)
 have hg1:(wC (limbs 16 z.natAbs)).getD 1 undefA=.int .u32 (limb z.natAbs 1:Nat):=by rw[iU (by rw[bE];decide),dL (by decide)]
 have hg0:(wC (limbs 16 z.natAbs)).getD 0 undefA=.int .u32 (limb z.natAbs 0:Nat):=by rw[iU (by rw[bE];decide),dL (by decide)]
 have hl:=iL (.limbs z.natAbs)
 have c18:∀z,(cI z).length=18:=fun z=>by simp[cI,bH,bE]
 have e1:(cI z).getD 1 undefA=.bool (decide (z<0)):=rfl;have e2:(cI z).getD 2 undefA=.int .u32 (limb z.natAbs 0:Nat):=hg0;have e3:(cI z).getD 3 undefA=.int .u32 (limb z.natAbs 1:Nat):=hg1;refine aA fun K hK=>?_;simp only[↓zP,zG,Nat.reduceLT,zI];apply hK;clear hK K;refine aA fun K hK=>?_;simp only[↓zP,zG,Nat.reduceLT,Nat.reduceEqDiff,zI];refine bF (gz _) ?_;simp only[Option.isSome_some];simp only[↓zP,zG,Nat.reduceLT,zI];apply hK;clear hK K;refine aA fun K hK=>?_;simp only[↓zP,zI];refine bF (lo _) ?_;simp only[↓zP,zG,Nat.reduceLT,Nat.reduceEqDiff,Nat.reduceAdd,zI,oL (c18 (-9223372036854775808))];apply hK;clear hK K;refine aA fun K hK=>?_;simp only[↓zP,zI];refine bF (hi _) ?_;simp only[↓zP,zG,Nat.reduceLT,Nat.reduceEqDiff,Nat.reduceAdd,zI,oL (c18 9223372036854775807)];apply hK;clear hK K;refine aA fun K hK=>?_;simp only[↓zP,zG,Nat.reduceLT,Nat.reduceEqDiff,Nat.reduceAdd,zI];refine bF (c1 _) ?_;simp only[↓zP,zG,Nat.reduceLT,Nat.reduceEqDiff,Nat.reduceAdd,zI,d1];refine bF (c2 _) ?_;simp only[↓zP,zG,Nat.reduceLT,Nat.reduceEqDiff,zI,d2];apply hK;clear hK K;refine aA fun K hK=>?_;simp only[↓zP,zG,Nat.reduceLT,Nat.reduceEqDiff,Nat.reduceAdd,zI,Nat.reduceLeDiff,fS,e2,e3,w1,w2,w3,w4,w5];apply hK;clear hK K;by_cases hn:z<0
 · rw[decide_eq_true hn] at e1
   have w6:IntKind.i64.wrap (0 -(if z<0∧z.natAbs=2^63 then z else(z.natAbs:Int)))=z:=by
    by_cases h:z.natAbs=2^63
    · rw[if_pos ⟨hn,h⟩]
      have :z= -2^63:=by omega
      rw[this];rfl
    · rw[if_neg (fun hh=>h hh.2),wrap_i64 (by omega) (by omega)];omega
   simp only[↓zP,zG,Nat.reduceLT,Nat.reduceEqDiff,Nat.reduceAdd,zI,Nat.reduceLeDiff,e1,w6];refine⟨rfl,_,by simp only[↓zP,zR,Nat.reduceEqDiff];rfl,?_⟩;rfl
 · rw[decide_eq_false hn] at e1
   simp only[↓zP,zG,Nat.reduceLT,Nat.reduceEqDiff,Nat.reduceAdd,zI,Nat.reduceLeDiff,e1];refine⟨rfl,_,by simp only[↓zP,zR,Nat.reduceEqDiff];rfl,?_⟩;rw[if_neg (fun hh=>hn hh.1),show(z.natAbs:Int)=z by omega];rfl
theorem aGe {a b:Int} (ha:a.natAbs<2^62) (hb:b.natAbs<2^62) (H:Heap):Sound Tryz.prog gv 238 [.agg (cI a),.agg (cI b)] H (.ret (.agg (cI (Int.gcd a b)))) H:=by
 refine Sp bAr (by simp only[sf,bK]) (by simp only[AV.free,bK]) ?_ H;unfold W238;dsimp only;refine aA fun K hK=>?_;simp only[↓zP,zG,Nat.reduceLT,Nat.reduceEqDiff,Nat.reduceAdd,zI];apply hK;clear hK K;refine aA fun K hK=>?_;simp only[↓zP,zG,Nat.reduceLT,Nat.reduceEqDiff,Nat.reduceAdd,zI];refine bF (gB ha _) ?_;simp only[↓zP,zG,Nat.reduceLT,Nat.reduceEqDiff,Nat.reduceAdd,zI];apply hK;clear hK K;refine aA fun K hK=>?_;simp only[↓zP,zG,Nat.reduceLT,Nat.reduceEqDiff,Nat.reduceAdd,zI];refine bF (gB hb _) ?_;simp only[↓zP,zG,Nat.reduceLT,Nat.reduceEqDiff,Nat.reduceAdd,zI];apply hK;clear hK K;refine aA fun K hK=>?_;simp only[↓zP,zG,Nat.reduceLT,Nat.reduceEqDiff,zI];refine aI (dM [5,7] (fun m vs H'=>H'=(((⟨0,.nil⟩:Heap).alloc (.cells (cI a) false)).alloc (.cells (cI b) false)).alloc (.cells (.bool false::.bool false::wC zs) false)∧∃x y:Int,vs=[.int .i64 x,.int .i64 y]∧x.natAbs<2^62∧y.natAbs<2^62∧m=y.natAbs∧Int.gcd x y=Int.gcd a b) b.natAbs (by rfl) ?_ ?_)
 · exact⟨rfl,a,b,by simp only[sm,aC,Nat.reduceEqDiff],ha,hb,rfl,rfl⟩
 rintro m f H hk ⟨rfl,x,y,hv,hx,hy,rfl,hg⟩;simp only[sm,List.cons.injEq,and_true] at hv;obtain⟨h0,h1⟩:=hv
 have f4:f 4=.ref 2 0:=by rw[hk 4 rfl];simp only[aC,ne_eq,Nat.reduceEqDiff,not_false_eq_true]
 by_cases hy0:y=0
 · subst hy0
   have ho:=iY (z:=x) (by omega) (by omega);have hab:=aSx (z:=x) (aNw hx)
   have hx':(x.natAbs:Int)=Int.gcd a b:=by rw[←hg];simp[Int.gcd]
   rw[hx'] at hab;simp only[↓zP,zG,Nat.reduceLT,Nat.reduceEqDiff,zI,h1,h0,show((0:Int) != 0)=false from rfl];refine bF (ho _) ?_;refine bF (hab _) ?_;simp only[↓zP,zG,Nat.reduceEqDiff,Nat.reduceAdd,zI,f4];refine⟨rfl,_,by simp only[↓zP,zR,Nat.reduceEqDiff,Nat.reduceAdd,f4];rfl,?_⟩;rfl
 · have hb1:(y != 0)=true:=by simpa using hy0
   have hlt:(x.tmod y).natAbs<y.natAbs:=by
    rw[natAbs_tmod];exact Nat.mod_lt _ (by omega)
   simp only[↓zP,zG,Nat.reduceLT,zI,h1,hb1];refine aI ?_;simp only[↓zP,zG,Nat.reduceLT,Nat.reduceEqDiff,zI,h0,h1];rw[if_neg hy0];simp only[zG];exact⟨_,hlt,trivial,y,x.tmod y,by simp only[],hy,by omega,rfl,by rw[aCf,hg]⟩
theorem aLx {n m:Int} (hm:0<m) (hd:m∣n) (hn:n.natAbs<2^62) (H:Heap):Sound Tryz.prog gv 278 [.int .i64 n,.int .i64 m] H (.ret (.int .i64 (n / m))) H:=by
 refine Sp bBd (by simp only[sf]) (by simp only[sf]) ?_ H;unfold W278;dsimp only;have e1:n.tdiv m=n / m:=Int.tdiv_eq_ediv_of_dvd hd;have e2:n.tmod m=0:=Int.tmod_eq_zero_of_dvd hd
 have hw:IntKind.i64.wrap (n / m)=n / m:=by
  obtain⟨k,rfl⟩:=hd;rw[Int.mul_ediv_cancel_left _ (by omega)]
  have :k.natAbs≤(m*k).natAbs:=by
   rw[Int.natAbs_mul];exact Nat.le_mul_of_pos_left _ (by omega)
  exact wrap_i64 (by omega) (by omega)
 have hm0:¬m=0:=by omega
 simp only[↓zP,zG,Nat.reduceLT,Nat.reduceEqDiff,zI,e1,e2,hw,hm0,show((0:Int) != 0)=false from rfl];refine⟨rfl,_,by simp only[↓zP,zR];rfl,?_⟩;rfl
theorem aGf {n m:Int} (hm:0<m) (hd:m∣n) (hn:n.natAbs<2^62) (hm2:m.natAbs<2^62) (H:Heap):Sound Tryz.prog gv 240 [.agg (cI n),.agg (cI m)] H (.ret (.agg (cI (n / m)))) H:=by
 refine Sp bAt (by simp only[sf,bK]) (by simp only[AV.free,bK]) ?_ H;unfold W240;dsimp only
 have hb:(m != 0)=true:=by rw[bne_iff_ne];omega
 have hf:=aLx hm hd hn
 have hq:(n / m).natAbs<2^62:=by
  obtain⟨k,rfl⟩:=hd;rw[Int.mul_ediv_cancel_left _ (by omega)]
  have :k.natAbs≤(m*k).natAbs:=by
   rw[Int.natAbs_mul];exact Nat.le_mul_of_pos_left _ (by omega)
  omega
 have ho:=iY (z:=n / m) (by omega) (by omega);refine aA fun K hK=>?_;simp only[↓zP,zG,Nat.reduceLT,Nat.reduceEqDiff,Nat.reduceAdd,zI];apply hK;clear hK K;refine aA fun K hK=>?_;simp only[↓zP,zG,Nat.reduceLT,Nat.reduceEqDiff,Nat.reduceAdd,zI];refine bF (gB hn _) ?_;simp only[↓zP,zG,Nat.reduceLT,Nat.reduceEqDiff,Nat.reduceAdd,zI];apply hK;clear hK K;refine aA fun K hK=>?_;simp only[↓zP,zG,Nat.reduceLT,Nat.reduceEqDiff,Nat.reduceAdd,zI];refine bF (gB hm2 _) ?_;simp only[↓zP,zG,Nat.reduceLT,Nat.reduceEqDiff,Nat.reduceAdd,zI];apply hK;clear hK K;refine aA fun K hK=>?_;simp only[↓zP,zG,Nat.reduceLT,Nat.reduceEqDiff,zI,hb];refine bF (hf _) ?_;refine bF (ho _) ?_;simp only[↓zP,zG,Nat.reduceEqDiff,Nat.reduceAdd,zI];refine⟨rfl,_,by simp only[↓zP,zR,Nat.reduceEqDiff,Nat.reduceAdd];rfl,?_⟩;rfl
theorem jK {a b:Geo.V} {A B:Nat} (ha:Near A a) (hb:Near B b) (hs:A+B<2^62) (H:Heap):Sound Tryz.prog gv 116 [.agg (ivC a),.agg (ivC b)] H (.ret (.agg (ivC (Geo.sub a b)))) H:=by
 obtain⟨a1,a2,a3⟩:=ha;obtain⟨b1,b2,b3⟩:=hb;have w1:IntKind.i64.wrap (a.x -b.x)=a.x -b.x:=cJ (B:=A+B) (by omega) (by omega);have w2:IntKind.i64.wrap (a.y -b.y)=a.y -b.y:=cJ (B:=A+B) (by omega) (by omega);have w3:IntKind.i64.wrap (a.z -b.z)=a.z -b.z:=cJ (B:=A+B) (by omega) (by omega);refine Sp aYe (by simp only[sf,bA]) (by simp only[sf,bA]) ?_ H;unfold W116;dsimp only;simp only[↓zP,zG,Nat.reduceLT,Nat.reduceEqDiff,Nat.reduceAdd,zI,Nat.reduceLeDiff,ivC,fS,w1,w2,w3];exact⟨rfl,_,by simp only[↓zP,zR,Nat.reduceEqDiff,Nat.reduceAdd];rfl,rfl⟩
def vltB (a b:Geo.V):Bool:=decide (a.x<b.x)||(decide (a.x=b.x)&&(decide (a.y<b.y)||(decide (a.y=b.y)&&decide (a.z<b.z))))
theorem mC {a b:Geo.V}:vltB a b=true↔VLt a b:=by
 unfold vltB VLt;simp only[Bool.or_eq_true,Bool.and_eq_true,decide_eq_true_eq]
theorem yJ (a b:Geo.V) (H:Heap):Sound Tryz.prog gv 161 [.agg (ivC a),.agg (ivC b)] H (.ret (.bool (vltB a b))) H:=by
 refine Sp aZh (by simp only[sf,bA]) (by simp only[sf]) ?_ H;unfold W161;dsimp only;by_cases h0:a.x=b.x
 · have e0:(a.x != b.x)=false:=by simp[h0]
   by_cases h1:a.y=b.y
   · have e1:(a.y != b.y)=false:=by simp[h1]
     have :vltB a b=decide (a.z<b.z):=by simp[vltB,h0,h1]
     rw[this];simp only[↓zP,zG,Nat.reduceLT,Nat.reduceEqDiff,Nat.reduceAdd,zI,Nat.reduceLeDiff,ivC,fS,e0,e1];exact⟨rfl,_,by simp only[↓zP,zR];rfl,rfl⟩
   · have e1:(a.y != b.y)=true:=by simp[h1]
     have :vltB a b=decide (a.y<b.y):=by simp[vltB,h0,h1]
     rw[this];simp only[↓zP,zG,Nat.reduceLT,Nat.reduceEqDiff,Nat.reduceAdd,zI,Nat.reduceLeDiff,ivC,fS,e0,e1];exact⟨rfl,_,by simp only[↓zP,zR];rfl,rfl⟩
 · have e0:(a.x != b.x)=true:=by simp[h0]
   have :vltB a b=decide (a.x<b.x):=by simp[vltB,h0]
   rw[this];simp only[↓zP,zG,Nat.reduceLT,Nat.reduceEqDiff,Nat.reduceAdd,zI,Nat.reduceLeDiff,ivC,fS,e0];exact⟨rfl,_,by simp only[↓zP,zR];rfl,rfl⟩
theorem aGp {v:Geo.V} {B:Nat} (hv:Near B v) (hB:B<2^61) (H:Heap):Sound Tryz.prog gv 241 [.agg (ivC v)] H (.ret (.bool true)) H:=by
 refine Sp bAu (by simp only[sf,bA]) (by simp only[sf]) ?_ H;unfold W241;dsimp only;simp only[↓zP,zG,Nat.reduceLT,zI];refine bB [] (fun i vs H'=>H'=((⟨0,.nil⟩:Heap).alloc (.cells (ivC v) false))) 0 3 (by decide) (by decide) (by decide) ?_ ?_ ?_ ?_ ?_
 · simp only[aC];rfl
 · rfl
 · rintro i f H1 h0 hi hk e1 rfl
   simp only[↓zP,zG,Nat.reduceLT,zI,e1];exact⟨trivial,trivial,congrArg AV.bool (decide_eq_decide.2 (by omega))⟩
 · rintro i f H1 h0 hi hk e1 rfl
   have f1:f 1=.ref 0 0:=by rw[hk 1 rfl];simp only[aC,ne_eq,Nat.reduceEqDiff,not_false_eq_true]
   have hg:=dB v hi;have hb:=Near.c hv i;have d1:decide (v.at i≥2305843009213693952)=false:=decide_eq_false (by omega);have d2:decide (v.at i≤-2305843009213693952)=false:=decide_eq_false (by omega)
   have h3:i+1≤3:=by omega
   refine aI ?_;simp only[↓zP,zG,Nat.reduceLT,Nat.reduceEqDiff,zI,f1,e1,aD,hi,aG,hg,d1,d2,h3]
 · rintro f H1 hk rfl
   simp only[↓zP];exact⟨rfl,_,by simp only[↓zP,zR];rfl,rfl⟩
theorem aNu {Z a b c:List AV} (hZ:Z.length=54) (ha:a.length=18) (hb:b.length=18) (hc:c.length=18):
 (if 18≤Z.length then if 36≤(a++Z.drop 18).length then if 54≤((a++Z.drop 18).take 18++b++(a++Z.drop 18).drop 36).length then
   some (((a++Z.drop 18).take 18++b++(a++Z.drop 18).drop 36).take 36++c++((a++Z.drop 18).take 18++b++(a++Z.drop 18).drop 36).drop 54) else none else none else none)=some (a++(b++c)):=by
 have e1:(a++Z.drop 18).take 18=a:=by rw[List.take_append_of_le_length (by omega),List.take_of_length_le (by omega)]
 have e2:(a++Z.drop 18).drop 36=Z.drop 36:=by rw[List.drop_append,List.drop_of_length_le (by omega),ha,List.drop_drop,List.nil_append]
 rw[e1,e2]
 have l1:(a++b).length=36:=by simp[ha,hb]
 have e3:(a++b++Z.drop 36).take 36=a++b:=by rw[List.take_append_of_le_length (by omega),List.take_of_length_le (by omega)]
 have e4:(a++b++Z.drop 36).drop 54=[]:=List.drop_of_length_le (by simp[ha,hb,hZ]);rw[e3,e4,if_pos (by omega),if_pos (by simp[ha,hZ]),if_pos (by simp[ha,hb,hZ]),List.append_nil,List.append_assoc]
theorem lZ {v:Geo.V} (hv:∀i,I64 (v.at i)) (H:Heap):Sound Tryz.prog gv 119 [.agg (ivC v)] H (.ret (.agg (c3 fun i=>cI (v.at i)))) H:=by
 refine Sp aYh (by simp only[sf,bA]) (by simp only[sf];exact dI fun i _=>bK _) ?_ H;unfold W119;dsimp only;have o0:∀H,Sound Tryz.prog gv 172 [.int .i64 v.x] H (.ret (.agg (cI v.x))) H:=iY (hv 0).1 (hv 0).2;have o1:∀H,Sound Tryz.prog gv 172 [.int .i64 v.y] H (.ret (.agg (cI v.y))) H:=iY (hv 1).1 (hv 1).2;have o2:∀H,Sound Tryz.prog gv 172 [.int .i64 v.z] H (.ret (.agg (cI v.z))) H:=iY (hv 2).1 (hv 2).2;refine aA fun K hK=>?_;simp only[↓zP,zG,Nat.reduceLT,zI];apply hK;clear hK K;refine aA fun K hK=>?_;refine aQ (by decide) ?_;simp only[↓zP,zG,Nat.reduceLT,Nat.reduceEqDiff,Nat.reduceAdd,zD,reduceCtorEq,zI,Nat.reduceLeDiff,fS,ivC,kW];refine cE (o0 _) ?_;simp only[↓zP,zG,Nat.reduceLT,Nat.reduceEqDiff,Nat.reduceAdd,zD,reduceCtorEq,zI,Nat.reduceLeDiff,fS];refine cE (o1 _) ?_;simp only[↓zP,zG,Nat.reduceLT,Nat.reduceEqDiff,Nat.reduceAdd,zD,reduceCtorEq,zI,fS];refine cE (o2 _) ?_;simp only[↓zP,zG,Nat.reduceLT,Nat.reduceEqDiff,Nat.reduceAdd,zD,reduceCtorEq,zI];rw[aNu (cK fun _ _=>bM 0) (bM _) (bM _) (bM _)];have hr:cI v.x++(cI v.y++cI v.z)=c3 fun i=>cI (v.at i):=rfl;rw[hr];have hl:(c3 fun i=>cI (v.at i)).length=54:=cK fun _ _=>bM _;have hz:(c3 fun _=>cI 0).length=54:=cK fun _ _=>bM _;simp only[zG,Nat.reduceAdd,zD,zI,oL hl,oL hz];apply hK;clear hK K;simp only[↓zP];refine⟨rfl,_,by simp only[↓zP,zR,Nat.reduceEqDiff,oL hl];rfl,?_⟩;rfl
theorem aUk {x y:Int} (hx:x.natAbs<2^31) (hy:y.natAbs<2^31):(x*y).natAbs<2^62:=by
 rw[Int.natAbs_mul];have :=Nat.mul_lt_mul'' hx hy
 have e:(2:Nat)^31*2^31=2^62:=by decide
 omega
theorem rL {a b c d:Int} (ha:a.natAbs<2^31) (hb:b.natAbs<2^31) (hc:c.natAbs<2^31) (hd:d.natAbs<2^31) (H:Heap):Sound Tryz.prog gv 173 [.agg (cI a),.agg (cI b),.agg (cI c),.agg (cI d)] H (.ret (.agg (cI (a*b -c*d)))) H:=by
 refine Sp aZt (by simp only[sf,bK]) (by simp only[AV.free,bK]) ?_ H;unfold W173;dsimp only;have m1:=iD ha hb;have m2:=iD hc hd;have m3:=aGg (aUk ha hb) (aUk hc hd);generalize a*b=p at *;generalize c*d=q at *;refine aA fun K hK=>?_;simp only[↓zP,zG,Nat.reduceLT,Nat.reduceEqDiff,Nat.reduceAdd,zI];apply hK;clear hK K;refine aA fun K hK=>?_;refine aQ (by decide) ?_;simp only[↓zP,zG,Nat.reduceLT,Nat.reduceEqDiff,Nat.reduceAdd,zD,reduceCtorEq,zI];refine cE (m1 _) ?_;simp only[↓zP,zG,Nat.reduceLT,Nat.reduceEqDiff,Nat.reduceAdd,zD,reduceCtorEq,zI];refine cE (m2 _) ?_;simp only[Nat.reduceAdd];refine cE (m3 _) ?_;simp only[↓zP,zG,Nat.reduceEqDiff,Nat.reduceAdd,zD,reduceCtorEq,zI];apply hK;clear hK K;simp only[↓zP];refine⟨rfl,_,by simp only[↓zP,zR,Nat.reduceEqDiff,Nat.reduceAdd];rfl,?_⟩;rfl
theorem sV (c:Nat→List AV) (h:∀i,i<3→(c i).length=18):(c3 c).length=54∧(c3 c).take 18=c 0∧((c3 c).drop 18).take 18=c 1∧((c3 c).drop 36).take 18=c 2:=
 ⟨cK h,gE h (i:=0) (by decide),gE h (i:=1) (by decide),gE h (i:=2) (by decide)⟩
theorem aLo {v w:Geo.V} {A B:Nat} (hv:Near A v) (hw:Near B w) (hA:A<2^31) (hB:B<2^31) (hs:3*(A*B)<2^62) (H:Heap):Sound Tryz.prog gv 208 [.agg (c3 fun i=>cI (v.at i)),.agg (c3 fun i=>cI (w.at i))] H (.ret (.agg (cI (Geo.dot v w)))) H:=by
 refine Sp bAg (by simp only[sf,dI fun i _=>bK _]) (by simp only[AV.free,bK]) ?_ H;unfold W208;dsimp only;have bv:=fun i=>Near.c hv i;have bw:=fun i=>Near.c hw i;have hb0:=aY hv.1 hw.1;have hb1:=aY hv.2.1 hw.2.1;have hb2:=aY hv.2.2 hw.2.2;have m0:∀H,Sound Tryz.prog gv 215 [.agg (cI (v.at 0)),.agg (cI (w.at 0))] H (.ret (.agg (cI (v.x*w.x)))) H:=iD (by have :=bv 0;omega) (by have :=bw 0;omega);have m1:∀H,Sound Tryz.prog gv 215 [.agg (cI (v.at 1)),.agg (cI (w.at 1))] H (.ret (.agg (cI (v.y*w.y)))) H:=iD (by have :=bv 1;omega) (by have :=bw 1;omega);have m2:∀H,Sound Tryz.prog gv 215 [.agg (cI (v.at 2)),.agg (cI (w.at 2))] H (.ret (.agg (cI (v.z*w.z)))) H:=iD (by have :=bv 2;omega) (by have :=bw 2;omega);have a1:=oI (x:=v.x*w.x) (y:=v.y*w.y) (by omega) (by omega);have a2:=oI (x:=v.x*w.x+v.y*w.y) (y:=v.z*w.z) (by omega) (by omega);have e:v.x*w.x+v.y*w.y+v.z*w.z=Geo.dot v w:=rfl;rw[e] at a2;have lv:=sV (fun i=>cI (v.at i)) (fun i _=>bM _);have lw:=sV (fun i=>cI (w.at i)) (fun i _=>bM _);refine aA fun K hK=>?_;simp only[↓zP,zG,Nat.reduceLT,Nat.reduceEqDiff,Nat.reduceAdd,zI];apply hK;clear hK K;refine aA fun K hK=>?_;simp only[↓zP,zG,Nat.reduceLT,Nat.reduceEqDiff,Nat.reduceAdd,zI,Nat.reduceLeDiff,fS,lv,lw];refine bF (m0 _) ?_;simp only[↓zP,zG,Nat.reduceLT,Nat.reduceEqDiff,Nat.reduceAdd,zI];apply hK;clear hK K;refine aA fun K hK=>?_;refine aQ (by decide) ?_;simp only[↓zP,zG,Nat.reduceLT,Nat.reduceEqDiff,Nat.reduceAdd,zD,reduceCtorEq,zI,Nat.reduceLeDiff,fS,lv,lw];refine cE (m1 _) ?_;simp only[Nat.reduceAdd];refine cE (a1 _) ?_;simp only[↓zP,zG,Nat.reduceEqDiff,Nat.reduceAdd,zD,reduceCtorEq,zI];apply hK;clear hK K;refine aA fun K hK=>?_;refine aQ (by decide) ?_;simp only[↓zP,zG,Nat.reduceLT,Nat.reduceEqDiff,Nat.reduceAdd,zD,reduceCtorEq,zI,Nat.reduceMul,fS,lv,lw];refine cE (m2 _) ?_;simp only[Nat.reduceAdd];refine cE (a2 _) ?_;simp only[↓zP,zG,Nat.reduceEqDiff,Nat.reduceAdd,zD,reduceCtorEq,zI];apply hK;clear hK K;simp only[↓zP];refine⟨rfl,_,by simp only[↓zP,zR,Nat.reduceEqDiff,Nat.reduceAdd];rfl,?_⟩;rfl
theorem aDa {v w:Geo.V} {A B:Nat} (hv:Near A v) (hw:Near B w) (hA:A<2^31) (hB:B<2^31) (H:Heap):Sound Tryz.prog gv 118 [.agg (c3 fun i=>cI (v.at i)),.agg (c3 fun i=>cI (w.at i))] H (.ret (.agg (c3 fun i=>cI ((Geo.cross v w).at i)))) H:=by
 refine Sp aYg (by simp only[sf,dI fun i _=>bK _]) (by simp only[sf];exact dI fun i _=>bK _) ?_ H;unfold W118;dsimp only;have bv:=fun i=>Near.c hv i;have bw:=fun i=>Near.c hw i;have m0:∀H,Sound Tryz.prog gv 173 [.agg (cI (v.at 1)),.agg (cI (w.at 2)),.agg (cI (v.at 2)),.agg (cI (w.at 1))] H (.ret (.agg (cI ((Geo.cross v w).at 0)))) H:=rL (by have :=bv 1;omega) (by have :=bw 2;omega) (by have :=bv 2;omega) (by have :=bw 1;omega);have m1:∀H,Sound Tryz.prog gv 173 [.agg (cI (v.at 2)),.agg (cI (w.at 0)),.agg (cI (v.at 0)),.agg (cI (w.at 2))] H (.ret (.agg (cI ((Geo.cross v w).at 1)))) H:=rL (by have :=bv 2;omega) (by have :=bw 0;omega) (by have :=bv 0;omega) (by have :=bw 2;omega);have m2:∀H,Sound Tryz.prog gv 173 [.agg (cI (v.at 0)),.agg (cI (w.at 1)),.agg (cI (v.at 1)),.agg (cI (w.at 0))] H (.ret (.agg (cI ((Geo.cross v w).at 2)))) H:=rL (by have :=bv 0;omega) (by have :=bw 1;omega) (by have :=bv 1;omega) (by have :=bw 0;omega);generalize Geo.cross v w=u at *;have lv:=sV (fun i=>cI (v.at i)) (fun i _=>bM _);have lw:=sV (fun i=>cI (w.at i)) (fun i _=>bM _);have hl:(c3 fun i=>cI (u.at i)).length=54:=cK fun _ _=>bM _;have hz:(c3 fun _=>cI 0).length=54:=cK fun _ _=>bM _;refine aA fun K hK=>?_;simp only[↓zP,zG,Nat.reduceLT,Nat.reduceEqDiff,Nat.reduceAdd,zI,kW];apply hK;clear hK K;refine aA fun K hK=>?_;refine aQ (by decide) ?_;simp only[↓zP,zG,Nat.reduceLT,Nat.reduceEqDiff,Nat.reduceAdd,zD,reduceCtorEq,zI,Nat.reduceLeDiff,Nat.reduceMul,fS,lv,lw,kW];refine cE (m0 _) ?_;simp only[↓zP,zG,Nat.reduceLT,Nat.reduceEqDiff,Nat.reduceAdd,zD,reduceCtorEq,zI,Nat.reduceLeDiff,Nat.reduceMul,fS,lv,lw];refine cE (m1 _) ?_;simp only[↓zP,zG,Nat.reduceLT,Nat.reduceEqDiff,Nat.reduceAdd,zD,reduceCtorEq,zI,Nat.reduceLeDiff,fS,lv,lw];refine cE (m2 _) ?_;simp only[↓zP,zG,Nat.reduceLT,Nat.reduceEqDiff,Nat.reduceAdd,zD,reduceCtorEq,zI];rw[aNu (cK fun _ _=>bM 0) (bM _) (bM _) (bM _)];have hr:cI (u.at 0)++(cI (u.at 1)++cI (u.at 2))=c3 fun i=>cI (u.at i):=rfl;rw[hr];simp only[zG,Nat.reduceAdd,zD,zI,oL hl,oL hz];apply hK;clear hK K;simp only[↓zP];refine⟨rfl,_,by simp only[↓zP,zR,Nat.reduceEqDiff,Nat.reduceAdd,oL hl];rfl,?_⟩;rfl
theorem aSz {v w:Geo.V} {A B:Nat} (hv:Near A v) (hw:Near B w) (hA:A<2^31) (hB:B<2^31) (hs:3*(A*B)<2^62) (H:Heap):Sound Tryz.prog gv 168 [.agg (ivC v),.agg (ivC w)] H (.ret (.agg (cI (Geo.dot v w)))) H:=by
 have iv:∀i,I64 (v.at i):=fun i=>by have :=Near.c hv i;unfold I64;omega
 have iw:∀i,I64 (w.at i):=fun i=>by have :=Near.c hw i;unfold I64;omega
 refine Sp aZo (by simp only[sf,bA]) (by simp only[AV.free,bK]) ?_ H;unfold W168;dsimp only;refine aA fun K hK=>?_;simp only[↓zP,zG,Nat.reduceLT,Nat.reduceEqDiff,Nat.reduceAdd,zI];apply hK;clear hK K;refine aA fun K hK=>?_;refine aQ (by decide) ?_;simp only[↓zP,zG,Nat.reduceLT,Nat.reduceEqDiff,Nat.reduceAdd,zD,reduceCtorEq,zI,oL (aG v)];refine cE (lZ iv _) ?_;simp only[↓zP,zG,Nat.reduceLT,Nat.reduceEqDiff,Nat.reduceAdd,zD,reduceCtorEq,zI,oL (aG w)];refine cE (lZ iw _) ?_;simp only[Nat.reduceAdd];refine cE (aLo hv hw hA hB hs _) ?_;simp only[↓zP,zG,Nat.reduceEqDiff,Nat.reduceAdd,zD,reduceCtorEq,zI];apply hK;clear hK K;simp only[↓zP];refine⟨rfl,_,by simp only[↓zP,zR,Nat.reduceEqDiff,Nat.reduceAdd];rfl,?_⟩;rfl
theorem aLn {v w:Geo.V} {A B:Nat} (hv:Near A v) (hw:Near B w) (hA:A<2^31) (hB:B<2^31) (H:Heap):Sound Tryz.prog gv 65 [.agg (ivC v),.agg (ivC w)] H (.ret (.agg (c3 fun i=>cI ((Geo.cross v w).at i)))) H:=by
 have iv:∀i,I64 (v.at i):=fun i=>by have :=Near.c hv i;unfold I64;omega
 have iw:∀i,I64 (w.at i):=fun i=>by have :=Near.c hw i;unfold I64;omega
 refine Sp bEn (by simp only[sf,bA]) (by simp only[sf];exact dI fun i _=>bK _) ?_ H;unfold W65;dsimp only;have hl:(c3 fun i=>cI ((Geo.cross v w).at i)).length=54:=cK fun _ _=>bM _;have hz:(c3 fun _=>cI 0).length=54:=cK fun _ _=>bM _;refine aA fun K hK=>?_;simp only[↓zP,zG,Nat.reduceLT,Nat.reduceEqDiff,Nat.reduceAdd,zI,kW];apply hK;clear hK K;refine aA fun K hK=>?_;refine aQ (by decide) ?_;simp only[↓zP,zG,Nat.reduceLT,Nat.reduceEqDiff,Nat.reduceAdd,zD,reduceCtorEq,zI,oL (aG v)];refine cE (lZ iv _) ?_;simp only[↓zP,zG,Nat.reduceLT,Nat.reduceEqDiff,Nat.reduceAdd,zD,reduceCtorEq,zI,oL (aG w)];refine cE (lZ iw _) ?_;simp only[Nat.reduceAdd];refine cE (aDa hv hw hA hB _) ?_;simp only[↓zP,zG,Nat.reduceEqDiff,Nat.reduceAdd,zD,reduceCtorEq,zI,oL hl,oL hz];apply hK;clear hK K;simp only[↓zP];refine⟨rfl,_,by simp only[↓zP,zR,Nat.reduceEqDiff,Nat.reduceAdd,oL hl];rfl,?_⟩;rfl
end Go.Proofs.YtjiignefffdelaaGreatDoor
