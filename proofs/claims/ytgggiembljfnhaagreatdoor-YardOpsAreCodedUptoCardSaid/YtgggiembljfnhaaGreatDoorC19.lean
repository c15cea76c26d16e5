/-
  Part of the proof of statement 14
-/
import Derived.Test.YtgggiembljfnhaaGreatDoorC18
import Derived.Test.YtgggiembljfnhaaGreatDoorC07
import Derived.Test.YtgggiembljfnhaaGreatDoorC06
import Derived.Test.YtgggiembljfnhaaGreatDoorC15
import Derived.Test.YtgggiembljfnhaaGreatDoorC16
set_option linter.unusedVariables false
set_option linter.unusedSimpArgs false
set_option maxRecDepth 100000
set_option maxHeartbeats 16000000
namespace Go.Proofs.YtgggiembljfnhaaGreatDoor
open Go Go.Av
attribute [local congr] aP aJ aK aH aU aM aL aD
attribute [local irreducible] FC bM dX
theorem BO (b:Bool) (A B:Prop):gS aC b A B=B:=rfl
end Go.Proofs.YtgggiembljfnhaaGreatDoor
namespace Go.Proofs.YtgggiembljfnhaaGreatDoor
open Go Go.Av Go.DL
attribute [local congr] aP aJ aK aH aU aM aL aD
attribute [local irreducible] FC bM dX
theorem nh:[AV.int .u32 0,.int .u32 0,.int .u32 0,.int .u32 0,.int .u32 0,.int .u32 0,.int .u32 0,.int .u32 0,.int .u32 0,.int .u32 0,.int .u32 0,.int .u32 0,.int .u32 0,.int .u32 0,.int .u32 0,.int .u32 0,.int .u32 0,.int .u32 0,.int .u32 0,.int .u32 0,.int .u32 0,.int .u32 0,.int .u32 0,.int .u32 0,.int .u32 0,.int .u32 0,.int .u32 0,.int .u32 0,.int .u32 0,.int .u32 0,.int .u32 0,.int .u32 0]=wC (List.replicate 32 0):=rfl
theorem uf {a b:List AV} {x y:Option Int} (ha:lS a x) (hb:lS b y) (H:aA):Sound Tryz.prog gv 173 [.agg a,.agg b] H (.ret (.agg (cO (SX x y)))) H:=by
 refine So aFt (by simp only[sf,ha.free,hb.free]) ?_ H;unfold wg;dsimp only;refine aB fun K hK=>?_;simp only[↓zP,zG,Nat.reduceLT,Nat.reduceEqDiff,Nat.reduceAdd,zI];apply hK;clear hK K;refine aB fun K hK=>?_;simp only[↓zP,zG,Nat.reduceLT,Nat.reduceEqDiff,Nat.reduceAdd,zI,oL ha.len,oL hb.len];refine cT (vQ ha hb _) ?_
 cases x with
 |none=>simp only[↓zP,zG,Nat.reduceLT,zI,Ca,Bool.false_and];refine cT (yM _) ?_;simp only[↓zP,zG,Nat.reduceEqDiff,Nat.reduceAdd,zI,DS];exact⟨rfl,_,by simp only[↓zP,zR,Nat.reduceEqDiff,Nat.reduceAdd];rfl,rfl⟩
 |some z=>cases y with
  |none=>simp only[↓zP,zG,Nat.reduceLT,zI,Ca,Ja];refine cT (yM _) ?_;simp only[↓zP,zG,Nat.reduceEqDiff,Nat.reduceAdd,zI,DS];exact⟨rfl,_,by simp only[↓zP,zR,Nat.reduceEqDiff,Nat.reduceAdd];rfl,rfl⟩
  |some w=>
   obtain⟨rfl,hz⟩:=ha.some;obtain⟨rfl,hw⟩:=hb.some;have la:=iL (.aZ z.natAbs);have lb:=iL (.aZ w.natAbs);have hW:W=4294967296:=rfl;simp only[↓zP,zG,Nat.reduceLT,zI,Br,Cx];apply hK;clear hK K;unfold cI;generalize hA:z.natAbs=A at *;generalize hB:w.natAbs=B at *;refine aB fun K hK=>?_;simp only[↓zP,zG,Nat.reduceLT,nh];apply hK;clear hK K;refine aB fun K hK=>?_;refine bK (by decide) ?_;simp only[↓zP,zG,Nat.reduceLT,Nat.reduceEqDiff,Nat.reduceAdd,zD,reduceCtorEq,zI,la];refine rM (CX A _) ?_;simp only[↓zP,zG,Nat.reduceLT,Nat.reduceEqDiff,Nat.reduceAdd,zD,reduceCtorEq,zI,lb];refine rM (CX B _) ?_;simp only[↓zP,zG,Nat.reduceLT,Nat.reduceEqDiff,Nat.reduceAdd,zD,reduceCtorEq,zI];apply hK;clear hK K;have hn:=Zg A;have hm:=Zg B;have hAl:=UX hz;have hBl:=UX hw;generalize hnn:sz A=n at *;generalize hmm:sz B=m at *;refine aB fun K hK=>?_;refine aB fun K2 bO=>?_;simp only[↓zP,zG,Nat.reduceLT,Nat.reduceEqDiff];apply bO;clear bO K2;refine bV [] (fun i _ H'=>∃o,LW 32 o/\zZ o=A%W^i*B/\H'.get 0=some (.cells (.bool false::.bool (decide (z<0))::wC (aZ 16 A)) false)/\H'.get 1=some (.cells (.bool false::.bool (decide (w<0))::wC (aZ 16 B)) false)/\H'.get 2=some (.cells (.bool false::.bool false::wC zs) false)/\H'.get 3=some (.cells (wC o) false)) n (by omega) (by decide) ?_ ?_ ?_ ?_ ?_
   . simp only[zB]
   . simp only[zB,Nat.reduceEqDiff]
   . refine⟨List.replicate 32 0,⟨by simp,fun d hd=>by rw[List.eq_of_mem_replicate hd];decide⟩,by rw[Nat.pow_zero,Nat.mod_one,Hr];decide,?_⟩;simp only[zG,Nat.reduceEqDiff,Nat.reduceAdd,zI]
   . rintro i f H hi hk e1 ⟨o,ho,hv,g0,g1,g2,g3⟩;have hD:=iJ A i;refine aS ?_;refine aB fun K2 bO=>?_;simp only[↓zP,zG,Nat.reduceLT,e1];apply bO;clear bO K2;refine aB fun K2 bO=>?_;simp only[↓zP,zG,Nat.reduceLT];apply bO;clear bO K2;refine aB fun K2 bO=>?_;refine aB fun K3 HP=>?_;simp only[↓zP,zG,Nat.reduceLT,Nat.reduceEqDiff,hk 7 rfl];apply HP;clear HP K3
     have hP:A%W^i*B<W^(i+m):=by rw[Ib];exact Nat.mul_lt_mul'' (Dp _ (kH i)) hBl
     refine bV [9] (fun k vs H'=>∃o c,vs=[.int .u64 (c:Nat)]/\c<W/\LW 32 o/\zZ o+c*W^(i+k)=A%W^i*B+bG A i*W^i*(B%W^k)/\(∀j,i+k<=j->o.getD j 0=bG (A%W^i*B) j)/\H'.get 0=some (.cells (.bool false::.bool (decide (z<0))::wC (aZ 16 A)) false)/\H'.get 1=some (.cells (.bool false::.bool (decide (w<0))::wC (aZ 16 B)) false)/\H'.get 2=some (.cells (.bool false::.bool false::wC zs) false)/\H'.get 3=some (.cells (wC o) false)) m (by omega) (by decide) ?_ ?_ ?_ ?_ ?_
     . simp only[zB]
     . simp only[zB,Nat.reduceEqDiff]
     . refine⟨o,0,by simp only[sm,zB,Nat.reduceEqDiff];rfl,by omega,ho,by rw[hv];simp[Nat.mod_one],fun j hj=>by rw[<-hv,ho.bG],g0,g1,g2,g3⟩
     . rintro k f2 H2 hkm kP e2 ⟨o,c,DH,hc,ho,he,hj,g0,g1,g2,g3⟩;simp only[sm,Am,Bs] at DH;have hB':=iJ B k;have ho':=ho.getD (i+k);have hmul:bG A i*bG B k<=4294967295*4294967295:=Ch (by omega) (by omega);have q1:IntKind.u64.wrap ((bG A i:Nat):Int)=(bG A i:Nat):=pD (by omega) (.inl rfl);have q2:IntKind.u64.wrap ((bG B k:Nat):Int)=(bG B k:Nat):=pD (by omega) (.inl rfl);have q3:IntKind.u64.wrap ((o.getD (i+k) 0:Nat):Int)=(o.getD (i+k) 0:Nat):=pD (by omega) (.inl rfl);have q4:IntKind.u64.wrap (((bG A i:Nat):Int)*(bG B k:Nat))=((bG A i*bG B k:Nat):Int):=pD (by omega) (.inl (by simp));have q5:IntKind.u64.wrap (((bG A i*bG B k:Nat):Int)+(o.getD (i+k) 0:Nat))=((bG A i*bG B k+o.getD (i+k) 0:Nat):Int):=pD (by omega) (.inl (by omega));have q6:IntKind.u64.wrap (((c:Nat):Int)+((bG A i*bG B k+o.getD (i+k) 0:Nat):Int))=((c+bG A i*bG B k+o.getD (i+k) 0:Nat):Int):=pD (by omega) (.inl (by omega));have q7:IntKind.i64.wrap ((i:Int)+(k:Int))=((i+k:Nat):Int):=(by rw[wrap_i64 (by omega) (by omega)];omega);have hg:(wC o).getD (i+k) aC=.int .u32 (o.getD (i+k) 0:Nat):=Ub (by rw[ho.1];omega);have hs:=Yk ho (show i+k<32 by omega) he;refine aS ?_;refine aB fun K2 bO=>?_;simp only[↓zP,zG,Nat.reduceLT,e2];apply bO;clear bO K2;refine aB fun K2 bO=>?_;refine bK (by decide) ?_;simp only[↓zP,zG,Nat.reduceLT,Nat.reduceEqDiff,Nat.reduceAdd,zD,reduceCtorEq,zI,Nat.reduceLeDiff,DH,kP 8 rfl,kP 2 rfl,kP 3 rfl,kP 5 rfl,hk 2 rfl,hk 3 rfl,hk 5 rfl,aQ,g0,g1,g3,show i<16 by omega,show k<16 by omega,show 2+i<=17 by omega,show 2+k<=17 by omega,la,lb,oj,iZ (show i<16 by omega),iZ (show k<16 by omega),q1,q2,q3,q4,q5,q6,q7,show i+k<32 by omega,show i+k+1<=32 by omega,eM,ho.1,hg];apply bO;clear bO K2;simp only[↓zP,zG,Nat.reduceLT,Nat.reduceEqDiff,zI,Int.reduceLT,kP 8 rfl,kP 5 rfl,hk 5 rfl,q7,aQ,g3,show i+k<32 by omega,show i+k+1<=32 by omega,eM,ho.1,TM,JR];refine⟨o.set (i+k) _,_,rfl,?_,ho.set (i+k) (Dp _ IW),hs,fun j Tt=>?_,g0,g1,g2,?_⟩
       . rw[Dz IW,hW];omega
       . rw[YA (by rw[ho.1];omega),if_neg (by omega)];exact hj j (by omega)
       exact Bt (fun l=>some (dU.cells l false)) (FB (by rw[ho.1];omega) _)
     rintro f2 H2 kP ⟨o,c,DH,hc,ho,he,hj,g0,g1,g2,g3⟩;simp only[sm,Am,Bs] at DH;have q7:IntKind.i64.wrap ((i:Int)+(m:Int))=((i+m:Nat):Int):=(by rw[wrap_i64 (by omega) (by omega)];omega);simp only[↓zP];apply bO;clear bO K2;simp only[↓zP,zG,Nat.reduceLT,Nat.reduceEqDiff,zI,kP 8 rfl,kP 7 rfl,kP 5 rfl,hk 7 rfl,hk 5 rfl,q7,DH,aQ,g3,show i+m<32 by omega,show i+m+1<=32 by omega,eM,ho.1,TM];rw[Bz hc];refine⟨o.set (i+m) c,ho.set _ hc,ju ho (by omega) hBl rfl he (by rw[hj _ (Ai _)];exact EJ hP),g0,g1,g2,?_⟩;exact Bt (fun l=>some (dU.cells l false)) (FB (by rw[ho.1];omega) _)
   rintro f H hk ⟨o,ho,hv,g0,g1,g2,g3⟩;simp only[↓zP];apply hK;clear hK K;rw[Bz hAl] at hv;have hoe:=ho.eq;rw[hv] at hoe;have l1:(wC o).length=32:=by rw[eM,ho.1]
   have l2:((wC o).drop 16).take 16=wC (o.drop 16):=by rw[Bl (by simp[l1])];simp[wC]
   have Qx:(z*w).natAbs=A*B:=(by rw[Int.natAbs_mul,hA,hB]);have hX:A*B<W^32:=(by rw[<-hv];exact ho.lt);have l3:(wC o).take 16=wC (aZ 16 (A*B)):=(by rw[hoe,<-SO (by omega:16<=32)];simp[wC]);have l4:(A*B<W^16)↔o.drop 16=zs:=(by rw[hoe];exact SN hX);have d16:(o.drop 16).length=16:=(by simp[ho.1]);simp only[↓zP,zG,Nat.reduceLT,Nat.reduceEqDiff,Nat.reduceAdd,zI,Nat.reduceLeDiff,Nat.reduceSub,hk 5 rfl,g3,l1,l2,cP,show asNat (.int .i64 16)=some 16 from rfl,Ca,kC,Dd,Bb,Lv (b:=zs) d16 rfl];refine⟨fun h=>?_,fun h=>?_⟩
   . have eW:=l4.2 h;have hr:norm (z*w)=some (z*w):=(by unfold norm;rw[Qx,if_pos eW]);refine bK (by decide) ?_;simp only[↓zP,zG,Nat.reduceLT,Nat.reduceEqDiff,Nat.reduceAdd,zD,reduceCtorEq,zI,Nat.reduceLeDiff,hk 5 rfl,hk 2 rfl,hk 3 rfl,g0,g1,g3,l1,l3,la,lb,cP,show asNat (.int .i64 16)=some 16 from rfl,Ca,Br,kC,Dd,Bb]
     have e:z*w=sg (!(decide (z<0)==decide (w<0))) (A*B):=by
      have ez:z=if z<0 then -(A:Int) else A:=by split<;>omega
      have ew:w=if w<0 then -(B:Int) else B:=(by split<;>omega);by_cases h1:z<0<;>by_cases h2:w<0<;>simp only[h1,h2,if_true,Bu] at ez ew<;>simp[h1,h2,sg]<;>(conv=>lhs;rw[ez,ew])<;>simp only[Hj,Int.mul_neg,Int.neg_neg]
     refine rM (lM eW e _) ?_;simp only[↓zP,zG,Nat.reduceEqDiff,Nat.reduceAdd,zD,reduceCtorEq,zI,hk 4 rfl,g2];refine⟨rfl,_,by simp only[↓zP,zR,Nat.reduceEqDiff,hk 4 rfl];rfl,?_⟩;rw[SX,hr];rfl
   refine cT (yM _) ?_;simp only[↓zP,zG,Nat.reduceEqDiff,Nat.reduceAdd,zI,DS,hk 4 rfl,g2];refine⟨rfl,_,by simp only[↓zP,zR,Nat.reduceEqDiff,Nat.reduceAdd,hk 4 rfl];rfl,?_⟩;have hr:norm (z*w)=none:=(by unfold norm;rw[Qx,if_neg (fun hh=>h (l4.1 hh))]);rw[SX,hr];rfl
def pF (z:Int):Prop:= -2^63<=z/\z<2^63
theorem pF.fit {z:Int} (h:pF z):z.natAbs<W^16:=by
 have h1:(2:Nat)^64<W^16:=by decide
 have :=h.1;have :=h.2;omega
end Go.Proofs.YtgggiembljfnhaaGreatDoor
