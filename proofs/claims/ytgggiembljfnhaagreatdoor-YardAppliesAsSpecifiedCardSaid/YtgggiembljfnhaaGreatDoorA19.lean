/-
  Part of the proof of statement 11
-/
import Derived.Test.YtgggiembljfnhaaGreatDoorA18
import Derived.Test.YtgggiembljfnhaaGreatDoorA07
import Derived.Test.YtgggiembljfnhaaGreatDoorA06
import Derived.Test.YtgggiembljfnhaaGreatDoorA15
import Derived.Test.YtgggiembljfnhaaGreatDoorA16
set_option linter.unusedVariables false
set_option maxRecDepth 100000
set_option maxHeartbeats 16000000
namespace Go.Proofs.YtgggiembljfnhaaGreatDoor
open Go Go.Av
attribute [local congr] aT aI aM aH aW aQ aN aF aX
attribute [local irreducible] FC bS eG
def aFl (c:Nat):Bool:=decide (97<=c|||32)&&decide (c|||32<=122)&&decide (c<128)
def UD (i c:Nat):Bool:=aFl c||(!decide (i=0)&&(decide (c=95)||(decide (48<=c)&&decide (c<=57))))
def yK (s:List UInt8):Bool:=(List.range s.length).all (fun k=>UD k (s.getD k 0).toNat)&&(decide (1<=s.length)&&decide (s.length<=32))
end Go.Proofs.YtgggiembljfnhaaGreatDoor
namespace Go.Proofs.YtgggiembljfnhaaGreatDoor
open Go Go.Av Go.uG
attribute [local congr] aT aI aM aH aW aQ aN aF aX
attribute [local irreducible] FC bS eG
theorem aIa:[AV.int .u32 0,.int .u32 0,.int .u32 0,.int .u32 0,.int .u32 0,.int .u32 0,.int .u32 0,.int .u32 0,.int .u32 0,.int .u32 0,.int .u32 0,.int .u32 0,.int .u32 0,.int .u32 0,.int .u32 0,.int .u32 0,.int .u32 0,.int .u32 0,.int .u32 0,.int .u32 0,.int .u32 0,.int .u32 0,.int .u32 0,.int .u32 0,.int .u32 0,.int .u32 0,.int .u32 0,.int .u32 0,.int .u32 0,.int .u32 0,.int .u32 0,.int .u32 0]=wC (List.replicate 32 0):=rfl
theorem aKq {a b:List AV} {x y:Option Int} (ha:mA a x) (hb:mA b y) (H:aA):Sg 173 [.agg a,.agg b] H (.ret (.agg (cO (Xr x y)))) H:=by
 refine So aXl ZaB ?_ H;unfold aMj;dsimp only;refine aJ fun K hK=>?_;simp only[↓zP,zG,Nat.reduceLT,Nat.reduceEqDiff,Nat.reduceAdd,zI];apply hK;clear hK K;refine aJ fun K hK=>?_;simp only[↓zP,zG,Nat.reduceLT,Nat.reduceEqDiff,Nat.reduceAdd,zI,oL ha.len,oL hb.len];refine bZ (AL ha hb _) ?_
 cases x with
 |none=>simp only[↓zP,zG,Nat.reduceLT,zI,Ci,Jd];refine bZ (EC _) ?_;simp only[↓zP,zG,Nat.reduceEqDiff,Nat.reduceAdd,zI,EK];exact⟨rfl,_,by simp only[↓zP,zR,Nat.reduceEqDiff,Nat.reduceAdd];rfl,rfl⟩
 |some z=>cases y with
  |none=>simp only[↓zP,zG,Nat.reduceLT,zI,Ci,Bool.and_false];refine bZ (EC _) ?_;simp only[↓zP,zG,Nat.reduceEqDiff,Nat.reduceAdd,zI,EK];exact⟨rfl,_,by simp only[↓zP,zR,Nat.reduceEqDiff,Nat.reduceAdd];rfl,rfl⟩
  |some w=>
   obtain⟨rfl,hz⟩:=ha.some;obtain⟨rfl,hw⟩:=hb.some;have la:=iL (.bJ z.natAbs);have lb:=iL (.bJ w.natAbs);have hW:W=4294967296:=rfl;simp only[↓zP,zG,Nat.reduceLT,zI,Bc,Cv];apply hK;clear hK K;unfold cI;generalize hA:z.natAbs=A at *;generalize hB:w.natAbs=B at *;refine aJ fun K hK=>?_;simp only[↓zP,zG,Nat.reduceLT,aIa];apply hK;clear hK K;refine aJ fun K hK=>?_;refine Dz ?_;simp only[↓zP,zG,Nat.reduceLT,Nat.reduceEqDiff,Nat.reduceAdd,zD,reduceCtorEq,zI,la];refine fH (JC A _) ?_;simp only[↓zP,zG,Nat.reduceLT,Nat.reduceEqDiff,Nat.reduceAdd,zD,reduceCtorEq,zI,lb];refine fH (JC B _) ?_;simp only[↓zP,zG,Nat.reduceLT,Nat.reduceEqDiff,Nat.reduceAdd,zD,reduceCtorEq,zI];apply hK;clear hK K;have hn:=aBo A;have hm:=aBo B;have hAl:=ct hz;have hBl:=ct hw;generalize hnn:sz A=n at *;generalize hmm:sz B=m at *;refine aJ fun K hK=>?_;refine aJ fun K2 bW=>?_;simp only[↓zP,zG,Nat.reduceLT,Nat.reduceEqDiff];apply bW;clear bW K2;refine dD [] (fun i _ H'=>∃o,LW 32 o/\CH o=A%W^i*B/\H'.get 0=some (.cells (.bool false::.bool (decide (z<0))::wC (bJ 16 A)) false)/\H'.get 1=some (.cells (.bool false::.bool (decide (w<0))::wC (bJ 16 B)) false)/\H'.get 2=some (.cells (.bool false::.bool false::wC zs) false)/\H'.get 3=some (.cells (wC o) false)) n (by omega) (by decide) ?_ ?_ ?_ ?_ ?_
   . simp only[zB]
   . simp only[zB,Nat.reduceEqDiff]
   . refine⟨List.replicate 32 0,⟨by simp,fun d hd=>by rw[Hk hd];decide⟩,by rw[Nat.pow_zero,Nat.mod_one,Iw];decide,?_⟩;simp only[zG,Nat.reduceEqDiff,Nat.reduceAdd,zI]
   . rintro i f H hi hk e1 ⟨o,ho,hv,g0,g1,g2,g3⟩;have hD:=jP A i;refine aL ?_;refine aJ fun K2 bW=>?_;simp only[↓zP,zG,Nat.reduceLT,e1];apply bW;clear bW K2;refine aJ fun K2 bW=>?_;simp only[↓zP,zG,Nat.reduceLT];apply bW;clear bW K2;refine aJ fun K2 bW=>?_;refine aJ fun K3 Lp=>?_;simp only[↓zP,zG,Nat.reduceLT,Nat.reduceEqDiff,hk 7 rfl];apply Lp;clear Lp K3
     have hP:A%W^i*B<W^(i+m):=by rw[Jz];exact Nat.mul_lt_mul'' (Di _ (lK i)) hBl
     refine dD [9] (fun k vs H'=>∃o c,vs=[.int .u64 (c:Nat)]/\c<W/\LW 32 o/\CH o+c*W^(i+k)=A%W^i*B+bL A i*W^i*(B%W^k)/\(∀j,i+k<=j->o.getD j 0=bL (A%W^i*B) j)/\H'.get 0=some (.cells (.bool false::.bool (decide (z<0))::wC (bJ 16 A)) false)/\H'.get 1=some (.cells (.bool false::.bool (decide (w<0))::wC (bJ 16 B)) false)/\H'.get 2=some (.cells (.bool false::.bool false::wC zs) false)/\H'.get 3=some (.cells (wC o) false)) m (by omega) (by decide) ?_ ?_ ?_ ?_ ?_
     . simp only[zB]
     . simp only[zB,Nat.reduceEqDiff]
     . refine⟨o,0,by simp only[sm,zB,Nat.reduceEqDiff];rfl,by omega,ho,by rw[hv];simp[Nat.mod_one],fun j hj=>by rw[<-hv,ho.bL],g0,g1,g2,g3⟩
     . rintro k f2 H2 hkm eO e2 ⟨o,c,sU,hc,ho,he,hj,g0,g1,g2,g3⟩;simp only[zM] at sU;have hB':=jP B k;have o8:=ho.getD (i+k);have hmul:bL A i*bL B k<=4294967295*4294967295:=Bt (by omega) (by omega);have q1:IntKind.u64.wrap ((bL A i:Nat):Int)=(bL A i:Nat):=rW (by omega) (.inl rfl);have q2:IntKind.u64.wrap ((bL B k:Nat):Int)=(bL B k:Nat):=rW (by omega) (.inl rfl);have q3:IntKind.u64.wrap ((o.getD (i+k) 0:Nat):Int)=(o.getD (i+k) 0:Nat):=rW (by omega) (.inl rfl);have q4:IntKind.u64.wrap (((bL A i:Nat):Int)*(bL B k:Nat))=((bL A i*bL B k:Nat):Int):=rW (by omega) (.inl (by simp));have q5:IntKind.u64.wrap (((bL A i*bL B k:Nat):Int)+(o.getD (i+k) 0:Nat))=((bL A i*bL B k+o.getD (i+k) 0:Nat):Int):=rW (by omega) (.inl (by omega));have q6:IntKind.u64.wrap (((c:Nat):Int)+((bL A i*bL B k+o.getD (i+k) 0:Nat):Int))=((c+bL A i*bL B k+o.getD (i+k) 0:Nat):Int):=rW (by omega) (.inl (by omega));have q7:IntKind.i64.wrap ((i:Int)+(k:Int))=((i+k:Nat):Int):=wI (by omega);have hg:(wC o).getD (i+k) aC=.int .u32 (o.getD (i+k) 0:Nat):=vA (by rw[ho.1];omega);have hs:=yw ho (show i+k<32 by omega) he;refine aL ?_;refine aJ fun K2 bW=>?_;simp only[↓zP,zG,Nat.reduceLT,e2];apply bW;clear bW K2;refine aJ fun K2 bW=>?_;refine Dz ?_;simp only[↓zP,zG,Nat.reduceLT,Nat.reduceEqDiff,Nat.reduceAdd,zD,reduceCtorEq,zI,Nat.reduceLeDiff,sU,eO 8 rfl,eO 2 rfl,eO 3 rfl,eO 5 rfl,hk 2 rfl,hk 3 rfl,hk 5 rfl,aB,g0,g1,g3,show i<16 by omega,show k<16 by omega,show 2+i<=17 by omega,show 2+k<=17 by omega,la,lb,aIl,lE (show i<16 by omega),lE (show k<16 by omega),q1,q2,q3,q4,q5,q6,q7,show i+k<32 by omega,show i+k+1<=32 by omega,dM,ho.1,hg];apply bW;clear bW K2;simp only[↓zP,zG,Nat.reduceLT,Nat.reduceEqDiff,zI,Int.reduceLT,eO 8 rfl,eO 5 rfl,hk 5 rfl,q7,aB,g3,show i+k<32 by omega,show i+k+1<=32 by omega,dM,ho.1,Yw,NW];refine⟨o.set (i+k) _,_,rfl,?_,ho.set (i+k) (Di _ Mu),hs,fun j vn=>?_,g0,g1,g2,?_⟩
       . rw[Dx Mu,hW];omega
       . rw[uq (by rw[ho.1];omega),if_neg (by omega)];exact hj j (by omega)
       exact Bn (fun l=>some (fC.cells l false)) (CS (by rw[ho.1];omega) _)
     rintro f2 H2 eO ⟨o,c,sU,hc,ho,he,hj,g0,g1,g2,g3⟩;simp only[zM] at sU;have q7:IntKind.i64.wrap ((i:Int)+(m:Int))=((i+m:Nat):Int):=wI (by omega);simp only[↓zP];apply bW;clear bW K2;simp only[↓zP,zG,Nat.reduceLT,Nat.reduceEqDiff,zI,eO 8 rfl,eO 7 rfl,eO 5 rfl,hk 7 rfl,hk 5 rfl,q7,sU,aB,g3,show i+m<32 by omega,show i+m+1<=32 by omega,dM,ho.1,Yw];rw[Dl hc];refine⟨o.set (i+m) c,ho.set _ hc,aFo ho (by omega) hBl rfl he (by rw[hj _ (Ab _)];exact CF hP),g0,g1,g2,?_⟩;exact Bn (fun l=>some (fC.cells l false)) (CS (by rw[ho.1];omega) _)
   rintro f H hk ⟨o,ho,hv,g0,g1,g2,g3⟩;simp only[↓zP];apply hK;clear hK K;rw[Dl hAl] at hv;have hoe:=ho.eq;rw[hv] at hoe;have l1:(wC o).length=32:=by rw[dM,ho.1]
   have l2:((wC o).drop 16).take 16=wC (o.drop 16):=by rw[As (by simp[l1])];simp[wC]
   have GC:(z*w).natAbs=A*B:=(by rw[Ga,hA,hB]);have hX:A*B<W^32:=(by rw[<-hv];exact ho.lt);have l3:(wC o).take 16=wC (bJ 16 (A*B)):=(by rw[hoe,<-Xn (by omega:16<=32)];simp[wC]);have l4:(A*B<W^16)↔o.drop 16=zs:=(by rw[hoe];exact Xm hX);have d16:(o.drop 16).length=16:=(by simp[ho.1]);simp only[↓zP,zG,Nat.reduceLT,Nat.reduceEqDiff,Nat.reduceAdd,zI,Nat.reduceLeDiff,Nat.reduceSub,hk 5 rfl,g3,l1,l2,dZ,show asNat (.int .i64 16)=some 16 from rfl,Ci,mI,Ee,Bi,QX (b:=zs) d16 rfl];refine⟨fun h=>?_,fun h=>?_⟩
   . have fF:=l4.2 h;have hr:norm (z*w)=some (z*w):=(by unfold norm;rw[GC,if_pos fF]);refine Dz ?_;simp only[↓zP,zG,Nat.reduceLT,Nat.reduceEqDiff,Nat.reduceAdd,zD,reduceCtorEq,zI,Nat.reduceLeDiff,hk 5 rfl,hk 2 rfl,hk 3 rfl,g0,g1,g3,l1,l3,la,lb,dZ,show asNat (.int .i64 16)=some 16 from rfl,Ci,Bc,mI,Ee,Bi]
     have e:z*w=sg (!(decide (z<0)==decide (w<0))) (A*B):=by
      have ez:z=if z<0 then -(A:Int) else A:=by split<;>omega
      have ew:w=if w<0 then -(B:Int) else B:=(by split<;>omega);by_cases h1:z<0<;>by_cases h2:w<0<;>simp only[h1,h2,if_true,Bq] at ez ew<;>simp[h1,h2,sg]<;>(conv=>lhs;rw[ez,ew])<;>simp only[Im,Int.mul_neg,Int.neg_neg]
     refine fH (oE fF e _) ?_;simp only[↓zP,zG,Nat.reduceEqDiff,Nat.reduceAdd,zD,reduceCtorEq,zI,hk 4 rfl,g2];refine⟨rfl,_,by simp only[↓zP,zR,Nat.reduceEqDiff,hk 4 rfl];rfl,?_⟩;rw[Xr,hr];rfl
   refine bZ (EC _) ?_;simp only[↓zP,zG,Nat.reduceEqDiff,Nat.reduceAdd,zI,EK,hk 4 rfl,g2];refine⟨rfl,_,by simp only[↓zP,zR,Nat.reduceEqDiff,Nat.reduceAdd,hk 4 rfl];rfl,?_⟩;have hr:norm (z*w)=none:=(by unfold norm;rw[GC,if_neg (fun hh=>h (l4.1 hh))]);rw[Xr,hr];rfl
def JJ (z:Int):Prop:= -2^63<=z/\z<2^63
theorem JJ.fit {z:Int} (h:JJ z):z.natAbs<W^16:=by
 have h1:(2:Nat)^64<W^16:=by decide
 have :=h.1;have :=h.2;omega
end Go.Proofs.YtgggiembljfnhaaGreatDoor
