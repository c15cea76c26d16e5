/-
  Part of the proof of statement 12
-/
import Derived.Test.YtgggiembljfnhaaGreatDoorB18
import Derived.Test.YtgggiembljfnhaaGreatDoorB07
import Derived.Test.YtgggiembljfnhaaGreatDoorB06
import Derived.Test.YtgggiembljfnhaaGreatDoorB15
import Derived.Test.YtgggiembljfnhaaGreatDoorB16
set_option linter.unusedVariables false
set_option linter.unusedSimpArgs false
set_option maxRecDepth 100000
set_option maxHeartbeats 16000000
namespace Go.Proofs.YtgggiembljfnhaaGreatDoor
open Go Go.Av
attribute [local congr] aT aI aL aH aX aQ aM aF aY
attribute [local irreducible] FC bS eF
def aGb (c:Nat):Bool:=decide (97<=c|||32)&&decide (c|||32<=122)&&decide (c<128)
def UI (i c:Nat):Bool:=aGb c||(!decide (i=0)&&(decide (c=95)||(decide (48<=c)&&decide (c<=57))))
def yI (s:List UInt8):Bool:=(List.range s.length).all (fun k=>UI k (s.getD k 0).toNat)&&(decide (1<=s.length)&&decide (s.length<=32))
end Go.Proofs.YtgggiembljfnhaaGreatDoor
namespace Go.Proofs.YtgggiembljfnhaaGreatDoor
open Go Go.Av Go.uE
attribute [local congr] aT aI aL aH aX aQ aM aF aY
attribute [local irreducible] FC bS eF
theorem aIp:[AV.int .u32 0,.int .u32 0,.int .u32 0,.int .u32 0,.int .u32 0,.int .u32 0,.int .u32 0,.int .u32 0,.int .u32 0,.int .u32 0,.int .u32 0,.int .u32 0,.int .u32 0,.int .u32 0,.int .u32 0,.int .u32 0,.int .u32 0,.int .u32 0,.int .u32 0,.int .u32 0,.int .u32 0,.int .u32 0,.int .u32 0,.int .u32 0,.int .u32 0,.int .u32 0,.int .u32 0,.int .u32 0,.int .u32 0,.int .u32 0,.int .u32 0,.int .u32 0]=wC (List.replicate 32 0):=rfl
theorem aLf {a b:List AV} {x y:Option Int} (ha:mD a x) (hb:mD b y) (H:aA):Sg 173 [.agg a,.agg b] H (.ret (.agg (cO (Xv x y)))) H:=by
 refine So aYc ZaB ?_ H;unfold aMy;dsimp only;refine aN fun K hK=>?_;simp only[↓zP,zG,Nat.reduceLT,Nat.reduceEqDiff,Nat.reduceAdd,zI];apply hK;clear hK K;refine aN fun K hK=>?_;simp only[↓zP,zG,Nat.reduceLT,Nat.reduceEqDiff,Nat.reduceAdd,zI,oL ha.len,oL hb.len];refine bY (AI ha hb _) ?_
 cases x with
 |none=>simp only[↓zP,zG,Nat.reduceLT,zI,Cj,Je];refine bY (EA _) ?_;simp only[↓zP,zG,Nat.reduceEqDiff,Nat.reduceAdd,zI,EI];exact⟨rfl,_,by simp only[↓zP,zR,Nat.reduceEqDiff,Nat.reduceAdd];rfl,rfl⟩
 |some z=>cases y with
  |none=>simp only[↓zP,zG,Nat.reduceLT,zI,Cj,Bool.and_false];refine bY (EA _) ?_;simp only[↓zP,zG,Nat.reduceEqDiff,Nat.reduceAdd,zI,EI];exact⟨rfl,_,by simp only[↓zP,zR,Nat.reduceEqDiff,Nat.reduceAdd];rfl,rfl⟩
  |some w=>
   obtain⟨rfl,hz⟩:=ha.some;obtain⟨rfl,hw⟩:=hb.some;have la:=iL (.bJ z.natAbs);have lb:=iL (.bJ w.natAbs);have hW:W=4294967296:=rfl;simp only[↓zP,zG,Nat.reduceLT,zI,Bc,Cp];apply hK;clear hK K;unfold cI;generalize hA:z.natAbs=A at *;generalize hB:w.natAbs=B at *;refine aN fun K hK=>?_;simp only[↓zP,zG,Nat.reduceLT,aIp];apply hK;clear hK K;refine aN fun K hK=>?_;refine Dz ?_;simp only[↓zP,zG,Nat.reduceLT,Nat.reduceEqDiff,Nat.reduceAdd,zD,reduceCtorEq,zI,la];refine fP (IY A _) ?_;simp only[↓zP,zG,Nat.reduceLT,Nat.reduceEqDiff,Nat.reduceAdd,zD,reduceCtorEq,zI,lb];refine fP (IY B _) ?_;simp only[↓zP,zG,Nat.reduceLT,Nat.reduceEqDiff,Nat.reduceAdd,zD,reduceCtorEq,zI];apply hK;clear hK K;have hn:=aCc A;have hm:=aCc B;have hAl:=cy hz;have hBl:=cy hw;generalize hnn:sz A=n at *;generalize hmm:sz B=m at *;refine aN fun K hK=>?_;refine aN fun K2 bW=>?_;simp only[↓zP,zG,Nat.reduceLT,Nat.reduceEqDiff];apply bW;clear bW K2;refine cV [] (fun i _ H'=>∃o,LW 32 o/\CD o=A%W^i*B/\H'.get 0=some (.cells (.bool false::.bool (decide (z<0))::wC (bJ 16 A)) false)/\H'.get 1=some (.cells (.bool false::.bool (decide (w<0))::wC (bJ 16 B)) false)/\H'.get 2=some (.cells (.bool false::.bool false::wC zs) false)/\H'.get 3=some (.cells (wC o) false)) n (by omega) (by decide) ?_ ?_ ?_ ?_ ?_
   . simp only[zB]
   . exact Zbe
   . refine⟨List.replicate 32 0,⟨by simp,fun d hd=>by rw[Hn hd];decide⟩,by rw[Nat.pow_zero,Nat.mod_one,Iw];decide,?_⟩;simp only[zG,Nat.reduceEqDiff,Nat.reduceAdd,zI]
   . rintro i f H hi hk e1 ⟨o,ho,hv,g0,g1,g2,g3⟩;have hD:=jU A i;refine aJ ?_;refine aN fun K2 bW=>?_;simp only[↓zP,zG,Nat.reduceLT,e1];apply bW;clear bW K2;refine aN fun K2 bW=>?_;simp only[↓zP,zG,Nat.reduceLT];apply bW;clear bW K2;refine aN fun K2 bW=>?_;refine aN fun K3 Ls=>?_;simp only[↓zP,zG,Nat.reduceLT,Nat.reduceEqDiff,hk 7 rfl];apply Ls;clear Ls K3
     have hP:A%W^i*B<W^(i+m):=by rw[Kc];exact Nat.mul_lt_mul'' (Di _ (lO i)) hBl
     refine cV [9] (fun k vs H'=>∃o c,vs=[.int .u64 (c:Nat)]/\c<W/\LW 32 o/\CD o+c*W^(i+k)=A%W^i*B+bL A i*W^i*(B%W^k)/\(∀j,i+k<=j->o.getD j 0=bL (A%W^i*B) j)/\H'.get 0=some (.cells (.bool false::.bool (decide (z<0))::wC (bJ 16 A)) false)/\H'.get 1=some (.cells (.bool false::.bool (decide (w<0))::wC (bJ 16 B)) false)/\H'.get 2=some (.cells (.bool false::.bool false::wC zs) false)/\H'.get 3=some (.cells (wC o) false)) m (by omega) (by decide) ?_ ?_ ?_ ?_ ?_
     . simp only[zB]
     . exact Zbe
     . refine⟨o,0,by simp only[sm,zB,Nat.reduceEqDiff];rfl,by omega,ho,by rw[hv];simp[Nat.mod_one],fun j hj=>by rw[<-hv,ho.bL],g0,g1,g2,g3⟩
     . rintro k f2 H2 hkm eP e2 ⟨o,c,sY,hc,ho,he,hj,g0,g1,g2,g3⟩;simp only[zM] at sY;have hB':=jU B k;have jz:=ho.getD (i+k);have hmul:bL A i*bL B k<=4294967295*4294967295:=Bt (by omega) (by omega);have q1:IntKind.u64.wrap ((bL A i:Nat):Int)=(bL A i:Nat):=rY (by omega) (.inl rfl);have q2:IntKind.u64.wrap ((bL B k:Nat):Int)=(bL B k:Nat):=rY (by omega) (.inl rfl);have q3:IntKind.u64.wrap ((o.getD (i+k) 0:Nat):Int)=(o.getD (i+k) 0:Nat):=rY (by omega) (.inl rfl);have q4:IntKind.u64.wrap (((bL A i:Nat):Int)*(bL B k:Nat))=((bL A i*bL B k:Nat):Int):=rY (by omega) (.inl (by simp));have q5:IntKind.u64.wrap (((bL A i*bL B k:Nat):Int)+(o.getD (i+k) 0:Nat))=((bL A i*bL B k+o.getD (i+k) 0:Nat):Int):=rY (by omega) (.inl (by omega));have q6:IntKind.u64.wrap (((c:Nat):Int)+((bL A i*bL B k+o.getD (i+k) 0:Nat):Int))=((c+bL A i*bL B k+o.getD (i+k) 0:Nat):Int):=rY (by omega) (.inl (by omega));have q7:IntKind.i64.wrap ((i:Int)+(k:Int))=((i+k:Nat):Int):=wI (by omega);have hg:(wC o).getD (i+k) aD=.int .u32 (o.getD (i+k) 0:Nat):=uW (by rw[ho.1];omega);have hs:=zj ho (show i+k<32 by omega) he;refine aJ ?_;refine aN fun K2 bW=>?_;simp only[↓zP,zG,Nat.reduceLT,e2];apply bW;clear bW K2;refine aN fun K2 bW=>?_;refine Dz ?_;simp only[↓zP,zG,Nat.reduceLT,Nat.reduceEqDiff,Nat.reduceAdd,zD,reduceCtorEq,zI,Nat.reduceLeDiff,sY,eP 8 rfl,eP 2 rfl,eP 3 rfl,eP 5 rfl,hk 2 rfl,hk 3 rfl,hk 5 rfl,aB,g0,g1,g3,show i<16 by omega,show k<16 by omega,show 2+i<=17 by omega,show 2+k<=17 by omega,la,lb,aJa,lI (show i<16 by omega),lI (show k<16 by omega),q1,q2,q3,q4,q5,q6,q7,show i+k<32 by omega,show i+k+1<=32 by omega,dM,ho.1,hg];apply bW;clear bW K2;simp only[↓zP,zG,Nat.reduceLT,Nat.reduceEqDiff,zI,Int.reduceLT,eP 8 rfl,eP 5 rfl,hk 5 rfl,q7,aB,g3,show i+k<32 by omega,show i+k+1<=32 by omega,dM,ho.1,Yy,Na];refine⟨o.set (i+k) _,_,rfl,?_,ho.set (i+k) (Di _ Mw),hs,fun j wo=>?_,g0,g1,g2,?_⟩
       . rw[Ea Mw,hW];omega
       . rw[uw (by rw[ho.1];omega),if_neg (by omega)];exact hj j (by omega)
       exact Bn (fun l=>some (fB.cells l false)) (CO (by rw[ho.1];omega) _)
     rintro f2 H2 eP ⟨o,c,sY,hc,ho,he,hj,g0,g1,g2,g3⟩;simp only[zM] at sY;have q7:IntKind.i64.wrap ((i:Int)+(m:Int))=((i+m:Nat):Int):=wI (by omega);simp only[↓zP];apply bW;clear bW K2;simp only[↓zP,zG,Nat.reduceLT,Nat.reduceEqDiff,zI,eP 8 rfl,eP 7 rfl,eP 5 rfl,hk 7 rfl,hk 5 rfl,q7,sY,aB,g3,show i+m<32 by omega,show i+m+1<=32 by omega,dM,ho.1,Yy];rw[Dl hc];refine⟨o.set (i+m) c,ho.set _ hc,aGe ho (by omega) hBl rfl he (by rw[hj _ (Ab _)];exact CB hP),g0,g1,g2,?_⟩;exact Bn (fun l=>some (fB.cells l false)) (CO (by rw[ho.1];omega) _)
   rintro f H hk ⟨o,ho,hv,g0,g1,g2,g3⟩;simp only[↓zP];apply hK;clear hK K;rw[Dl hAl] at hv;have hoe:=ho.eq;rw[hv] at hoe;have l1:(wC o).length=32:=by rw[dM,ho.1]
   have l2:((wC o).drop 16).take 16=wC (o.drop 16):=by rw[Aq (by simp[l1])];simp[wC]
   have FX:(z*w).natAbs=A*B:=(by rw[Ga,hA,hB]);have hX:A*B<W^32:=(by rw[<-hv];exact ho.lt);have l3:(wC o).take 16=wC (bJ 16 (A*B)):=(by rw[hoe,<-Xr (by omega:16<=32)];simp[wC]);have l4:(A*B<W^16)↔o.drop 16=zs:=(by rw[hoe];exact Xq hX);have d16:(o.drop 16).length=16:=(by simp[ho.1]);simp only[↓zP,zG,Nat.reduceLT,Nat.reduceEqDiff,Nat.reduceAdd,zI,Nat.reduceLeDiff,Nat.reduceSub,hk 5 rfl,g3,l1,l2,eB,show asNat (.int .i64 16)=some 16 from rfl,Cj,mM,Ef,Bi,Qa (b:=zs) d16 rfl];refine⟨fun h=>?_,fun h=>?_⟩
   . have fJ:=l4.2 h;have hr:norm (z*w)=some (z*w):=(by unfold norm;rw[FX,if_pos fJ]);refine Dz ?_;simp only[↓zP,zG,Nat.reduceLT,Nat.reduceEqDiff,Nat.reduceAdd,zD,reduceCtorEq,zI,Nat.reduceLeDiff,hk 5 rfl,hk 2 rfl,hk 3 rfl,g0,g1,g3,l1,l3,la,lb,eB,show asNat (.int .i64 16)=some 16 from rfl,Cj,Bc,mM,Ef,Bi]
     have e:z*w=sg (!(decide (z<0)==decide (w<0))) (A*B):=by
      have ez:z=if z<0 then -(A:Int) else A:=by split<;>omega
      have ew:w=if w<0 then -(B:Int) else B:=Za4;by_cases h1:z<0<;>by_cases h2:w<0<;>simp only[h1,h2,if_true,Bp] at ez ew<;>simp[h1,h2,sg]<;>(conv=>lhs;rw[ez,ew])<;>simp only[Im,Int.mul_neg,Int.neg_neg]
     refine fP (oI fJ e _) ?_;simp only[↓zP,zG,Nat.reduceEqDiff,Nat.reduceAdd,zD,reduceCtorEq,zI,hk 4 rfl,g2];refine⟨rfl,_,by simp only[↓zP,zR,Nat.reduceEqDiff,hk 4 rfl];rfl,?_⟩;rw[Xv,hr];rfl
   refine bY (EA _) ?_;simp only[↓zP,zG,Nat.reduceEqDiff,Nat.reduceAdd,zI,EI,hk 4 rfl,g2];refine⟨rfl,_,by simp only[↓zP,zR,Nat.reduceEqDiff,Nat.reduceAdd,hk 4 rfl];rfl,?_⟩;have hr:norm (z*w)=none:=(by unfold norm;rw[FX,if_neg (fun hh=>h (l4.1 hh))]);rw[Xv,hr];rfl
def JF (z:Int):Prop:= -2^63<=z/\z<2^63
theorem JF.fit {z:Int} (h:JF z):z.natAbs<W^16:=by
 have h1:(2:Nat)^64<W^16:=by decide
 have :=h.1;have :=h.2;omega
end Go.Proofs.YtgggiembljfnhaaGreatDoor
