/-
  Part of the proof of statement 10
-/
import Derived.Test.YtndkpgceodimiaaGreatDoorA18
import Derived.Test.YtndkpgceodimiaaGreatDoorA07
import Derived.Test.YtndkpgceodimiaaGreatDoorA06
import Derived.Test.YtndkpgceodimiaaGreatDoorA15
import Derived.Test.YtndkpgceodimiaaGreatDoorA16
set_option linter.unusedVariables false
set_option maxRecDepth 100000
set_option maxHeartbeats 16000000
namespace Go.Proofs.YtndkpgceodimiaaGreatDoor
open Go Go.Av
attribute [local congr] aV aO aP aL aX aR aQ aH aY
attribute [local irreducible] FC bY eX
def YH (c:Nat):Bool:=decide (97<=c|||32)&&decide (c|||32<=122)&&decide (c<128)
def EL (i c:Nat):Bool:=YH c||(!decide (i=0)&&(decide (c=95)||(decide (48<=c)&&decide (c<=57))))
def mH (s:List UInt8):Bool:=(List.range s.length).all (fun k=>EL k (s.getD k 0).toNat)&&(decide (1<=s.length)&&decide (s.length<=32))
theorem PT (s:List UInt8):(SC s).length=s.length:=by simp[SC]
theorem aCc {s:List UInt8} {i:Nat} (h:i<s.length):(SC s).getD i []=[.int .u8 ((s.getD i 0).toNat:Nat)]:=by simp[SC,List.getD,h]
theorem WX (s:List UInt8) (hlen:s.length<2^63) (H:aA):Sg 49 [.str s] H (.ret (.bool (mH s))) H:=by
 refine Sp bFp (by simp only[sf]) (by simp only[sf]) ?_ H;unfold W49;dsimp only;simp only[↓zP,zJ,seval,PT];refine bO [] (fun i vs H'=>∀k,k<i->EL k (s.getD k 0).toNat=true) s.length (by omega) (by decide) ?_ ?_ ?_ ?_ ?_
 · simp only[zB,seval]
 · simp only[zB,seval]
 · exact fun k hk=>absurd hk (As _)
 · rintro i f H1 hi hk e1 hJ;have hg:=aCc hi;have wz:(s.getD i 0).toNat<2^8:=(s.getD i 0).toNat_lt
   have bM:EL i (s.getD i 0).toNat=true->∀k,k<i+1->EL k (s.getD k 0).toNat=true:=fun h k hk=>by
    by_cases e:k=i
    · subst e;exact h
    exact hJ k (by omega)
   have eM:EL i (s.getD i 0).toNat=false->mH s=false:=fun h=>by
    have :(List.range s.length).all (fun k=>EL k (s.getD k 0).toNat)=false:=by rw[Ec];exact⟨i,Ba.2 hi,by rw[h];decide⟩
    unfold mH;rw[this];rfl
   generalize (s.getD i 0).toNat=c at *;have Ty:GX .or .u8 (c:Int) (32:Int)=some (.int .u8 ((c|||32:Nat):Int)):=aDo (k:=.u8) rfl wz (b:=32) (by decide);have d1:decide (((c|||32:Nat):Int)≥97)=decide (97<=c|||32):=(by rw[Bb];omega);have d2:decide (((c|||32:Nat):Int)<=122)=decide (c|||32<=122):=(by rw[Bb];omega);have d3:decide ((c:Int)<128)=decide (c<128):=(by rw[Bb];omega);have d4:((i:Int)==0)=decide (i=0):=by rw[Il,Bb];omega
   have d5:((c:Int) != 95)= !decide (c=95):=by have :((c:Int)==95)=decide (c=95):=(by rw[Il,Bb];omega);rw[bne,this]
   have d6:decide ((c:Int)<48)= !decide (48<=c):=(by rw[<-Im,Bb];omega);have d7:decide ((c:Int)>57)= !decide (c<=57):=(by rw[<-Im,Bb];omega);refine aF ?_;refine bQ ?_;simp only[↓zP,zJ,seval,e1,hk 7 rfl,aB,PT,hi,hg];refine bR ?_;refine aG fun K2 bK=>?_
   have key:∀f':dD,f' 3=.int .i64 i->f' 4=.int .u8 c->f' 5=.bool (YH c)->K2 f' [] H1:=by
    intro f' v3 v4 v5;apply bK;clear bK K2;unfold EL at bM eM
    cases hL:YH c with
    |true=>rw[hL] at v5 bM;simp only[↓zP,zJ,seval,v5];exact bM (by simp)
    |false=>
     rw[hL] at v5 bM eM
     cases h4:decide (i=0) with
     |true=>rw[h4] at d4 eM;simp only[↓zP,zJ,seval,v5,v3,d4];exact⟨rfl,[.bool false],by simp only[sJ,QP,zB,seval],by rw[eM (by simp)];rfl⟩
     |false=>
      rw[h4] at d4 bM eM
      cases h5:decide (c=95) with
      |true=>rw[h5] at d5 bM;simp only[↓zP,zJ,seval,v5,v3,v4,d4,d5];exact bM (by simp)
      |false=>
       rw[h5] at d5 bM eM
       cases h6:decide (48<=c) with
       |false=>rw[h6] at d6 eM;simp only[↓zP,zJ,seval,v5,v3,v4,d4,d5,d6];exact⟨rfl,[.bool false],by simp only[sJ,QP,zB,seval],by rw[eM (by simp)];rfl⟩
       |true=>
        rw[h6] at d6 bM eM
        cases h7:decide (c<=57) with
        |false=>rw[h7] at d7 eM;simp only[↓zP,zJ,seval,v5,v3,v4,d4,d5,d6,d7];exact⟨rfl,[.bool false],by simp only[sJ,QP,zB,seval],by rw[eM (by simp)];rfl⟩
        |true=>rw[h7] at d7 bM;simp only[↓zP,zJ,seval,v5,v3,v4,d4,d5,d6,d7];exact bM (by simp)
   clear bK bM eM d4 d5 d6 d7;unfold YH at key
   cases h1:decide (97<=c|||32) with
   |false=>rw[h1] at d1 key;simp only[↓zP,zG,seval,Ty,d1];exact key _ (by simp only[zB,seval]) (by simp only[zB,seval]) (by simp only[zB,seval];rfl)
   |true=>
    rw[h1] at d1 key
    cases h2:decide (c|||32<=122) with
    |false=>rw[h2] at d2 key;simp only[↓zP,zG,seval,Ty,d1,d2];exact key _ (by simp only[zB,seval]) (by simp only[zB,seval]) (by simp only[zB,seval];rfl)
    |true=>rw[h2] at d2 key;simp only[↓zP,zG,seval,Ty,d1,d2,d3];exact key _ (by simp only[zB,seval]) (by simp only[zB,seval]) (by simp only[zB,seval];rfl)
 rintro f H1 hk hJ
 have bM:(List.range s.length).all (fun k=>EL k (s.getD k 0).toNat)=true:=by rw[Aw];exact fun k hk=>hJ k (Ba.1 hk)
 unfold mH;rw[bM];have f0:f 0=.str s:=hk 0 rfl;have d1:decide ((s.length:Int)≥1)=decide (1<=s.length):=by rw[Bb];omega
 have d2:decide ((s.length:Int)<=32)=decide (s.length<=32):=by rw[Bb];omega
 cases h1:decide (1<=s.length) with
 |false=>rw[h1] at d1;simp only[↓zP,zG,seval,f0,d1];exact⟨rfl,[.bool false],by simp only[sJ,QP,zB,seval],rfl⟩
 |true=>rw[h1] at d1;simp only[↓zP,zG,seval,f0,d1,d2];exact⟨rfl,[.bool (decide (s.length<=32))],by simp only[sJ,QP,zB,seval],rfl⟩
end Go.Proofs.YtndkpgceodimiaaGreatDoor
namespace Go.Proofs.YtndkpgceodimiaaGreatDoor
open Go Go.Av Go.sK
attribute [local congr] aV aO aP aL aX aR aQ aH aY
attribute [local irreducible] FC bY eX
theorem aIc:[AV.int .u32 0,.int .u32 0,.int .u32 0,.int .u32 0,.int .u32 0,.int .u32 0,.int .u32 0,.int .u32 0,.int .u32 0,.int .u32 0,.int .u32 0,.int .u32 0,.int .u32 0,.int .u32 0,.int .u32 0,.int .u32 0,.int .u32 0,.int .u32 0,.int .u32 0,.int .u32 0,.int .u32 0,.int .u32 0,.int .u32 0,.int .u32 0,.int .u32 0,.int .u32 0,.int .u32 0,.int .u32 0,.int .u32 0,.int .u32 0,.int .u32 0,.int .u32 0]=wC (List.replicate 32 0):=rfl
theorem SU {a b:List AV} {x y:Option Int} (ha:iU a x) (hb:iU b y) (H:aA):Sg 140 [.agg a,.agg b] H (.ret (.agg (cO (MW x y)))) H:=by
 refine So aVy (by simp only[sf,ha.free,hb.free]) ?_ H;unfold aLk;dsimp only;refine aG fun K hK=>?_;simp only[↓zP,zG,Nat.reduceLT,Nat.reduceEqDiff,Nat.reduceAdd,zI];apply hK;clear hK K;refine aG fun K hK=>?_;simp only[↓zP,zG,Nat.reduceLT,Nat.reduceEqDiff,Nat.reduceAdd,zI,oL ha.len,oL hb.len];refine bW (AL ha hb _) ?_
 cases x with
 |none=>simp only[↓zP,zG,Nat.reduceLT,zI,Cj,Ke];refine bW (DY _) ?_;simp only[↓zP,zG,Nat.reduceEqDiff,Nat.reduceAdd,zI,EI];exact⟨rfl,_,by simp only[↓zP,zR,Nat.reduceEqDiff,Nat.reduceAdd];rfl,rfl⟩
 |some z=>cases y with
  |none=>simp only[↓zP,zG,Nat.reduceLT,zI,Cj,Bool.and_false];refine bW (DY _) ?_;simp only[↓zP,zG,Nat.reduceEqDiff,Nat.reduceAdd,zI,EI];exact⟨rfl,_,by simp only[↓zP,zR,Nat.reduceEqDiff,Nat.reduceAdd];rfl,rfl⟩
  |some w=>
   obtain⟨rfl,hz⟩:=ha.some;obtain⟨rfl,hw⟩:=hb.some;have la:=iL (.bC z.natAbs);have lb:=iL (.bC w.natAbs);have hW:W=4294967296:=rfl;simp only[↓zP,zG,Nat.reduceLT,zI,Bd,Df];apply hK;clear hK K;unfold cI;generalize hA:z.natAbs=A at *;generalize hB:w.natAbs=B at *;refine aG fun K hK=>?_;simp only[↓zP,zG,Nat.reduceLT,aIc];apply hK;clear hK K;refine aG fun K hK=>?_;refine Dz ?_;simp only[↓zP,zG,Nat.reduceLT,Nat.reduceEqDiff,Nat.reduceAdd,zD,reduceCtorEq,zI,la];refine eE (JP A _) ?_;simp only[↓zP,zG,Nat.reduceLT,Nat.reduceEqDiff,Nat.reduceAdd,zD,reduceCtorEq,zI,lb];refine eE (JP B _) ?_;simp only[↓zP,zG,Nat.reduceLT,Nat.reduceEqDiff,Nat.reduceAdd,zD,reduceCtorEq,zI];apply hK;clear hK K;have hn:=aBx A;have hm:=aBx B;have hAl:=dw hz;have hBl:=dw hw;generalize hnn:sz A=n at *;generalize hmm:sz B=m at *;refine aG fun K hK=>?_;refine aG fun K2 bK=>?_;simp only[↓zP,zG,Nat.reduceLT,Nat.reduceEqDiff];apply bK;clear bK K2;refine bO [] (fun i _ H'=>∃o,LW 32 o/\CF o=A%W^i*B/\H'.get 0=some (.cells (.bool false::.bool (decide (z<0))::wC (bC 16 A)) false)/\H'.get 1=some (.cells (.bool false::.bool (decide (w<0))::wC (bC 16 B)) false)/\H'.get 2=some (.cells (.bool false::.bool false::wC zs) false)/\H'.get 3=some (.cells (wC o) false)) n (by omega) (by decide) ?_ ?_ ?_ ?_ ?_
   · simp only[zB]
   · simp only[zB,Nat.reduceEqDiff]
   · refine⟨List.replicate 32 0,⟨by simp,fun d hd=>by rw[Hn hd];decide⟩,by rw[Nat.pow_zero,Nat.mod_one,Ja];decide,?_⟩;simp only[zG,Nat.reduceEqDiff,Nat.reduceAdd,zI]
   · rintro i f H hi hk e1 ⟨o,ho,hv,g0,g1,g2,g3⟩;have hD:=jQ A i;refine aF ?_;refine aG fun K2 bK=>?_;simp only[↓zP,zG,Nat.reduceLT,e1];apply bK;clear bK K2;refine aG fun K2 bK=>?_;simp only[↓zP,zG,Nat.reduceLT];apply bK;clear bK K2;refine aG fun K2 bK=>?_;refine aG fun K3 FZ=>?_;simp only[↓zP,zG,Nat.reduceLT,Nat.reduceEqDiff,hk 7 rfl];apply FZ;clear FZ K3
     have hP:A%W^i*B<W^(i+m):=by rw[Ka];exact Nat.mul_lt_mul'' (Dg _ (lQ i)) hBl
     refine bO [9] (fun k vs H'=>∃o c,vs=[.int .u64 (c:Nat)]/\c<W/\LW 32 o/\CF o+c*W^(i+k)=A%W^i*B+bF A i*W^i*(B%W^k)/\(∀j,i+k<=j->o.getD j 0=bF (A%W^i*B) j)/\H'.get 0=some (.cells (.bool false::.bool (decide (z<0))::wC (bC 16 A)) false)/\H'.get 1=some (.cells (.bool false::.bool (decide (w<0))::wC (bC 16 B)) false)/\H'.get 2=some (.cells (.bool false::.bool false::wC zs) false)/\H'.get 3=some (.cells (wC o) false)) m (by omega) (by decide) ?_ ?_ ?_ ?_ ?_
     · simp only[zB]
     · simp only[zB,Nat.reduceEqDiff]
     · refine⟨o,0,by simp only[sm,zB,Nat.reduceEqDiff];rfl,by omega,ho,by rw[hv];simp[Nat.mod_one],fun j hj=>by rw[<-hv,ho.bF],g0,g1,g2,g3⟩
     · rintro k f2 H2 hkm dP e2 ⟨o,c,pU,hc,ho,he,hj,g0,g1,g2,g3⟩;simp only[zM] at pU;have hB':=jQ B k;have ho':=ho.getD (i+k);have hmul:bF A i*bF B k<=4294967295*4294967295:=Bq (by omega) (by omega);have q1:IntKind.u64.wrap ((bF A i:Nat):Int)=(bF A i:Nat):=sE (by omega) (.inl rfl);have q2:IntKind.u64.wrap ((bF B k:Nat):Int)=(bF B k:Nat):=sE (by omega) (.inl rfl);have q3:IntKind.u64.wrap ((o.getD (i+k) 0:Nat):Int)=(o.getD (i+k) 0:Nat):=sE (by omega) (.inl rfl);have q4:IntKind.u64.wrap (((bF A i:Nat):Int)*(bF B k:Nat))=((bF A i*bF B k:Nat):Int):=sE (by omega) (.inl (by simp));have q5:IntKind.u64.wrap (((bF A i*bF B k:Nat):Int)+(o.getD (i+k) 0:Nat))=((bF A i*bF B k+o.getD (i+k) 0:Nat):Int):=sE (by omega) (.inl (by omega));have q6:IntKind.u64.wrap (((c:Nat):Int)+((bF A i*bF B k+o.getD (i+k) 0:Nat):Int))=((c+bF A i*bF B k+o.getD (i+k) 0:Nat):Int):=sE (by omega) (.inl (by omega));have q7:IntKind.i64.wrap ((i:Int)+(k:Int))=((i+k:Nat):Int):=wI (by omega);have hg:(wC o).getD (i+k) aD=.int .u32 (o.getD (i+k) 0:Nat):=vH (by rw[ho.1];omega);have hs:=zj ho (show i+k<32 by omega) he;refine aF ?_;refine aG fun K2 bK=>?_;simp only[↓zP,zG,Nat.reduceLT,e2];apply bK;clear bK K2;refine aG fun K2 bK=>?_;refine Dz ?_;simp only[↓zP,zG,Nat.reduceLT,Nat.reduceEqDiff,Nat.reduceAdd,zD,reduceCtorEq,zI,Nat.reduceLeDiff,pU,dP 8 rfl,dP 2 rfl,dP 3 rfl,dP 5 rfl,hk 2 rfl,hk 3 rfl,hk 5 rfl,aB,g0,g1,g3,show i<16 by omega,show k<16 by omega,show 2+i<=17 by omega,show 2+k<=17 by omega,la,lb,aIl,lI (show i<16 by omega),lI (show k<16 by omega),q1,q2,q3,q4,q5,q6,q7,show i+k<32 by omega,show i+k+1<=32 by omega,dA,ho.1,hg];apply bK;clear bK K2;simp only[↓zP,zG,Nat.reduceLT,Nat.reduceEqDiff,zI,Int.reduceLT,dP 8 rfl,dP 5 rfl,hk 5 rfl,q7,aB,g3,show i+k<32 by omega,show i+k+1<=32 by omega,dA,ho.1,ZL,Nh];refine⟨o.set (i+k) _,_,rfl,?_,ho.set (i+k) (Dg _ NH),hs,fun j xl=>?_,g0,g1,g2,?_⟩
       · rw[Ea NH,hW];omega
       · rw[vq (by rw[ho.1];omega),if_neg (by omega)];exact hj j (by omega)
       exact Bc (fun l=>some (fE.cells l false)) (CN (by rw[ho.1];omega) _)
     rintro f2 H2 dP ⟨o,c,pU,hc,ho,he,hj,g0,g1,g2,g3⟩;simp only[zM] at pU;have q7:IntKind.i64.wrap ((i:Int)+(m:Int))=((i+m:Nat):Int):=wI (by omega);simp only[↓zP];apply bK;clear bK K2;simp only[↓zP,zG,Nat.reduceLT,Nat.reduceEqDiff,zI,dP 8 rfl,dP 7 rfl,dP 5 rfl,hk 7 rfl,hk 5 rfl,q7,pU,aB,g3,show i+m<32 by omega,show i+m+1<=32 by omega,dA,ho.1,ZL];rw[Db hc];refine⟨o.set (i+m) c,ho.set _ hc,aFq ho (by omega) hBl rfl he (by rw[hj _ (Ak _)];exact CD hP),g0,g1,g2,?_⟩;exact Bc (fun l=>some (fE.cells l false)) (CN (by rw[ho.1];omega) _)
   rintro f H hk ⟨o,ho,hv,g0,g1,g2,g3⟩;simp only[↓zP];apply hK;clear hK K;rw[Db hAl] at hv;have hoe:=ho.eq;rw[hv] at hoe;have l1:(wC o).length=32:=by rw[dA,ho.1]
   have l2:((wC o).drop 16).take 16=wC (o.drop 16):=by rw[Ar (by simp[l1])];simp[wC]
   have CQ:(z*w).natAbs=A*B:=(by rw[Ga,hA,hB]);have hX:A*B<W^32:=(by rw[<-hv];exact ho.lt);have l3:(wC o).take 16=wC (bC 16 (A*B)):=(by rw[hoe,<-YL (by omega:16<=32)];simp[wC]);have l4:(A*B<W^16)↔o.drop 16=zs:=(by rw[hoe];exact YK hX);have d16:(o.drop 16).length=16:=(by simp[ho.1]);simp only[↓zP,zG,Nat.reduceLT,Nat.reduceEqDiff,Nat.reduceAdd,zI,Nat.reduceLeDiff,Nat.reduceSub,hk 5 rfl,g3,l1,l2,dQ,show asNat (.int .i64 16)=some 16 from rfl,Cj,mO,Dx,Bi,Qo (b:=zs) d16 rfl];refine⟨fun h=>?_,fun h=>?_⟩
   · have eZ:=l4.2 h;have hr:norm (z*w)=some (z*w):=(by unfold norm;rw[CQ,if_pos eZ]);refine Dz ?_;simp only[↓zP,zG,Nat.reduceLT,Nat.reduceEqDiff,Nat.reduceAdd,zD,reduceCtorEq,zI,Nat.reduceLeDiff,hk 5 rfl,hk 2 rfl,hk 3 rfl,g0,g1,g3,l1,l3,la,lb,dQ,show asNat (.int .i64 16)=some 16 from rfl,Cj,Bd,mO,Dx,Bi]
     have e:z*w=sg (!(decide (z<0)==decide (w<0))) (A*B):=by
      have ez:z=if z<0 then -(A:Int) else A:=by split<;>omega
      have ew:w=if w<0 then -(B:Int) else B:=(by split<;>omega);by_cases h1:z<0<;>by_cases h2:w<0<;>simp only[h1,h2,if_true,Cm] at ez ew<;>simp[h1,h2,sg]<;>(conv=>lhs;rw[ez,ew])<;>simp only[Iu,Int.mul_neg,Int.neg_neg]
     refine eE (oF eZ e _) ?_;simp only[↓zP,zG,Nat.reduceEqDiff,Nat.reduceAdd,zD,reduceCtorEq,zI,hk 4 rfl,g2];refine⟨rfl,_,by simp only[↓zP,zR,Nat.reduceEqDiff,hk 4 rfl];rfl,?_⟩;rw[MW,hr];rfl
   refine bW (DY _) ?_;simp only[↓zP,zG,Nat.reduceEqDiff,Nat.reduceAdd,zI,EI,hk 4 rfl,g2];refine⟨rfl,_,by simp only[↓zP,zR,Nat.reduceEqDiff,Nat.reduceAdd,hk 4 rfl];rfl,?_⟩;have hr:norm (z*w)=none:=(by unfold norm;rw[CQ,if_neg (fun hh=>h (l4.1 hh))]);rw[MW,hr];rfl
def wE (z:Int):Prop:= -2^63<=z/\z<2^63
theorem wE.fit {z:Int} (h:wE z):z.natAbs<W^16:=by
 have h1:(2:Nat)^64<W^16:=by decide
 have :=h.1;have :=h.2;omega
theorem yD {v:aI.V} (hv:∀i,wE (v.at i)) (H:aA):Sg 175 [.agg (cG v)] H (.ret (.agg (c3 fun i=>cI (v.at i)))) H:=by
 refine Sp aJp (by simp only[sf,cE]) (by simp only[sf];exact kJ fun i _=>dC _) ?_ H;unfold aDc;dsimp only;simp only[↓zP,zJ,seval,yP,oL (aM v)];refine fJ [] (fun i _ H'=>H'.get 1=some (.cells (c3 fun j=>if j<i then cI (v.at j) else cI 0) false)) 3 (by decide) rfl (by decide) ?_ ?_ ?_ ?_
 · simp only[zB,seval]
 · simp only[seval,zI,As]
 · rintro i f H hi hk e1 g1;have hl:∀j,j<3->(if j<i then cI (v.at j) else cI 0).length=18:=fun j _=>by split<;>exact dH _
   refine aF ?_;simp only[↓zP,zJ,seval,e1,hk 5 rfl,aB,hi,aM,show i+1<=3 by omega,jP v hi];refine bW (GN (hv i).1 (hv i).2 _) ?_;simp only[↓zP,zJ,seval,hk 2 rfl,aB,hi,g1,fX hl,show i*18+18<=54 by omega];rw[tz hl hi (dH _)]
   exact Bc (fun l=>some (fE.cells l false)) (GY fun j _=>by
    by_cases h:j=i
    · subst h;rw[if_pos rfl,if_pos (by omega)]
    rw[if_neg h];by_cases h2:j<i
    · rw[if_pos h2,if_pos (by omega)]
    rw[if_neg h2,if_neg (by omega)])
 rintro f H hk g1;have e:(c3 fun j=>if j<3 then cI (v.at j) else cI 0)=c3 fun i=>cI (v.at i):=GY fun j hj=>if_pos hj;rw[e] at g1;have hl:∀j,j<3->(cI (v.at j)).length=18:=fun j _=>dH _;simp only[↓zP,zJ,seval,hk 2 rfl,g1,oL (fX hl)];exact⟨rfl,_,by simp only[↓zP,zR,seval,hk 2 rfl,oL (fX hl)];rfl,rfl⟩
theorem aHw {a b:Nat->List AV} {x y:Nat->Option Int} (ha:∀i,i<3->iU (a i) (x i)) (hb:∀i,i<3->iU (b i) (y i)) (H:aA):Sg 176 [.agg (c3 a),.agg (c3 b)] H (.ret (.agg (cO (smO x y 3)))) H:=by
 have la:∀i,i<3->(a i).length=18:=fun i hi=>(ha i hi).len;have lb:∀i,i<3->(b i).length=18:=fun i hi=>(hb i hi).len;refine So aJq (by simp only[sf,kJ fun i hi=>(ha i hi).free,kJ fun i hi=>(hb i hi).free]) ?_ H;unfold aDd;dsimp only;simp only[↓zP,zJ,seval];refine bW (GN (z:=0) (by decide) (by decide) _) ?_;simp only[↓zP,zJ,seval];refine fJ [] (fun i _ H'=>H'.get 0=some (.cells (c3 a) false)/\H'.get 1=some (.cells (c3 b) false)/\H'.get 2=some (.cells (.bool false::.bool false::wC zs) false)/\H'.get 3=some (.cells (cO (smO x y i)) false)) 3 (by decide) rfl (by decide) ?_ ?_ ?_ ?_
 · simp only[zB,seval]
 · simp only[seval,zI];exact⟨trivial,trivial,trivial,rfl⟩
 · rintro i f H hi hk e1 ⟨g0,g1,g2,g3⟩;refine aF ?_;refine bQ ?_;simp only[↓zP,zG,seval,e1];refine bR ?_;refine Dz ?_;simp only[↓zP,zJ,seval,zD,hk 5 rfl,hk 2 rfl,hk 3 rfl,aB,hi,g0,g1,g3,fX la,fX lb,rT la hi,rT lb hi,show i*18+18<=54 by omega];refine eE (SU (ha i hi) (hb i hi) _) ?_;simp only[seval];refine eE (Ww (iU.sm (x:=x) (y:=y) i) (iU.mul (x:=x i) (y:=y i)) _) ?_;simp only[↓zP,zJ,seval,zD,hk 5 rfl,g3];exact⟨g0,g1,g2,rfl⟩
 rintro f H hk ⟨g0,g1,g2,g3⟩;simp only[↓zP,zJ,seval,hk 5 rfl,hk 4 rfl,g2,g3];exact⟨rfl,_,by simp only[↓zP,zR,seval,hk 4 rfl];rfl,rfl⟩
theorem pe {a b:Nat->List AV} {x y:Nat->Option Int} (ha:∀i,i<3->iU (a i) (x i)) (hb:∀i,i<3->iU (b i) (y i)) (H:aA):Sg 174 [.agg (c3 a),.agg (c3 b)] H (.ret (.agg (c3 fun i=>cO (XT x y i)))) H:=by
 have la:∀i,i<3->(a i).length=18:=fun i hi=>(ha i hi).len;have lb:∀i,i<3->(b i).length=18:=fun i hi=>(hb i hi).len;refine Sp aWx (by simp only[sf,kJ fun i hi=>(ha i hi).free,kJ fun i hi=>(hb i hi).free]) (by simp only[sf];exact kJ fun i _=>HO _) ?_ H;unfold aMi;dsimp only;simp only[↓zP,zJ,seval,yP];refine fJ [] (fun i _ H'=>H'.get 0=some (.cells (c3 a) false)/\H'.get 1=some (.cells (c3 b) false)/\H'.get 2=some (.cells (c3 fun j=>if j<i then cO (XT x y j) else cI 0) false)) 3 (by decide) rfl (by decide) ?_ ?_ ?_ ?_
 · simp only[zB,seval]
 · simp only[zJ,seval,As]
 · rintro i f H hi hk e1 ⟨g0,g1,g2⟩
   have hl:∀j,j<3->(if j<i then cO (XT x y j) else cI 0).length=18:=fun j _=>by split<;>first|exact dH _|exact EJ _
   have w1:IntKind.i64.wrap ((i:Int)+1)=((i+1:Nat):Int):=(by rw[wrap_i64 (by omega) (by omega)];simp);have w2:IntKind.i64.wrap ((i:Int)+2)=((i+2:Nat):Int):=(by rw[wrap_i64 (by omega) (by omega)];simp);have m1:((i+1:Nat):Int).tmod 3=(((i+1)%3:Nat):Int):=rfl;have m2:((i+2:Nat):Int).tmod 3=(((i+2)%3:Nat):Int):=rfl;have b1:(i+1)%3<3:=Dg _ (by decide);have b2:(i+2)%3<3:=Dg _ (by decide);refine aF ?_;refine bQ ?_;simp only[↓zP,zG,seval,e1];refine fM ?_;simp only[↓zP,zG,seval,w1,w2,m1,m2];refine bR ?_;have p1:(i+1)%3*18+18<=54:=(by omega);have p2:(i+2)%3*18+18<=54:=(by omega);refine Dz ?_;simp only[↓zP,zJ,seval,zD,hk 2 rfl,hk 3 rfl,aB,b1,b2,p1,p2,g0,g1,fX la,fX lb,rT la b1,rT lb b2];refine eE (SU (ha _ b1) (hb _ b2) _) ?_;simp only[↓zP,zJ,seval,zD,hk 2 rfl,hk 3 rfl,aB,b1,b2,p1,p2,g0,g1,fX la,fX lb,rT la b2,rT lb b1];refine eE (SU (ha _ b2) (hb _ b1) _) ?_;simp only[seval];refine eE (s9 (iU.mul (x:=x ((i+1)%3)) (y:=y ((i+2)%3))) (iU.mul (x:=x ((i+2)%3)) (y:=y ((i+1)%3))) _) ?_;simp only[↓zP,zJ,seval,zD,hk 4 rfl,g2,hi,aB,fX hl,show i*18+18<=54 by omega];refine⟨g0,g1,?_⟩;rw[tz hl hi (EJ _)]
   exact Bc (fun l=>fE.cells l false) (GY fun j _=>by
    by_cases h:j=i
    · subst h;rw[if_pos rfl,if_pos (by omega)];rfl
    rw[if_neg h];by_cases h2:j<i
    · rw[if_pos h2,if_pos (by omega)]
    rw[if_neg h2,if_neg (by omega)])
 rintro f H hk ⟨g0,g1,g2⟩;have e:(c3 fun j=>if j<3 then cO (XT x y j) else cI 0)=c3 fun i=>cO (XT x y i):=GY fun j hj=>if_pos hj;rw[e] at g2;have hl:∀j,j<3->(cO (XT x y j)).length=18:=fun j _=>EJ _;simp only[↓zP,zJ,seval,hk 4 rfl,g2,oL (fX hl)];exact⟨rfl,_,by simp only[↓zP,zR,seval,hk 4 rfl,oL (fX hl)];rfl,rfl⟩
theorem aKh {v w:aI.V} (hv:∀i,wE (v.at i)) (hw:∀i,wE (w.at i)) (H:aA):Sg 118 [.agg (cG v),.agg (cG w)] H (.ret (.agg (cO (smO (fun i=>some (v.at i)) (fun i=>some (w.at i)) 3)))) H:=by
 have ha:∀i,i<3->iU (cI (v.at i)) (some (v.at i)):=fun i _=>.enc (wE.fit (hv i));have hb:∀i,i<3->iU (cI (w.at i)) (some (w.at i)):=fun i _=>.enc (wE.fit (hw i));refine So aJe (by simp only[sf,cE]) ?_ H;unfold aCr;dsimp only;simp only[↓zP,zJ,seval];refine Dz ?_;simp only[↓zP,zJ,seval,zD,oL (aM v)];refine eE (yD hv _) ?_;simp only[↓zP,zJ,seval,zD,oL (aM w)];refine eE (yD hw _) ?_;simp only[seval];refine eE (aHw ha hb _) ?_;simp only[↓zP,zJ,seval,zD]
 (refine Rx ?_;rfl)
theorem ru {v w:aI.V} (hv:∀i,wE (v.at i)) (hw:∀i,wE (w.at i)) (H:aA):Sg 117 [.agg (cG v),.agg (cG w)] H (.ret (.agg (c3 fun i=>cO (XT (fun i=>some (v.at i)) (fun i=>some (w.at i)) i)))) H:=by have ha:∀i,i<3->iU (cI (v.at i)) (some (v.at i)):=fun i _=>.enc (wE.fit (hv i));have hb:∀i,i<3->iU (cI (w.at i)) (some (w.at i)):=fun i _=>.enc (wE.fit (hw i));have hl:∀j,j<3->(cO (XT (fun i=>some (v.at i)) (fun i=>some (w.at i)) j)).length=18:=fun j _=>EJ _;have hz:∀j:Nat,j<3->(cI 0).length=18:=fun j _=>dH _;refine Sp aVh (by simp only[sf,cE]) (by simp only[sf];exact kJ fun i _=>HO _) ?_ H;unfold aKw;dsimp only;simp only[↓zP,zJ,seval,yP];refine Dz ?_;simp only[↓zP,zJ,seval,zD,oL (aM v)];refine eE (yD hv _) ?_;simp only[↓zP,zJ,seval,zD,oL (aM w)];refine eE (yD hw _) ?_;simp only[seval];refine eE (pe ha hb _) ?_;simp only[↓zP,zJ,seval,zD,oL (fX hl),oL (fX hz)];exact⟨rfl,_,by simp only[↓zP,zR,seval,oL (fX hl)];rfl,rfl⟩
theorem ku {a:Nat->List AV} {x:Nat->Option Int} (ha:∀i,i<3->iU (a i) (x i)) (H:aA):Sg 116 [.agg (c3 a)] H (.ret (.agg (cG ⟨(iW (x 0)).1,(iW (x 1)).1,(iW (x 2)).1⟩))) H:=by
 have la:∀i,i<3->(a i).length=18:=fun i hi=>(ha i hi).len;refine Sp aVg (by simp only[sf,kJ fun i hi=>(ha i hi).free]) (by simp only[sf,cE]) ?_ H;unfold aKv;dsimp only;simp only[↓zP,zJ,seval];refine fJ [] (fun i _ H'=>H'.get 0=some (.cells (c3 a) false)/\H'.get 1=some (.cells [.int .i64 0,.int .i64 0,.int .i64 0] false)/\H'.get 2=some (.cells ([0,1,2].map fun j=>if j<i then .int .i64 (iW (x j)).1 else .int .i64 0) false)) 3 (by decide) rfl (by decide) ?_ ?_ ?_ ?_
 · simp only[zB,seval]
 · simp only[zJ,seval,As]
 · rintro i f H hi hk e1 ⟨g0,g1,g2⟩;refine aF ?_;simp only[↓zP,zJ,seval,e1,hk 1 rfl,aB,hi,g0,fX la,rT la hi,show i*18+18<=54 by omega];refine bW (GP (ha i hi) _) ?_;simp only[↓zP,zJ,seval,hk 3 rfl,g2,aB,hi,show i+1<=3 by omega];refine⟨g0,g1,?_⟩
   match i,hi with
   |0,_=>rfl
   |1,_=>rfl
   |2,_=>rfl
 rintro f H hk ⟨g0,g1,g2⟩;simp only[↓zP,zJ,seval,hk 3 rfl,hk 2 rfl,g1,g2];exact⟨rfl,_,by simp only[↓zP,zR,seval,hk 2 rfl];rfl,rfl⟩
end Go.Proofs.YtndkpgceodimiaaGreatDoor
