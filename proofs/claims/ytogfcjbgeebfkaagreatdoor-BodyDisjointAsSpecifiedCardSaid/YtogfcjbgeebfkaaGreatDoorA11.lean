/-
  Part of the proof of statement 7
-/
import Derived.Test.YtogfcjbgeebfkaaGreatDoorA09
import Derived.Test.YtogfcjbgeebfkaaGreatDoorA10
import Derived.Test.YtogfcjbgeebfkaaGreatDoorA07
set_option linter.unusedVariables false
set_option linter.unusedSimpArgs false
set_option maxRecDepth 100000
set_option maxHeartbeats 16000000
namespace Go.Proofs.YtogfcjbgeebfkaaGreatDoor
open Go Go.Av Go.lP
attribute [local congr] aY aS aV aQ bD aX aW aH bE
attribute [local irreducible] FC bT eX
theorem PJ(a:Nat)(H:aA):Sg 268 [.int .u32 a] H (.ret (.bool false)) H:=by
 refine So bDg Zac ?_ H;unfold aSa;dsimp only;simp only[↓zP,zJ,seval,Hv]
 (refine Rx ?_;rfl)
theorem TH(a b:Nat)(H:aA):Sg 213 [.int .u32 a,.int .u32 b] H (.ret (.int .i64 (FN a b))) H:=by
 refine So bBv Zac ?_ H;unfold aQp;dsimp only;refine Ty ?_;refine bO (PJ a _) ?_;refine Ty ?_;refine bO (PJ b _) ?_;refine Ty ?_;refine⟨fun h=>?_,fun h=>⟨fun h2=>?_,fun h2=>?_⟩⟩<;>refine Rx ?_<;>unfold FN
 . rw[if_pos A0];rfl
 . rw[if_neg A0,if_pos A0];rfl
 rw[if_neg A0,if_neg A0];rfl
theorem JS{a b:Nat}(ha:a<W^16)(hb:b<W^16)(H:aA):Sg 136 [.agg (wC (aL 16 a)),.agg (wC (aL 16 b))] H (.ret (.int .i64 (FN a b))) H:=by
 refine So bAi Zac ?_ H;unfold aPc;dsimp only;have la:=iL (.aL a);have lb:=iL (.aL b);simp only[↓zP,zJ,Nat.reduceLT,Nat.reduceEqDiff];refine aP (iA [5] (fun m vs H'=>vs=[.int .i64 ((m:Int) -1)]/\m<=16/\a / W^m=b / W^m/\H'.get 0=some (.cells (wC (aL 16 a)) false)/\H'.get 1=some (.cells (wC (aL 16 b)) false)) 16 (by rfl) ?_ ?_)
 . refine⟨by simp only[sm,zB];rfl,by omega,by rw[Dn ha,Dn hb],by simp only[zI,Nat.reduceEqDiff],by simp only[zI,Nat.reduceEqDiff]⟩
 rintro m f H hk ⟨hv,hm,hd,g0,g1⟩;simp only[zM] at hv;simp only[↓zP,zJ,Nat.reduceLT,hv];refine⟨fun h=>?_,fun h=>?_⟩
 . obtain⟨m,rfl⟩:∃k,m=k+1:=⟨m -1,by omega⟩;have e:((m+1:Nat):Int) -1=(m:Nat):=by omega
   refine aP ?_;simp only[↓zP,e];refine Dz ?_;simp only[↓zP,zJ,Nat.reduceLT,Nat.reduceEqDiff,Nat.reduceAdd,zD,reduceCtorEq,hv,e,hk 2 rfl,hk 3 rfl,aG,g0,g1,show m<16 by omega,show m+1<=16 by omega,la,lb,fN (show m<16 by omega)];by_cases cG:aJ a m=aJ b m
   . simp only[zG,cG,Hv];have w:IntKind.i64.wrap ((m:Int) -1)=(m:Int) -1:=wrap_i64 A0 A0;exact⟨m,by omega,by rw[w],by omega,Rq hd cG⟩
   have hb:(((aJ a m:Nat):Int) != ((aJ b m:Nat):Int))=true:=Zaf;simp only[zG,hb];refine Dz ?_;simp only[↓zP,zJ,Nat.reduceLT,Nat.reduceEqDiff,Nat.reduceAdd,zD,reduceCtorEq,hv,e,hk 2 rfl,hk 3 rfl,aG,g0,g1,show m<16 by omega,show m+1<=16 by omega,la,lb,fN (show m<16 by omega)];refine dM (TH (aJ a m) (aJ b m) _) ?_;simp only[↓zP,zJ,Nat.reduceLT,Nat.reduceEqDiff,Nat.reduceAdd,zD,reduceCtorEq];refine Rx ?_;rw[aHj hd cG];rfl
 obtain rfl:m=0:=by omega
 simp only[Hl,Im] at hd;refine Rx ?_;simp[hd,FN,pA]
theorem aKm{a b:Nat}(ha:a<W^16)(hb:b<W^16)(H:aA):Sg 135 [.agg (wC (aL 16 a)),.agg (wC (aL 16 b))] H (.ret (.jZ [.agg (wC (aL 16 (a+b))),.bool (decide (a+b<W^16))])) H:=by
 refine So bAh Zac ?_ H;unfold aPb;dsimp only;have la:=iL (.aL a);have lb:=iL (.aL b);simp only[↓zP,zJ,Nat.reduceLT,Nat.reduceEqDiff,Nat.reduceAdd];refine fC [7] (fun i vs H'=>vs=[.int .u64 (cr a b i:Nat)]/\H'.get 0=some (.cells (wC (aL 16 a)) false)/\H'.get 1=some (.cells (wC (aL 16 b)) false)/\H'.get 2=some (.cells (wC zs) false)/\H'.get 3=some (.cells (wC (RO i (aL 16 (a+b)))) false)) 16 A1 rfl A1 ?_ ?_ ?_ ?_
 . simp only[zB]
 . refine⟨by simp only[sm,zB,Nat.reduceEqDiff,aHn];rfl,?_⟩;rw[yU];simp only[zJ,Nat.reduceEqDiff,Nat.reduceAdd]
 . rintro i f H hi hk e1 ⟨hv,g0,g1,g2,g3⟩;simp only[zM] at hv;have c1:=aMc a b i;have c2:=cU a i;have c3:=cU b i;have hW:W=4294967296:=rfl;have w1:IntKind.u64.wrap ((aJ a i:Nat):Int)=(aJ a i:Nat):=gR A0 (.inl rfl);have w2:IntKind.u64.wrap ((aJ b i:Nat):Int)=(aJ b i:Nat):=gR A0 (.inl rfl);have w3:IntKind.u64.wrap (((aJ a i:Nat):Int)+(aJ b i:Nat))=((aJ a i+aJ b i:Nat):Int):=gR A0 (.inl A0);have w4:IntKind.u64.wrap (((cr a b i:Nat):Int)+((aJ a i+aJ b i:Nat):Int))=((cr a b i+aJ a i+aJ b i:Nat):Int):=gR A0 (.inl A0);refine aP ?_;simp only[↓zP,zG,Nat.reduceLT,Nat.reduceEqDiff,e1];refine Dz ?_;simp only[↓zP,zJ,Nat.reduceLT,Nat.reduceEqDiff,Nat.reduceAdd,zD,reduceCtorEq,Int.reduceLT,hv,hk 2 rfl,hk 3 rfl,hk 6 rfl,aG,g0,g1,g3,hi,show i+1<=16 by omega,la,lb,fN hi,w1,w2,w3,w4,AA,LQ,sT,<-aHm];exact⟨g2,by rw[yT hi (by rw[aCe])]⟩
 rintro f H hk ⟨hv,g0,g1,g2,g3⟩;simp only[zM] at hv;simp only[↓zP,zJ,Nat.reduceEqDiff,hv,hk 6 rfl,hk 4 rfl,g2,g3,DK,(iL (.aL (a+b)))]
 have hc:(((cr a b 16:Nat):Int)==0)=decide (a+b<W^16):=by rw[aTb ha hb];split<;>rename_i hl<;>simp[hl]
 refine⟨rfl,_,by simp only[↓zP,zR,Nat.reduceEqDiff,hk 4 rfl,iL (.aL (a+b))];rfl,?_⟩;rw[hc];rfl
theorem aAt(u:Nat):(u:Int).fdiv (2^min (Int.toNat 63) IntKind.u64.bits)=((u / 2^63:Nat):Int):=by show(u:Int).fdiv (2^63)=_;rw[Jw _ A1];rfl
theorem PZ{a b:Nat}(ha:a<W^16)(hb:b<=a)(H:aA):Sg 137 [.agg (wC (aL 16 a)),.agg (wC (aL 16 b))] H (.ret (.agg (wC (aL 16 (a -b))))) H:=by
 refine So bAj Zac ?_ H;unfold aPd;dsimp only;have la:=iL (.aL a);have lb:=iL (.aL b);simp only[↓zP,zJ,Nat.reduceLT,Nat.reduceEqDiff,Nat.reduceAdd];refine fC [6] (fun i vs H'=>vs=[.int .u64 (bw a b i:Nat)]/\H'.get 0=some (.cells (wC (aL 16 a)) false)/\H'.get 1=some (.cells (wC (aL 16 b)) false)/\H'.get 2=some (.cells (wC zs) false)/\H'.get 3=some (.cells (wC (RO i (aL 16 (a -b)))) false)) 16 A1 rfl A1 ?_ ?_ ?_ ?_
 . simp only[zB]
 . refine⟨by simp only[sm,zB,Nat.reduceEqDiff,aHe];rfl,?_⟩;rw[yU];simp only[zJ,Nat.reduceEqDiff,Nat.reduceAdd]
 . rintro i f H hi hk e1 ⟨hv,g0,g1,g2,g3⟩;simp only[zM] at hv;have c1:bw a b i<=1:=by unfold bw;split<;>omega
   have c2:=cU a i;have c3:=cU b i;have c4:=aCf hb i;have c5:=aHd a b i;have hW:W=4294967296:=rfl;have w1:IntKind.u64.wrap ((aJ a i:Nat):Int)=(aJ a i:Nat):=gR A0 (.inl rfl);have w2:IntKind.u64.wrap ((aJ b i:Nat):Int)=(aJ b i:Nat):=gR A0 (.inl rfl);obtain⟨D,hD⟩:∃D:Nat,(D:Int)=(((aJ a i:Nat):Int) -(aJ b i:Nat) -(bw a b i:Nat))%2^64:=⟨((((aJ a i:Nat):Int) -(aJ b i:Nat) -(bw a b i:Nat))%2^64).toNat,Lg A0⟩
   have w3:IntKind.u64.wrap (IntKind.u64.wrap (((aJ a i:Nat):Int) -(aJ b i:Nat)) -((bw a b i:Nat):Int))=(D:Int):=by simp only[IntKind.wrap,IntKind.bits,IntKind.signed,hD];simp
   have w4:D / 2^63=bw a b (i+1):=(by rw[c5];split<;>omega);refine aP ?_;simp only[↓zP,zG,Nat.reduceLT,Nat.reduceEqDiff,e1];refine Dz ?_;simp only[↓zP,zJ,Nat.reduceLT,Nat.reduceEqDiff,Nat.reduceAdd,zD,reduceCtorEq,Int.reduceLT,hv,hk 2 rfl,hk 3 rfl,hk 5 rfl,aG,g0,g1,g3,hi,show i+1<=16 by omega,la,lb,fN hi,w1,w2,w3,AA,aAt,sT,w4];exact⟨g2,by rw[yT hi (by rw[c4,hW];omega)]⟩
 rintro f H hk ⟨hv,g0,g1,g2,g3⟩;simp only[zM] at hv;simp only[↓zP,zJ,Nat.reduceEqDiff,hk 5 rfl,hk 4 rfl,g2,g3,DK,(iL (.aL (a -b)))];exact⟨rfl,_,by simp only[↓zP,zR,Nat.reduceEqDiff,hk 4 rfl,iL (.aL (a -b))];rfl,rfl⟩
theorem tO{a:List AV}{x:Option Int}(ha:dS a x)(H:aA):Sg 133 [.bC 1 18 [a]] H (.ret (.bool x.isSome)) H:=by obtain⟨r,rfl,-,hr⟩:=ha.raw;have :=ed [r] A2 H;simpa [hr] using this
theorem pM{a b:List AV}{x y:Option Int}(ha:dS a x)(hb:dS b y)(H:aA):Sg 133 [.bC 1 18 [a,b]] H (.ret (.bool (x.isSome&&y.isSome))) H:=by obtain⟨r,rfl,-,hr⟩:=ha.raw;obtain⟨q,rfl,-,hq⟩:=hb.raw;have :=ed [r,q] A2 H;simpa [hr,hq] using this
theorem iH{n:Bool}{m:Nat}(hm:m<W^16){z:Int}(hz:z=sg n m)(H:aA):Sg 129 [.bool n,.agg (wC (aL 16 m))] H (.ret (.agg (cI z))) H:=by
 have :=MF n (.aL m) H
 have e:(n&& !decide (aL 16 m=zs))=decide (z<0):=by
  have h0:aL 16 m=zs↔m=0:=by rw[<-BY (.aL m),eD hm]
  subst hz
  cases n with
  |false=>simp[sg]
  |true=>
   by_cases SL:m=0
   . subst SL;simp[sg,tT]
   have : -(m:Int)<0:=A0;simp only[sg,h0,SL,this,if_true,Ct,Fv,Hi,Fy]
 have e2:z.natAbs=m:=by rw[hz,iS]
 rw[e] at this;unfold cI
 rwa [e2]
theorem bu{a b:List AV}{x y:Option Int}(ha:dS a x)(hb:dS b y)(hxy:(x.isSome&&y.isSome)=false)(H:aA):Sg 57 [.agg a,.agg b] H (.ret (.agg uD)) H:=by have hg:=pM ha hb;rw[hxy] at hg;refine So bEd Zaj ?_ H;unfold W57;dsimp only;simp only[↓zP,zJ,seval,oL ha.len,oL hb.len];refine bO (hg _) ?_;refine Ty ?_;refine bO (qB _) ?_;simp only[↓zP,zJ,seval,uD];exact⟨rfl,_,by simp only[↓zP,zR,seval];rfl,rfl⟩
theorem xh{z w:Int}(hz:z.natAbs<W^16)(hw:w.natAbs<W^16)(H:aA):Sg 57 [.agg (cI z),.agg (cI w)] H (.ret (.agg (cO (norm (z+w))))) H:=by
 refine So bEd (by simp only[sf,sfI]) ?_ H;unfold W57;dsimp only;have la:=iL (.aL z.natAbs);have lb:=iL (.aL w.natAbs);refine Ty ?_;refine bO (pM (.enc hz) (.enc hw) _) ?_;simp only[↓zP,zJ,seval,An,Du,cI,la,lb];by_cases hs:decide (z<0)=decide (w<0)
 . simp only[zG,seval,hs,Iy];refine bO (aKm hz hw _) ?_;have hl:=iL (.aL (z.natAbs+w.natAbs))
   have e:z+w=sg (decide (w<0)) (z.natAbs+w.natAbs):=by by_cases h1:z<0<;>by_cases h2:w<0<;>simp[h1,h2,sg] at hs ⊢ <;>omega
   have e2:(z+w).natAbs=z.natAbs+w.natAbs:=(by rw[e,iS]);simp only[↓zP,zJ,seval,hl];refine⟨fun h=>?_,fun h=>?_⟩
   . refine bO (iH h e _) ?_;have hr:norm (z+w)=some (z+w):=(by unfold norm;rw[e2,if_pos h]);have hl:=iL (.aL (z+w).natAbs);simp only[↓zP,zJ,seval,cI,hl];refine⟨rfl,_,by simp only[↓zP,zR,seval,hl];rfl,?_⟩;rw[hr];rfl
   refine bO (qB _) ?_;simp only[↓zP,zJ,seval,uD];refine Rx ?_;have hr:norm (z+w)=none:=(by unfold norm;rw[e2,if_neg h]);rw[hr];rfl
 have BL:(decide (z<0)==decide (w<0))=false:=by simpa using hs
 have hb:(z+w).natAbs<W^16:=by generalize W^16=X at *;by_cases h1:z<0<;>by_cases h2:w<0<;>simp[h1,h2] at hs<;>omega
 have hr:norm (z+w)=some (z+w):=by unfold norm;rw[if_pos hb]
 have hl:=iL (.aL (z+w).natAbs);simp only[zG,seval,BL];refine bO (JS hz hw _) ?_;refine Tz ?_;refine⟨fun h=>?_,fun h=>?_⟩
 . have hle:w.natAbs<=z.natAbs:=by
    unfold FN at h;split at h<;>omega
   have e:z+w=sg (decide (z<0)) (z.natAbs -w.natAbs):=by by_cases h1:z<0<;>by_cases h2:w<0<;>simp[h1,h2,sg] at hs ⊢ <;>omega
   refine Dz ?_;simp only[↓zP,zJ,seval,zD,la,lb];refine dM (PZ hz hle _) ?_;simp only[seval];refine dM (iH (Ce (Nat.sub_le _ _) hz) e _) ?_;simp only[↓zP,zJ,seval,zD,cI,hl];refine⟨rfl,_,by simp only[↓zP,zR,seval,hl];rfl,?_⟩;rw[hr];rfl
 have hle:z.natAbs<=w.natAbs:=by unfold FN at h;split at h<;>(try split at h)<;>omega
 have e:z+w=sg (decide (w<0)) (w.natAbs -z.natAbs):=by by_cases h1:z<0<;>by_cases h2:w<0<;>simp[h1,h2,sg] at hs ⊢ <;>omega
 refine Dz ?_;simp only[↓zP,zJ,seval,zD,la,lb];refine dM (PZ hw hle _) ?_;simp only[seval];refine dM (iH (Ce (Nat.sub_le _ _) hw) e _) ?_;simp only[↓zP,zJ,seval,zD,cI,hl];refine⟨rfl,_,by simp only[↓zP,zR,seval,hl];rfl,?_⟩;rw[hr];rfl
theorem KQ{a b:List AV}{x y:Option Int}(ha:dS a x)(hb:dS b y)(H:aA):Sg 57 [.agg a,.agg b] H (.ret (.agg (cO (vJ x y)))) H:=by
 cases x with
 |none=>exact bu ha hb rfl H
 |some z=>cases y with
  |none=>exact bu ha hb rfl H
  |some w=>obtain⟨rfl,hz⟩:=ha.some;obtain⟨rfl,hw⟩:=hb.some;exact xh hz hw H
theorem TR{a:List AV}{x:Option Int}(ha:dS a x)(H:aA):Sg 165 [.agg a] H (.ret (.agg (cO (NR x)))) H:=by
 refine So bAx ZaH ?_ H;unfold aPr;dsimp only;simp only[↓zP,zJ,seval,oL ha.len];refine bO (tO ha _) ?_
 cases x with
 |none=>simp only[↓zP,zJ,seval,Br];refine bO (qB _) ?_;simp only[↓zP,zJ,seval,uD];exact⟨rfl,_,by simp only[↓zP,zR,seval];rfl,rfl⟩
 |some z=>obtain⟨rfl,hz⟩:=ha.some;have la:=iL (.aL z.natAbs);have hl:=iL (.aL (-z).natAbs);simp only[↓zP,zJ,seval,An,cI,la];refine bO (iH (n:= !decide (z<0)) hz (z:= -z) (by by_cases h:z<0<;>simp[sg,h]<;>omega) _) ?_;simp only[↓zP,zJ,seval,cI,hl];exact⟨rfl,_,by simp only[↓zP,zR,seval,hl];rfl,rfl⟩
theorem YG{a b:List AV}{x y:Option Int}(ha:dS a x)(hb:dS b y)(H:aA):Sg 158 [.agg a,.agg b] H (.ret (.agg (cO (vJ x (NR y))))) H:=by
 refine So bAr Zaj ?_ H;unfold aPl;dsimp only;refine Ty ?_;refine Dz ?_;simp only[↓zP,zJ,seval,zD,oL ha.len,oL hb.len];refine dM (TR hb _) ?_;simp only[seval];refine dM (KQ ha hb.neg _) ?_;simp only[↓zP,zJ,seval,zD]
 (refine Rx ?_;rfl)
theorem sW(a:Nat)(H:aA):Sg 197 [.agg (wC (aL 16 a))] H (.ret (.int .i64 (sz a:Nat))) H:=by
 refine So bBk Zac ?_ H;unfold aQe;dsimp only;have la:=iL (.aL a);simp only[↓zP,zJ,Nat.reduceLT];refine aP (iA [3] (fun m vs H'=>vs=[.int .i64 (m:Nat)]/\m<=16/\jq m a=sz a/\H'.get 0=some (.cells (wC (aL 16 a)) false)) 16 (by rfl) ?_ ?_)
 . refine⟨by simp only[sm,zB];rfl,by omega,rfl,by simp only[zI]⟩
 rintro m f H hk ⟨hv,hm,hd,g0⟩;simp only[zM] at hv;simp only[↓zP,zJ,Nat.reduceLT,Nat.reduceEqDiff,hv]
 cases m with
 |zero=>simp only[zJ,show decide (((0:Nat):Int)>0)=false from rfl];refine Rx ?_;rw[<-hd];rfl
 |succ m=>
  have w:IntKind.i64.wrap (((m+1:Nat):Int) -1)=(m:Nat):=wI A0;simp only[↓zP,zJ,Nat.reduceEqDiff,show decide (((m+1:Nat):Int)>0)=true from Aj A0,hk 1 rfl,w,aG,g0,show m<16 by omega,show m+1<=16 by omega,la,fN (show m<16 by omega)];by_cases hz:aJ a m=0
  . simp only[zG,hz,show(((0:Nat):Int)==0)=true from rfl];refine aP ?_;simp only[↓zP,zG,Nat.reduceLT,Nat.reduceEqDiff,hv,w];refine⟨m,by omega,rfl,by omega,by rw[<-hd,jq,if_pos hz],g0⟩
  have hb:(((aJ a m:Nat):Int)==0)=false:=by simp;omega
  simp only[zG,hb];refine Rx ?_;rw[<-hd,jq,if_neg hz];rfl
theorem JG:∀b:Nat,b<256->([0,1,2,2,3,3,3,3,4,4,4,4,4,4,4,4,5,5,5,5,5,5,5,5,5,5,5,5,5,5,5,5,6,6,6,6,6,6,6,6,6,6,6,6,6,6,6,6,6,6,6,6,6,6,6,6,6,6,6,6,6,6,6,6,7,7,7,7,7,7,7,7,7,7,7,7,7,7,7,7,7,7,7,7,7,7,7,7,7,7,7,7,7,7,7,7,7,7,7,7,7,7,7,7,7,7,7,7,7,7,7,7,7,7,7,7,7,7,7,7,7,7,7,7,7,7,7,7,8,8,8,8,8,8,8,8,8,8,8,8,8,8,8,8,8,8,8,8,8,8,8,8,8,8,8,8,8,8,8,8,8,8,8,8,8,8,8,8,8,8,8,8,8,8,8,8,8,8,8,8,8,8,8,8,8,8,8,8,8,8,8,8,8,8,8,8,8,8,8,8,8,8,8,8,8,8,8,8,8,8,8,8,8,8,8,8,8,8,8,8,8,8,8,8,8,8,8,8,8,8,8,8,8,8,8,8,8,8,8,8,8,8,8,8,8,8,8,8,8,8,8,8,8,8,8,8]:List UInt8)[b]?=some (UInt8.ofNat (dG b)):=by decide+kernel
theorem aAu(u k:Nat)(kk:IntKind)(hk:k<=kk.bits):(u:Int).fdiv (2^min (Int.toNat k) kk.bits)=((u / 2^k:Nat):Int):=by rw[show min (Int.toNat k) kk.bits=k by simp;omega,Jw _ (by exact_mod_cast Bp _)];simp
theorem Nj{b n:Nat}(hb:b<256)(hn:n<=24):IntKind.i64.wrap ((n:Int)+IntKind.i64.wrap ((UInt8.ofNat (dG b)).toNat:Int))=((n+dG b:Nat):Int):=by
 have h1:dG b<=8:=iR.2 hb;have h2:(UInt8.ofNat (dG b)).toNat=dG b:=by simp;omega
 have h3:IntKind.i64.wrap ((dG b:Nat):Int)=(dG b:Nat):=wrap_i64 A0 A0;rw[h2,h3,wrap_i64 A0 A0];simp
theorem wu8{b:Nat}(hb:b<256):IntKind.u8.wrap (b:Int)=(b:Int):=by simp only[IntKind.wrap,IntKind.bits,IntKind.signed];simp;omega
theorem VK{a:Nat}(ha:a<W)(H:aA):Sg 271 [.int .u32 a] H (.ret (.int .i64 (dG a:Nat))) H:=by
 refine So bDk Zac ?_ H;unfold aSe;dsimp only;have hW:W=4294967296:=rfl;simp only[↓zP,zJ,Nat.reduceLT,Nat.reduceEqDiff,Int.reduceLT];have f16:∀u:Nat,(u:Int).fdiv (2^min (Int.toNat 16) IntKind.u32.bits)=((u / 2^16:Nat):Int):=fun u=>aAu u 16 .u32 A1;have f8:∀u:Nat,(u:Int).fdiv (2^min (Int.toNat 8) IntKind.u32.bits)=((u / 2^8:Nat):Int):=fun u=>aAu u 8 .u32 A1;have w24:IntKind.i64.wrap (16+8)=((24:Nat):Int):=by decide
 have w8:IntKind.i64.wrap (0+8)=((8:Nat):Int):=by decide
 refine⟨fun h=>?_,fun h=>?_⟩
 . simp only[f16];refine⟨fun h2=>?_,fun h2=>?_⟩
   . have hb:a / 2^16 / 2^8<256:=A0;simp only[↓zP,zJ,f8,wu8 hb,aG,JG _ hb,w24,Nj hb (show 24<=24 by omega)];refine Rx ?_
     have e:dG a=24+dG (a / 2^16 / 2^8):=by rw[Dw,<-Ez,sK (k:=16+8) A0];omega
     rw[e];rfl
   have hb:a / 2^16<256:=A0;have :=Nj hb (show 16<=24 by omega);simp only[↓zP,zJ,wu8 hb,aG,JG _ hb];refine Rx ?_;have e:dG a=16+dG (a / 2^16):=(by rw[sK (k:=16) A0];omega);rw[e,<-this];rfl
 refine⟨fun h2=>?_,fun h2=>?_⟩
 . have hb:a / 2^8<256:=by omega
   simp only[↓zP,zJ,f8,wu8 hb,aG,JG _ hb,w8,Nj hb (show 8<=24 by omega)];refine Rx ?_;have e:dG a=8+dG (a / 2^8):=(by rw[sK (k:=8) A0];omega);rw[e];rfl
 have hb:a<256:=by omega
 have :=Nj hb (show 0<=24 by omega);simp only[↓zP,zJ,wu8 hb,aG,JG _ hb];refine Rx ?_;rw[Dg] at this;rw[<-this];rfl
theorem aMi{α:Type}(a b d:α)(l:List α)(k:Nat):(a::b::l).getD (2+k) d=l.getD k d:=by rw[Hq];rfl
def zy:Option Int->Nat
 |some z=>dG z.natAbs
 |none=>0
theorem aFv{a:List AV}{x:Option Int}(ha:dS a x)(H:aA):Sg 220 [.agg a] H (.ret (.int .i64 (zy x:Nat))) H:=by
 refine So bCb ZaH ?_ H;unfold aQv;dsimp only;obtain⟨r,rfl,hx,-⟩:=ha.raw;have hr:=iu r.hl;have lr:=Lp r.hl;have hs:=sW (tA r.l);rw[lr] at hs;have SI:=tO ha;rw[show r.cells=.bool r.b::.bool r.n::wC r.l from rfl] at SI;simp only[↓zP,zJ,seval,vH.cells,iL r.hl];refine bO (hs _) ?_;simp only[↓zP,zJ,seval,iL r.hl];refine bO (SI _) ?_
 cases x with
 |none=>simp only[↓zP,zJ,seval,Br];exact⟨rfl,_,by simp only[↓zP,zR,seval];rfl,rfl⟩
 |some z=>
  have hz:=ha.fit;obtain⟨hb,hn,hl,-⟩:=TA r.hl hx.symm;have ez:tA r.l=z.natAbs:=by rw[hl,eD hz]
  rw[ez];by_cases h0:sz z.natAbs=0
  . simp only[↓zP,zJ,seval,An,h0];refine Rx ?_;rw[zy,(jt hz).1 h0];rfl
  have hb:(((sz z.natAbs:Nat):Int)==0)=false:=by simp;omega
  have l16:=XL z.natAbs;have w1:IntKind.i64.wrap (((sz z.natAbs:Nat):Int) -1)=((sz z.natAbs -1:Nat):Int):=wI A0;have w2:IntKind.i64.wrap (32*((sz z.natAbs -1:Nat):Int))=((32*(sz z.natAbs -1):Nat):Int):=by rw[wrap_i64 A0 A0];simp
  have hg:(wC r.l).getD (sz z.natAbs -1) aB=.int .u32 (aJ z.natAbs (sz z.natAbs -1)):=by rw[hl,fN A0]
  have Vy:dG (aJ z.natAbs (sz z.natAbs -1))<=32:=iR.2 (cU _ _)
  have w3:IntKind.i64.wrap (((32*(sz z.natAbs -1):Nat):Int)+(dG (aJ z.natAbs (sz z.natAbs -1)):Nat))=((dG z.natAbs:Nat):Int):=by rw[wrap_i64 A0 A0,l8 hz h0];simp
  simp only[↓zP,zJ,seval,An,hb,w1,w2,aG,show sz z.natAbs -1<16 by omega,show 2+(sz z.natAbs -1)<=17 by omega,iL r.hl,aMi,hg];refine bO (VK (cU z.natAbs (sz z.natAbs -1)) _) ?_;simp only[↓zP,zG,seval,w3]
  (refine Rx ?_;rfl)
def eT:Option Int->Int×Bool
 |some z=>if -2^63<=z/\z<2^63 then(z,true) else(0,false)
 |none=>(0,false)
theorem Zh{a b:Nat}(ha:a<4294967296)(hb:b<4294967296):tN .or .u64 (IntKind.u64.wrap (((a:Nat):Int)*2^(min (Int.toNat 32) IntKind.u64.bits))) ((b:Nat):Int)=some (.int .u64 ((a*4294967296+b:Nat):Int)):=by
 have e:IntKind.u64.wrap (((a:Nat):Int)*2^(min (Int.toNat 32) IntKind.u64.bits))=((a*4294967296:Nat):Int):=by show IntKind.u64.wrap (((a:Nat):Int)*4294967296)=_;exact gR A0 A0
 rw[e]
 have e2:(a*4294967296|||b)=a*4294967296+b:=by have :=Nat.two_pow_add_eq_or_of_lt (i:=32) hb a;rw[Bx] at this;exact this.symm
 have e3:∀n:Nat,BitVec.ofInt 64 (n:Int)=BitVec.ofNat 64 n:=fun n=>by simp
 simp only[tN];congr 2;rw[show IntKind.u64.bits=64 from rfl,e3,e3,<-BitVec.ofNat_or,e2,Jy,Bn A0];exact gR A0 (.inl rfl)
theorem wJ{a:List AV}{x:Option Int}(ha:dS a x)(H:aA):Sg 156 [.agg a] H (.ret (.jZ [.int .i64 (eT x).1,.bool (eT x).2])) H:=by
 refine So bAp ZaH ?_ H;unfold aPj;dsimp only;simp only[↓zP,zJ,Nat.reduceLT,Nat.reduceEqDiff,oL ha.len];refine bO (tO ha _) ?_
 cases x with
 |none=>simp only[↓zP,zJ,Nat.reduceLT,Nat.reduceEqDiff,Br];exact⟨rfl,_,by simp only[↓zP,zR,Nat.reduceEqDiff];rfl,rfl⟩
 |some z=>
  obtain⟨rfl,hz⟩:=ha.some;have la:=iL (.aL z.natAbs);have hW:W=4294967296:=rfl;have hW2:W^2=2^64:=rfl;simp only[↓zP,zJ,Nat.reduceLT,Nat.reduceEqDiff,An];refine bO (aFv ha _) ?_;simp only[↓zP,zJ,Nat.reduceLT,Nat.reduceEqDiff,zy];refine⟨fun h=>?_,fun h=>?_⟩
  . have :¬z.natAbs<2^64:=fun hh=>by have :=iR.2 hh;omega
    refine Rx ?_;rw[eT,if_neg A0];rfl
  have dT:z.natAbs<2^64:=iR.1 A0;have e0:(wC (aL 16 z.natAbs)).getD 0 aB=.int .u32 (aJ z.natAbs 0:Nat):=fN A0;have e1:(wC (aL 16 z.natAbs)).getD 1 aB=.int .u32 (aJ z.natAbs 1:Nat):=fN A0;have h0:=cU z.natAbs 0;have h1:=cU z.natAbs 1;have w0:IntKind.u64.wrap ((aJ z.natAbs 0:Nat):Int)=(aJ z.natAbs 0:Nat):=gR A0 (.inl rfl);have w1:IntKind.u64.wrap ((aJ z.natAbs 1:Nat):Int)=(aJ z.natAbs 1:Nat):=gR A0 (.inl rfl)
  have et:aJ z.natAbs 1*W+aJ z.natAbs 0=z.natAbs:=by have h2:aJ z.natAbs 0=z.natAbs%W:=(by simp[aJ]);have h3:aJ z.natAbs 1=z.natAbs / W:=(by unfold aJ;rw[Nat.pow_one,hW,Bn A0]);rw[h2,h3,Bx];exact Eh _ _
  have ho:=Zh h1 h0;rw[hW] at et;rw[et] at ho;unfold cI;simp only[↓zP,zJ,Nat.reduceLT,Nat.reduceAdd,Nat.reduceLeDiff,Int.reduceLT,la,pZ,e0,e1,w0,w1,ho];refine aP ?_;by_cases Lo:z<0
  . simp only[↓zP,zJ,Nat.reduceLT,Nat.reduceEqDiff,Nat.reduceAdd,Nat.reduceLeDiff,Aj Lo,la];refine⟨fun h4=>?_,fun h4=>?_⟩
    . have w2:IntKind.u64.wrap (0 -((z.natAbs:Nat):Int))=((2^64 -z.natAbs:Nat):Int):=gR A0 A0
      have w3:IntKind.i64.wrap ((2^64 -z.natAbs:Nat):Int)=z:=by simp only[IntKind.wrap,IntKind.bits,IntKind.signed];simp;omega
      refine⟨rfl,_,by simp only[↓zP,zR,Nat.reduceEqDiff,w2,w3];rfl,?_⟩;rw[eT,if_pos A0];rfl
    refine Rx ?_;rw[eT,if_neg A0];rfl
  simp only[↓zP,zJ,Nat.reduceLT,Nat.reduceEqDiff,Nat.reduceAdd,Nat.reduceLeDiff,Ad Lo,la];refine⟨fun h4=>?_,fun h4=>?_⟩
  . have w3:IntKind.i64.wrap ((z.natAbs:Nat):Int)=z:=by
     rw[wrap_i64 A0 A0];omega
    refine⟨rfl,_,by simp only[↓zP,zR,Nat.reduceEqDiff,w3];rfl,?_⟩;rw[eT,if_pos A0];rfl
  refine Rx ?_;rw[eT,if_neg A0];rfl
def fV:Option Int->Int
 |some z=>if z<0 then -1 else if z=0 then 0 else 1
 |none=>0
def aSv:Option Int->Option Int
 |some z=>some z.natAbs
 |none=>none
def kW:Option Int->Option Int->Int
 |some x,some y=>if x<y then -1 else if y<x then 1 else 0
 |none,none=>0
 |none,_=> -1
 |_,none=>1
theorem rI{n:Nat}(h:n<W^16):aL 16 n=zs↔n=0:=by rw[<-BY (.aL n),eD h]
theorem qR{a:List AV}{x:Option Int}(ha:dS a x)(H:aA):Sg 110 [.agg a] H (.ret (.int .i64 (fV x))) H:=by
 refine So aZu ZaH ?_ H;unfold aOo;dsimp only;refine Ty ?_;refine aP ?_;simp only[↓zP,zJ,seval,oL ha.len];refine bO (tO ha _) ?_
 cases x with
 |none=>simp only[↓zP,zJ,seval,Br];exact⟨rfl,_,by simp only[↓zP,zR,seval];rfl,rfl⟩
 |some z=>
  obtain⟨rfl,hz⟩:=ha.some;have la:=iL (.aL z.natAbs);unfold cI;by_cases Lo:z<0
  . have he:decide (aL 16 z.natAbs=zs)=false:=by rw[Ad];rw[rI hz];omega
    simp only[↓zP,zJ,seval,An,la,he,Aj Lo];refine Rx ?_;rw[fV,if_pos Lo];rfl
  by_cases h1:z=0
  . subst h1;simp only[↓zP,zJ,seval,An];exact Zaa
  have he:decide (aL 16 z.natAbs=zs)=false:=by rw[Ad];rw[rI hz];omega
  simp only[↓zP,zJ,seval,An,la,he,Ad Lo];refine Rx ?_;rw[fV,if_neg Lo,if_neg h1];rfl
theorem xg{a:List AV}{x:Option Int}(ha:dS a x)(H:aA):Sg 199 [.agg a] H (.ret (.agg (cO (aSv x)))) H:=by
 refine So bBm ZaH ?_ H;unfold aQg;dsimp only;simp only[↓zP,zJ,seval,oL ha.len];refine bO (tO ha _) ?_
 cases x with
 |none=>simp only[↓zP,zJ,seval,Br];refine bO (qB _) ?_;refine Ty ?_;exact⟨rfl,_,by simp only[↓zP,zR,seval];rfl,rfl⟩
 |some z=>obtain⟨rfl,hz⟩:=ha.some;have la:=iL (.aL z.natAbs);unfold cI;simp only[↓zP,zJ,seval,An,la];refine bO (iH (n:=false) hz (z:=(z.natAbs:Int)) rfl _) ?_;refine Ty ?_;exact⟨rfl,_,by simp only[↓zP,zR,seval];rfl,rfl⟩
theorem FB{a b:List AV}{x y:Option Int}(ha:dS a x)(hb:dS b y)(H:aA):Sg 95 [.agg a,.agg b] H (.ret (.int .i64 (kW x y))) H:=by
 refine So bKu Zaj ?_ H;unfold W95;dsimp only;refine bX ?_;refine Ty ?_;refine gG ?_;refine Dz ?_;simp only[↓zP,zJ,seval,zD,oL ha.len];refine dM (tO ha _) ?_;simp only[↓zP,zJ,seval,zD,oL hb.len];refine dM (tO hb _) ?_;simp only[↓zP,zJ,seval,zD];refine bY ?_;refine aT fun K hK=>?_;refine aP ?_
 cases x with
 |none=>
  cases y<;>
  . simp only[↓zP,zJ,seval,Br,An];exact Zaa
 |some z=>cases y with
  |none=>simp only[↓zP,zJ,seval,Br,An];exact⟨rfl,_,by simp only[↓zP,zR,seval];rfl,rfl⟩
  |some w=>
   obtain⟨rfl,hz⟩:=ha.some;obtain⟨rfl,hw⟩:=hb.some;have la:=iL (.aL z.natAbs);have lb:=iL (.aL w.natAbs);unfold cI;by_cases h1:z<0<;>by_cases h2:w<0
   . simp only[↓zP,zJ,seval,An,Aj h1,Aj h2,la,lb];refine bO (JS hw hz _) ?_;refine Tz ?_;refine⟨rfl,_,by simp only[↓zP,zR,seval];rfl,?_⟩
     have e:kW (some z) (some w)=FN w.natAbs z.natAbs:=by
      simp only[kW,FN]
      repeat' split
      all_goals first|rfl|omega
     rw[e];rfl
   . simp only[↓zP,zJ,seval,An,Aj h1,Ad h2,la,lb];refine⟨rfl,_,by simp only[↓zP,zR,seval];rfl,?_⟩;rw[kW,if_pos A0];rfl
   . simp only[↓zP,zJ,seval,An,Ad h1,Aj h2,la,lb];refine⟨rfl,_,by simp only[↓zP,zR,seval];rfl,?_⟩;rw[kW,if_neg A0,if_pos A0];rfl
   simp only[↓zP,zJ,seval,An,Ad h1,Ad h2,la,lb];apply hK;simp only[↓zP,zJ,seval,la,lb];refine bO (JS hz hw _) ?_;refine Tz ?_;refine⟨rfl,_,by simp only[↓zP,zR,seval];rfl,?_⟩
   have e:kW (some z) (some w)=FN z.natAbs w.natAbs:=by
    simp only[kW,FN]
    repeat' split
    all_goals first|rfl|omega
   rw[e];rfl
theorem aLy:[AV.int .u32 0,.int .u32 0,.int .u32 0,.int .u32 0,.int .u32 0,.int .u32 0,.int .u32 0,.int .u32 0,.int .u32 0,.int .u32 0,.int .u32 0,.int .u32 0,.int .u32 0,.int .u32 0,.int .u32 0,.int .u32 0,.int .u32 0,.int .u32 0,.int .u32 0,.int .u32 0,.int .u32 0,.int .u32 0,.int .u32 0,.int .u32 0,.int .u32 0,.int .u32 0,.int .u32 0,.int .u32 0,.int .u32 0,.int .u32 0,.int .u32 0,.int .u32 0]=wC (List.replicate 32 0):=rfl
theorem tI{a b:List AV}{x y:Option Int}(ha:dS a x)(hb:dS b y)(H:aA):Sg 114 [.agg a,.agg b] H (.ret (.agg (cO (lO x y)))) H:=by
 refine So aZw Zaj ?_ H;unfold aOq;dsimp only;refine aT fun K hK=>?_;simp only[↓zP,zG,Nat.reduceLT,Nat.reduceEqDiff,Nat.reduceAdd,zI];apply hK;clear hK K;refine aT fun K hK=>?_;simp only[↓zP,zG,Nat.reduceLT,Nat.reduceEqDiff,Nat.reduceAdd,zI,oL ha.len,oL hb.len];refine bO (pM ha hb _) ?_
 cases x with
 |none=>simp only[↓zP,zG,Nat.reduceLT,zI,Br,Jx];refine bO (qB _) ?_;simp only[↓zP,zG,Nat.reduceEqDiff,Nat.reduceAdd,zI,uD];exact⟨rfl,_,by simp only[↓zP,zR,Nat.reduceEqDiff,Nat.reduceAdd];rfl,rfl⟩
 |some z=>cases y with
  |none=>simp only[↓zP,zG,Nat.reduceLT,zI,Br,Bool.and_false];refine bO (qB _) ?_;simp only[↓zP,zG,Nat.reduceEqDiff,Nat.reduceAdd,zI,uD];exact⟨rfl,_,by simp only[↓zP,zR,Nat.reduceEqDiff,Nat.reduceAdd];rfl,rfl⟩
  |some w=>
   obtain⟨rfl,hz⟩:=ha.some;obtain⟨rfl,hw⟩:=hb.some;have la:=iL (.aL z.natAbs);have lb:=iL (.aL w.natAbs);have hW:W=4294967296:=rfl;simp only[↓zP,zG,Nat.reduceLT,zI,An,Du];apply hK;clear hK K;unfold cI;generalize hA:z.natAbs=A at *;generalize hB:w.natAbs=B at *;refine aT fun K hK=>?_;simp only[↓zP,zG,Nat.reduceLT,aLy];apply hK;clear hK K;refine aT fun K hK=>?_;refine Dz ?_;simp only[↓zP,zG,Nat.reduceLT,Nat.reduceEqDiff,Nat.reduceAdd,zD,reduceCtorEq,zI,la];refine dM (sW A _) ?_;simp only[↓zP,zG,Nat.reduceLT,Nat.reduceEqDiff,Nat.reduceAdd,zD,reduceCtorEq,zI,lb];refine dM (sW B _) ?_;simp only[↓zP,zG,Nat.reduceLT,Nat.reduceEqDiff,Nat.reduceAdd,zD,reduceCtorEq,zI];apply hK;clear hK K;have hn:=XL A;have hm:=XL B;have hAl:=KH hz;have hBl:=KH hw;generalize hnn:sz A=n at *;generalize hmm:sz B=m at *;refine aT fun K hK=>?_;refine aT fun K2 dL=>?_;simp only[↓zP,zG,Nat.reduceLT,Nat.reduceEqDiff];apply dL;clear dL K2;refine cC [] (fun i _ H'=>∃o,LW 32 o/\tA o=A%W^i*B/\H'.get 0=some (.cells (.bool false::.bool (decide (z<0))::wC (aL 16 A)) false)/\H'.get 1=some (.cells (.bool false::.bool (decide (w<0))::wC (aL 16 B)) false)/\H'.get 2=some (.cells (.bool false::.bool false::wC zs) false)/\H'.get 3=some (.cells (wC o) false)) n A0 A1 ?_ ?_ ?_ ?_ ?_
   . simp only[zB]
   . exact ZaS
   . refine⟨List.replicate 32 0,⟨by simp,fun d hd=>by rw[Gy hd];decide⟩,by rw[Hl,Jc,Hk];decide,?_⟩;simp only[zG,Nat.reduceEqDiff,Nat.reduceAdd,zI]
   . rintro i f H hi hk e1 ⟨o,ho,hv,g0,g1,g2,g3⟩;have hD:=cU A i;refine aP ?_;refine aT fun K2 dL=>?_;simp only[↓zP,zG,Nat.reduceLT,e1];apply dL;clear dL K2;refine aT fun K2 dL=>?_;simp only[↓zP,zG,Nat.reduceLT];apply dL;clear dL K2;refine aT fun K2 dL=>?_;refine aT fun K3 BH=>?_;simp only[↓zP,zG,Nat.reduceLT,Nat.reduceEqDiff,hk 7 rfl];apply BH;clear BH K3
     have hP:A%W^i*B<W^(i+m):=by rw[Ez];exact Hb (Bz _ (dR i)) hBl
     refine cC [9] (fun k vs H'=>∃o c,vs=[.int .u64 (c:Nat)]/\c<W/\LW 32 o/\tA o+c*W^(i+k)=A%W^i*B+aJ A i*W^i*(B%W^k)/\(∀j,i+k<=j->o.getD j 0=aJ (A%W^i*B) j)/\H'.get 0=some (.cells (.bool false::.bool (decide (z<0))::wC (aL 16 A)) false)/\H'.get 1=some (.cells (.bool false::.bool (decide (w<0))::wC (aL 16 B)) false)/\H'.get 2=some (.cells (.bool false::.bool false::wC zs) false)/\H'.get 3=some (.cells (wC o) false)) m A0 A1 ?_ ?_ ?_ ?_ ?_
     . simp only[zB]
     . exact ZaS
     . refine⟨o,0,by simp only[sm,zB,Nat.reduceEqDiff];rfl,by omega,ho,by rw[hv];simp[Jc],fun j hj=>by rw[<-hv,ho.aJ],g0,g1,g2,g3⟩
     . rintro k f2 H2 hkm eW e2 ⟨o,c,qK,hc,ho,he,hj,g0,g1,g2,g3⟩;simp only[zM] at qK;have hB':=cU B k;have ZF:=ho.getD (i+k);have hmul:aJ A i*aJ B k<=4294967295*4294967295:=Ba A0 A0;have q1:IntKind.u64.wrap ((aJ A i:Nat):Int)=(aJ A i:Nat):=gR A0 (.inl rfl);have q2:IntKind.u64.wrap ((aJ B k:Nat):Int)=(aJ B k:Nat):=gR A0 (.inl rfl);have q3:IntKind.u64.wrap ((o.getD (i+k) 0:Nat):Int)=(o.getD (i+k) 0:Nat):=gR A0 (.inl rfl);have q4:IntKind.u64.wrap (((aJ A i:Nat):Int)*(aJ B k:Nat))=((aJ A i*aJ B k:Nat):Int):=gR A0 (.inl A2);have q5:IntKind.u64.wrap (((aJ A i*aJ B k:Nat):Int)+(o.getD (i+k) 0:Nat))=((aJ A i*aJ B k+o.getD (i+k) 0:Nat):Int):=gR A0 (.inl A0);have q6:IntKind.u64.wrap (((c:Nat):Int)+((aJ A i*aJ B k+o.getD (i+k) 0:Nat):Int))=((c+aJ A i*aJ B k+o.getD (i+k) 0:Nat):Int):=gR A0 (.inl A0);have q7:IntKind.i64.wrap ((i:Int)+(k:Int))=((i+k:Nat):Int):=wI A0;have hg:(wC o).getD (i+k) aB=.int .u32 (o.getD (i+k) 0:Nat):=mZ ZaE;have hs:=Pc ho (show i+k<32 by omega) he;refine aP ?_;refine aT fun K2 dL=>?_;simp only[↓zP,zG,Nat.reduceLT,e2];apply dL;clear dL K2;refine aT fun K2 dL=>?_;refine Dz ?_;simp only[↓zP,zG,Nat.reduceLT,Nat.reduceEqDiff,Nat.reduceAdd,zD,reduceCtorEq,zI,Nat.reduceLeDiff,qK,eW 8 rfl,eW 2 rfl,eW 3 rfl,eW 5 rfl,hk 2 rfl,hk 3 rfl,hk 5 rfl,aG,g0,g1,g3,show i<16 by omega,show k<16 by omega,show 2+i<=17 by omega,show 2+k<=17 by omega,la,lb,aMi,fN (show i<16 by omega),fN (show k<16 by omega),q1,q2,q3,q4,q5,q6,q7,show i+k<32 by omega,show i+k+1<=32 by omega,bW,ho.1,hg];apply dL;clear dL K2;simp only[↓zP,zG,Nat.reduceLT,Nat.reduceEqDiff,zI,Int.reduceLT,eW 8 rfl,eW 5 rfl,hk 5 rfl,q7,aG,g3,show i+k<32 by omega,show i+k+1<=32 by omega,bW,ho.1,AA,LQ];refine⟨o.set (i+k) _,_,rfl,?_,ho.set (i+k) (Bz _ oQ),hs,fun j ZC=>?_,g0,g1,g2,?_⟩
       . rw[Ch oQ,hW];omega
       . rw[Vt ZaE,if_neg A0];exact hj j A0
       exact Ao (fun l=>some (eY.cells l false)) (tD ZaE _)
     rintro f2 H2 eW ⟨o,c,qK,hc,ho,he,hj,g0,g1,g2,g3⟩;simp only[zM] at qK;have q7:IntKind.i64.wrap ((i:Int)+(m:Int))=((i+m:Nat):Int):=wI A0;simp only[↓zP];apply dL;clear dL K2;simp only[↓zP,zG,Nat.reduceLT,Nat.reduceEqDiff,zI,eW 8 rfl,eW 7 rfl,eW 5 rfl,hk 7 rfl,hk 5 rfl,q7,qK,aG,g3,show i+m<32 by omega,show i+m+1<=32 by omega,bW,ho.1,AA];rw[Bn hc];refine⟨o.set (i+m) c,ho.set _ hc,aJh ho A0 hBl rfl he (by rw[hj _ (Ag _)];exact DI hP),g0,g1,g2,?_⟩;exact Ao (fun l=>some (eY.cells l false)) (tD ZaE _)
   rintro f H hk ⟨o,ho,hv,g0,g1,g2,g3⟩;simp only[↓zP];apply hK;clear hK K;rw[Bn hAl] at hv;have hoe:=ho.eq;rw[hv] at hoe;have l1:(wC o).length=32:=by rw[bW,ho.1]
   have l2:((wC o).drop 16).take 16=wC (o.drop 16):=by rw[Bb (by simp[l1])];simp[wC]
   have wU:(z*w).natAbs=A*B:=(by rw[Ex,hA,hB]);have hX:A*B<W^32:=(by rw[<-hv];exact ho.lt);have l3:(wC o).take 16=wC (aL 16 (A*B)):=(by rw[hoe,<-PQ (by omega:16<=32)];simp[wC]);have l4:(A*B<W^16)↔o.drop 16=zs:=(by rw[hoe];exact ZR hX);have d16:(o.drop 16).length=16:=(by simp[ho.1]);simp only[↓zP,zG,Nat.reduceLT,Nat.reduceEqDiff,Nat.reduceAdd,zI,Nat.reduceLeDiff,Nat.reduceSub,hk 5 rfl,g3,l1,l2,dV,show asNat (.int .i64 16)=some 16 from rfl,Br,iT,Eb,Bl,LL (b:=zs) d16 rfl];refine⟨fun h=>?_,fun h=>?_⟩
   . have dT:=l4.2 h;have hr:norm (z*w)=some (z*w):=(by unfold norm;rw[wU,if_pos dT]);refine Dz ?_;simp only[↓zP,zG,Nat.reduceLT,Nat.reduceEqDiff,Nat.reduceAdd,zD,reduceCtorEq,zI,Nat.reduceLeDiff,hk 5 rfl,hk 2 rfl,hk 3 rfl,g0,g1,g3,l1,l3,la,lb,dV,show asNat (.int .i64 16)=some 16 from rfl,Br,An,iT,Eb,Bl]
     have e:z*w=sg (!(decide (z<0)==decide (w<0))) (A*B):=by
      have ez:z=if z<0 then -(A:Int) else A:=by split<;>omega
      have ew:w=if w<0 then -(B:Int) else B:=ZaC;by_cases h1:z<0<;>by_cases h2:w<0<;>simp only[h1,h2,if_true,Ca] at ez ew<;>simp[h1,h2,sg]<;>(conv=>lhs;rw[ez,ew])<;>simp only[Hh,Jf,Int.neg_neg]
     refine dM (iH dT e _) ?_;simp only[↓zP,zG,Nat.reduceEqDiff,Nat.reduceAdd,zD,reduceCtorEq,zI,hk 4 rfl,g2];refine⟨rfl,_,by simp only[↓zP,zR,Nat.reduceEqDiff,hk 4 rfl];rfl,?_⟩;rw[lO,hr];rfl
   refine bO (qB _) ?_;simp only[↓zP,zG,Nat.reduceEqDiff,Nat.reduceAdd,zI,uD,hk 4 rfl,g2];refine⟨rfl,_,by simp only[↓zP,zR,Nat.reduceEqDiff,Nat.reduceAdd,hk 4 rfl];rfl,?_⟩;have hr:norm (z*w)=none:=(by unfold norm;rw[wU,if_neg (fun hh=>h (l4.1 hh))]);rw[lO,hr];rfl
theorem bLf{x n:Nat}(hx:x<W)(hn:n<32):IntKind.u64.wrap ((x:Int)*2^min (Int.toNat (n:Int)) IntKind.u64.bits)=((x*2^n:Nat):Int):=by have h2:x*2^n<2^32*2^32:=Hb hx (Nat.pow_lt_pow_right A1 hn);rw[Int.toNat_natCast,show min n IntKind.u64.bits=n from Ji (by show n<=64;omega)];exact gR (Bj h2 A1) (.inl A2)
theorem orW{c x n:Nat}(hc:c<2^n)(hx:x<W)(hn:n<32):tN .or .u64 ((c:Nat):Int) ((x*2^n:Nat):Int)=some (.int .u64 ((c+x*2^n:Nat):Int)):=by
 have h2:c+x*2^n<2^64:=by
  have h3:(x+1)*2^n<=2^32*2^32:=Ba hx (Ck A1 A0);rw[Bi,Eu] at h3;have :(2^32*2^32:Nat)=2^64:=by decide
  omega
 have e2:(c|||x*2^n)=c+x*2^n:=by have :=Nat.two_pow_add_eq_or_of_lt (i:=n) hc x;rw[Bx] at this;rw[Nat.or_comm,<-this,Hq]
 have e3:∀n:Nat,BitVec.ofInt 64 (n:Int)=BitVec.ofNat 64 n:=fun n=>by simp
 simp only[tN];congr 2;rw[show IntKind.u64.bits=64 from rfl,e3,e3,<-BitVec.ofNat_or,e2,Jy,Bn h2];exact gR h2 (.inl rfl)
theorem aYh(u n:Nat)(hn:n<32):(u:Int).fdiv (2^min (Int.toNat (n:Int)) IntKind.u64.bits)=((u / 2^n:Nat):Int):=aAu u n .u64 (by show n<=64;omega)
theorem aTh(u:Nat):(u:Int).fdiv (2^min 32 IntKind.u64.bits)=((u / W:Nat):Int):=LQ u
theorem aOf{w n:Nat}(hw:w<W^16)(hn:n<32)(H:aA):
 Sg 254 [.agg (wC (aL 16 w)),.int .i64 n] H (.ret (.jZ [.agg (wC (aL 16 (w*2^n))),.int .u32 ((w*2^n / W^16:Nat):Int)])) H:=by
 refine So bCx Zac ?_ H;unfold aRr;dsimp only;have la:=iL (.aL w);have Qk:¬((n:Int)<0):=by omega
 have AD:(2^n:Nat)<W:=Nat.pow_lt_pow_right A1 hn;have hcW:∀i,jx w n i<W:=fun i=>Cm (aFi w n i) AD;refine Ty ?_;refine fC [7] (fun i vs H'=>vs=[.int .u64 (jx w n i:Nat)]/\H'.get 0=some (.cells (wC (aL 16 w)) false)/\H'.get 1=some (.cells (wC zs) false)/\H'.get 2=some (.cells (wC (RO i (aL 16 (w*2^n)))) false)) 16 A1 rfl A1 ?_ ?_ ?_ ?_
 . exact zq
 . refine⟨by simp only[sm,zB,seval,aFk,Int.cast_ofNat_Int],?_⟩;rw[yU];simp only[zJ,seval]
 . rintro i f H hi hk e1 ⟨hv,g0,g1,g2⟩;simp only[zM] at hv;have c2:=cU w i;have hW:W=4294967296:=rfl;have w1:IntKind.u64.wrap ((aJ w i:Nat):Int)=(aJ w i:Nat):=gR A0 (.inl rfl);have w2:=bLf c2 hn;have w3:=orW (aFi w n i) c2 hn;have f1:f 1=.int .i64 (n:Nat):=by rw[hk 1 rfl];simp only[↓zP,zG,seval]
   refine aP ?_;simp only[↓zP,zJ,seval,e1,hv,hk 2 rfl,hk 6 rfl,f1,aG,g0,g2,hi,show i+1<=16 by omega,la,fN hi,w1,w2,w3,Qk,AA,aTh,sT,aFj];exact⟨trivial,trivial,g1,by rw[yT hi (by rw[aJd])]⟩
 rintro f H hk ⟨hv,g0,g1,g2⟩;simp only[zM] at hv;have e5:jx w n 16=w*2^n / W^16:=aLp hw;have e6:=hcW 16;rw[e5] at hv e6;simp only[↓zP,zJ,seval,hv,hk 6 rfl,hk 4 rfl,g1,g2,DK,(iL (.aL (w*2^n))),AA,Bn e6];refine⟨rfl,_,by simp only[↓zP,zR,seval,hk 4 rfl,iL (.aL (w*2^n))];rfl,?_⟩;rfl
theorem aHw{w n:Nat}(hw:w<W^16)(hn:n<32)(H:aA):
 Sg 258 [.agg (wC (aL 16 w)),.int .i64 n] H (.ret (.agg (wC (aL 16 (w / 2^n))))) H:=by
 refine So bDb Zac ?_ H;unfold aRv;dsimp only;have la:=iL (.aL w);have Qk:¬((n:Int)<0):=by omega
 refine Ty ?_;refine fC [] (fun i vs H'=>H'.get 0=some (.cells (wC (aL 16 w)) false)/\H'.get 1=some (.cells (wC zs) false)/\H'.get 2=some (.cells (wC (RO i (aL 16 (w / 2^n)))) false)) 16 A1 rfl A1 ?_ ?_ ?_ ?_
 . exact zq
 . rw[yU];simp only[zJ,seval]
 . rintro i f H hi hk e1 ⟨g0,g1,g2⟩;have c2:=cU w i;have c3:=cU w (i+1);have hW:W=4294967296:=rfl;have w1:IntKind.u64.wrap ((aJ w i:Nat):Int)=(aJ w i:Nat):=gR A0 (.inl rfl);have w2:IntKind.u64.wrap ((aJ w (i+1):Nat):Int)=(aJ w (i+1):Nat):=gR A0 (.inl rfl);have w3:IntKind.i64.wrap ((i:Int)+1)=((i+1:Nat):Int):=by rw[wrap_i64 A0 A0];rfl
   have f1:f 1=.int .i64 (n:Nat):=(by rw[hk 1 rfl];simp only[↓zP,zG,seval]);have ho:tN .or .u64 (IntKind.u64.wrap (((aJ w (i+1):Nat):Int)*2^min 32 IntKind.u64.bits)) ((aJ w i:Nat):Int)=some (.int .u64 ((aJ w (i+1)*W+aJ w i:Nat):Int)):=Zh c3 c2;have hd:=aYh (aJ w (i+1)*W+aJ w i) n hn;have hl:=pt w n i A0;refine aP ?_;refine bX ?_;simp only[↓zP,zG,seval,e1];refine gG ?_;refine Tz ?_;refine bY ?_;refine aT fun K2 dL=>?_
   have key:∀(f:cW) (y:Nat),y=aJ w (i+1)->f 1=.int .i64 (n:Nat)->f 2=.ref 0 0->f 5=.ref 2 0->f 6=.int .i64 (i:Nat)->f 7=.int .u64 (y:Nat)->K2 f [] H:=by rintro f y rfl f1 f2 f5 f6 f7;apply dL;clear dL K2;simp only[↓zP,zJ,seval,f1,f2,f5,f6,f7,aG,g0,g2,hi,show i+1<=16 by omega,la,fN hi,w1,ho,Qk,hd,AA,sT,<-hl];exact⟨trivial,g1,by rw[yT hi rfl]⟩
   have f2:f 2=.ref 0 0:=(by rw[hk 2 rfl];simp only[↓zP,zG,seval]);have f5:f 5=.ref 2 0:=(by rw[hk 5 rfl];simp only[↓zP,zG,seval]);by_cases h15:i=15
   . have aTr:decide (((i+1:Nat):Int)<16)=false:=Ad A0;have l0:aJ w (i+1)=0:=xG hw A0;simp only[↓zP,zG,seval,w3,aTr];refine key _ 0 l0.symm ?_ ?_ ?_ ?_ ?_<;>simp only[zB,seval,f1,f2,f5,Int.cast_ofNat_Int]
   have aTr:decide (((i+1:Nat):Int)<16)=true:=Aj A0;simp only[↓zP,zJ,seval,w3,aTr,f2,g0,aG,show i+1<16 by omega,show i+1+1<=16 by omega,la,fN (show i+1<16 by omega),w2];refine key _ _ rfl ?_ ?_ ?_ ?_ ?_<;>simp only[zB,seval,f1,f2,f5]
 rintro f H hk ⟨g0,g1,g2⟩;simp only[↓zP,zJ,seval,hk 5 rfl,hk 4 rfl,g1,g2,DK,(iL (.aL (w / 2^n)))];refine⟨rfl,_,by simp only[↓zP,zR,seval,hk 4 rfl,iL (.aL (w / 2^n))];rfl,?_⟩;rfl
theorem aXs{a:Nat}(ha:a<W)(H:aA):Sg 253 [.int .u32 a] H (.ret (.int .i64 ((32 -dG a:Nat):Int))) H:=by
 refine So bCw Zac ?_ H;unfold aRq;dsimp only;have hb:dG a<=32:=iR.2 ha;have w:IntKind.i64.wrap (32 -((dG a:Nat):Int))=((32 -dG a:Nat):Int):=wI A0;refine Ty ?_;refine bO (VK ha _) ?_;simp only[↓zP,zG,seval,w]
 (refine Rx ?_;rfl)
def NI(H H':aA)(p:Nat):Prop:=H.next<=H'.next/\∀j,j<H.next->j≠p->H'.get j=H.get j
theorem l17{a i:Nat}(h:i<17):(wC (aL 17 a)).getD i aB=.int .u32 (aJ a i):=by rw[mZ (by rw[bP];exact h),jD h]
theorem aWf(a:Nat):(wC (aL 17 a)).length=17:=by rw[bW,bP]
def gsU(u v n j:Nat):Nat:=gsD (aJ u (j+n)) (aJ u (j+n -1)) (aJ u (j+n -2)) (aJ v (n -1)) (aJ v (n -2))
theorem aBe{u v n j p:Nat}{H:aA}(hg:H.get p=some (.cells (wC (aL 17 u)) false))(hp:p<H.next)(JA:2<=n)(hn:n<=16)(hj:j+n<=16)(ht:aJ u (j+n)<=aJ v (n -1))(yL:0<aJ v (n -1)):
 ∃o H',(o=.ret (.int .u64 (gsU u v n j:Nat))/\H.next<=H'.next/\∀k,k<H.next->H'.get k=H.get k)/\Sg 255 [.ref p 0,.agg (wC (aL 16 v)),.int .i64 n,.int .i64 j] H o H':=by
 refine eH fit bCy (Al rfl) ?_;unfold aRs;dsimp only;have la:=iL (.aL v);have lu:=aWf u;have hW:W=4294967296:=rfl;have p1:p≠H.next:=by omega
 have w1:IntKind.i64.wrap ((j:Int)+(n:Int))=((j+n:Nat):Int):=wI A0;have w2:IntKind.i64.wrap (((j+n:Nat):Int) -1)=((j+n -1:Nat):Int):=wI A0;have w3:IntKind.i64.wrap (((j+n:Nat):Int) -2)=((j+n -2:Nat):Int):=wI A0;have w4:IntKind.i64.wrap ((n:Int) -1)=((n -1:Nat):Int):=wI A0;have w5:IntKind.i64.wrap ((n:Int) -2)=((n -2:Nat):Int):=wI A0;have ll:∀a k,IntKind.u64.wrap ((aJ a k:Nat):Int)=(aJ a k:Nat):=fun a k=>gR (Cm (cU a k) A1) (.inl rfl);have t2l:=cU u (j+n);have t1l:=cU u (j+n -1);have t0l:=cU u (j+n -2);have v1l:=cU v (n -1);have v2l:=cU v (n -2);have ho:tN .or .u64 (IntKind.u64.wrap (((aJ u (j+n):Nat):Int)*2^min 32 IntKind.u64.bits)) ((aJ u (j+n -1):Nat):Int)=some (.int .u64 ((aJ u (j+n)*W+aJ u (j+n -1):Nat):Int)):=Zh t2l t1l;have d0:=aBc (t2:=aJ u (j+n)) (t1:=aJ u (j+n -1)) (v2:=aJ v (n -2)) yL t0l;have hgs:gsU u v n j=gsD (aJ u (j+n)) (aJ u (j+n -1)) (aJ u (j+n -2)) (aJ v (n -1)) (aJ v (n -2)):=rfl;have gu:∀i,i<17->(wC (aL 17 u)).getD i aB=.int .u32 (aJ u i):=fun i h=>l17 h;have gw:∀i,i<16->(wC (aL 16 v)).getD i aB=.int .u32 (aJ v i):=fun i h=>fN h;refine bX ?_;refine Ty ?_;refine bY ?_;generalize hX:H.alloc _=HA;have g0:HA.get p=some (.cells (wC (aL 17 u)) false):=by subst hX;simp only[zI,seval,p1];exact hg
 have g1:HA.get H.next=some (.cells (wC (aL 16 v)) false):=by subst hX;simp only[zI,seval]
 have hN:H.next<=HA.next/\∀k,k<H.next->HA.get k=H.get k:=by subst hX;exact⟨by simp only[zI,seval];omega,fun k hk=>by simp only[zI,seval,show k≠H.next by omega]⟩
 clear hX;refine bX ?_;refine Dz ?_;simp only[↓zP,zJ,seval,zD,w1,w2,g0,aG,lu,show j+n<17 by omega,show j+n+1<=17 by omega,show j+n -1<17 by omega,show j+n -1+1<=17 by omega,gu _ (show j+n<17 by omega),gu _ (show j+n -1<17 by omega),ll,ho];refine bY ?_;generalize hT:aJ u (j+n)*W+aJ u (j+n -1)=top at *;have htl:top<2^64:=by rw[<-hT,hW];omega
 refine bX ?_;simp only[↓zP,zJ,seval,w4,g1,aG,la,show n -1<16 by omega,show n -1+1<=16 by omega,gw _ (show n -1<16 by omega),ll];refine gG ?_;refine Dz ?_;have bJh:¬((aJ v (n -1):Nat):Int)=0:=by omega
 have e1:(((top:Nat):Int)).tdiv ((aJ v (n -1):Nat):Int)=((top / aJ v (n -1):Nat):Int):=rfl;have e2:(((top:Nat):Int)).tmod ((aJ v (n -1):Nat):Int)=((top%aJ v (n -1):Nat):Int):=rfl;have dl:top / aJ v (n -1)<=top:=Gn _ _;have rl:top%aJ v (n -1)<aJ v (n -1):=Bz _ yL;have e3:IntKind.u64.wrap ((top / aJ v (n -1):Nat):Int)=((top / aJ v (n -1):Nat):Int):=gR A0 (.inl rfl);have e4:IntKind.u64.wrap ((top%aJ v (n -1):Nat):Int)=((top%aJ v (n -1):Nat):Int):=gR A0 (.inl rfl);simp only[↓zP,zJ,seval,zD,bJh,e1,e2,e3];refine bY ?_;refine cY fun f hf=>?_;have f0:f 0=.ref p 0:=by subst hf;simp only[↓zP,zG,seval]
 have f2:f 2=.int .i64 (n:Nat):=by subst hf;simp only[↓zP,zG,seval]
 have f3:f 3=.int .i64 (j:Nat):=by subst hf;simp only[↓zP,zG,seval]
 have f5:f 5=.ref H.next 0:=by subst hf;simp only[zB,seval]
 have f10:f 10=.int .u64 (aJ v (n -1):Nat):=by subst hf;simp only[zB,seval]
 have f11:f 11=.int .u64 (top / aJ v (n -1):Nat):=by subst hf;simp only[zB,seval]
 have f12:f 12=.int .u64 (top%aJ v (n -1):Nat):=by subst hf;simp only[zB,seval]
 clear hf;refine aT fun K hK=>?_;refine aP (iA [11,12] (fun m vs H'=>H'=HA/\∃d r:Nat,vs=[.int .u64 (d:Nat),.int .u64 (r:Nat)]/\m=d/\d*aJ v (n -1)+r=top/\gsU u v n j<=d/\d<2^64/\r<2^33) (top / aJ v (n -1)) (by rfl) ?_ ?_)
 . refine⟨rfl,_,top%aJ v (n -1),by simp only[sm,f11,f12],rfl,by rw[Bx];exact Eh _ _,by rw[hgs];exact d0,by omega,by omega⟩
 rintro d f' H1 hk ⟨rfl,_,r,hv,rfl,he,KM,Yy,Tq⟩;simp only[zM] at hv;obtain⟨h11,h12⟩:=hv;have k0:f' 0=.ref p 0:=by rw[hk 0 rfl];exact f0
 have k2:f' 2=.int .i64 (n:Nat):=by rw[hk 2 rfl];exact f2
 have k3:f' 3=.int .i64 (j:Nat):=by rw[hk 3 rfl];exact f3
 have k5:f' 5=.ref H.next 0:=by rw[hk 5 rfl];exact f5
 have k10:f' 10=.int .u64 (aJ v (n -1):Nat):=by rw[hk 10 rfl];exact f10
 clear f0 f2 f3 f5 f10 f11 f12;refine aT fun K2 dL=>?_
 have more:∀DC:cW,gsU u v n j<d->r<2^32->DC 10=.int .u64 (aJ v (n -1):Nat)->DC 11=.int .u64 (d:Nat)->DC 12=.int .u64 (r:Nat)->K2 DC [] H1:=by intro DC dT ZG q10 q11 q12;apply dL;clear dL K2 hK;have s1:IntKind.u64.wrap ((d:Int) -1)=((d -1:Nat):Int):=gR A0 (.inl A0);have s2:IntKind.u64.wrap ((r:Int)+((aJ v (n -1):Nat):Int))=((r+aJ v (n -1):Nat):Int):=gR A0 (.inl A0);refine aP ?_;simp only[↓zP,zJ,seval,q10,q11,q12,s1,s2];refine⟨d -1,by omega,trivial,d -1,r+aJ v (n -1),rfl,rfl,?_,by omega,by omega,by omega⟩;rw[<-he,Nat.sub_mul,Eu];have :aJ v (n -1)<=d*aJ v (n -1):=Hn _ A0;omega
 have stop:∀DC:cW,d=gsU u v n j->DC 11=.int .u64 (d:Nat)->K DC [] H1:=by intro DC hd q11;apply hK;clear hK dL more K K2;simp only[↓zP,zG,seval,q11];refine Rx ?_;exact⟨by rw[hd];rfl,hN⟩
 clear hK dL;have gun:∀b A B,fD aB b A B=B:=fun _ _ _=>rfl;refine aT fun K3 BH=>?_;refine Dz ?_;by_cases c1:r<W
 . have b1:decide ((r:Int)<4294967296)=true:=Aj A0;by_cases c2:W<=d
   . have b2:decide ((d:Int)≥4294967296)=true:=Aj A0;simp only[↓zP,zJ,seval,zD,h11,h12,b1,b2];apply BH;clear BH K3;refine Tz ?_;refine more _ (ee yL (he.trans hT.symm) (.inl c2)) A0 ?_ ?_ ?_<;>simp only[zB,seval,h11,h12,k10]
   have b2:decide ((d:Int)≥4294967296)=false:=Ad A0;have m1:d*aJ v (n -2)<=4294967295*4294967295:=Ba A0 A0;have s1:IntKind.u64.wrap ((d:Int)*((aJ v (n -2):Nat):Int))=((d*aJ v (n -2):Nat):Int):=gR A0 (.inl A2);have ho2:tN .or .u64 (IntKind.u64.wrap (((r:Nat):Int)*2^min 32 IntKind.u64.bits)) ((aJ u (j+n -2):Nat):Int)=some (.int .u64 ((r*W+aJ u (j+n -2):Nat):Int)):=Zh c1 t0l;simp only[↓zP,zJ,seval,zD,h11,h12,b1,b2,k0,k2,k3,k5,w1,w3,w5,g0,g1,aG,lu,la,show n -2<16 by omega,show n -2+1<=16 by omega,show j+n -2<17 by omega,show j+n -2+1<=17 by omega,gu _ (show j+n -2<17 by omega),gw _ (show n -2<16 by omega),ll,s1,ho2];apply BH;clear BH K3;by_cases c3:r*W+aJ u (j+n -2)<d*aJ v (n -2)
   . have b3:decide (((d*aJ v (n -2):Nat):Int)>((r*W+aJ u (j+n -2):Nat):Int))=true:=Aj (Int.ofNat_lt.2 c3);simp only[↓zP,zG,seval,b3];refine more _ (ee yL (he.trans hT.symm) (.inr c3)) A0 ?_ ?_ ?_<;>simp only[zB,seval,h11,h12,k10]
   have b3:decide (((d*aJ v (n -2):Nat):Int)>((r*W+aJ u (j+n -2):Nat):Int))=false:=Ad (fun h=>c3 (Int.ofNat_lt.1 h));simp only[↓zP,zG,seval,b3];refine stop _ (aBb yL t1l v2l ht (he.trans hT.symm) KM (.inr ⟨by omega,by omega⟩)) ?_;simp only[zB,seval,h11]
 have b1:decide ((r:Int)<4294967296)=false:=Ad A0;simp only[↓zP,zJ,seval,zD,h12,b1,gun];apply BH;clear BH K3;refine Tz ?_;refine stop _ (aBb yL t1l v2l ht (he.trans hT.symm) KM (.inl A0)) ?_;simp only[zB,seval,h11]
end Go.Proofs.YtogfcjbgeebfkaaGreatDoor
