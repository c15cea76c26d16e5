/-
  Part of the proof of statement 10
-/
import Derived.Test.YtndkpgceodimiaaGreatDoorA13
import Derived.Test.YtndkpgceodimiaaGreatDoorA14
import Derived.Test.YtndkpgceodimiaaGreatDoorA11
set_option linter.unusedVariables false
set_option maxRecDepth 100000
set_option maxHeartbeats 16000000
namespace Go.Proofs.YtndkpgceodimiaaGreatDoor
open Go Go.Av Go.sK
attribute [local congr] aV aO aP aL aX aR aQ aH aY
attribute [local irreducible] FC bY eX
theorem OL (a:Nat) (H:aA):Sg 236 [.int .u32 a] H (.ret (.bool false)) H:=by
 refine So aYl (by simp only[sf]) ?_ H;unfold aNv;dsimp only;simp only[↓zP,zJ,Nat.reduceLT,Nat.reduceEqDiff,Ib]
 (refine Rx ?_;rfl)
theorem SK (a b:Nat) (H:aA):Sg 178 [.int .u32 a,.int .u32 b] H (.ret (.int .i64 (KT a b))) H:=by
 refine So aWy (by simp only[sf]) ?_ H;unfold aMj;dsimp only;simp only[↓zP,zJ,Nat.reduceLT,Nat.reduceEqDiff];refine bW (OL a _) ?_;simp only[↓zP,zJ,Nat.reduceLT,Nat.reduceEqDiff];refine bW (OL b _) ?_;simp only[↓zP,zJ,Nat.reduceLT,Nat.reduceEqDiff];refine⟨fun h=>?_,fun h=>⟨fun h2=>?_,fun h2=>?_⟩⟩<;>refine Rx ?_<;>unfold KT
 · rw[if_pos (by omega)];rfl
 · rw[if_neg (by omega),if_pos (by omega)];rfl
 rw[if_neg (by omega),if_neg (by omega)];rfl
theorem Oj {a b:Nat} (ha:a<W^16) (hb:b<W^16) (H:aA):Sg 120 [.agg (wC (bC 16 a)),.agg (wC (bC 16 b))] H (.ret (.int .i64 (KT a b))) H:=by
 refine So aVj (by simp only[sf]) ?_ H;unfold aKx;dsimp only;have la:=iL (.bC a);have lb:=iL (.bC b);simp only[↓zP,zJ,Nat.reduceLT,Nat.reduceEqDiff];refine aF (iG [5] (fun m vs H'=>vs=[.int .i64 ((m:Int) -1)]/\m<=16/\a / W^m=b / W^m/\H'.get 0=some (.cells (wC (bC 16 a)) false)/\H'.get 1=some (.cells (wC (bC 16 b)) false)) 16 (by rfl) ?_ ?_)
 · refine⟨by simp only[sm,zB];rfl,by omega,by rw[Ei ha,Ei hb],by simp only[zI,Nat.reduceEqDiff],by simp only[zI,Nat.reduceEqDiff]⟩
 rintro m f H hk ⟨hv,hm,hd,g0,g1⟩;simp only[zM] at hv;simp only[↓zP,zJ,Nat.reduceLT,hv];refine⟨fun h=>?_,fun h=>?_⟩
 · obtain⟨m,rfl⟩:∃k,m=k+1:=⟨m -1,by omega⟩;have e:((m+1:Nat):Int) -1=(m:Nat):=by omega
   refine aF ?_;simp only[↓zP,e];refine Dz ?_;simp only[↓zP,zJ,Nat.reduceLT,Nat.reduceEqDiff,Nat.reduceAdd,zD,reduceCtorEq,hv,e,hk 2 rfl,hk 3 rfl,aB,g0,g1,show m<16 by omega,show m+1<=16 by omega,la,lb,lI (show m<16 by omega)];by_cases cK:bF a m=bF b m
   · simp only[zG,cK,Ib];have w:IntKind.i64.wrap ((m:Int) -1)=(m:Int) -1:=wrap_i64 (by omega) (by omega);exact⟨m,by omega,by rw[w],by omega,Qq hd cK⟩
   have hb:(((bF a m:Nat):Int) != ((bF b m:Nat):Int))=true:=(by simp;omega);simp only[zG,hb];refine Dz ?_;simp only[↓zP,zJ,Nat.reduceLT,Nat.reduceEqDiff,Nat.reduceAdd,zD,reduceCtorEq,hv,e,hk 2 rfl,hk 3 rfl,aB,g0,g1,show m<16 by omega,show m+1<=16 by omega,la,lb,lI (show m<16 by omega)];refine eE (SK (bF a m) (bF b m) _) ?_;simp only[↓zP,zJ,Nat.reduceLT,Nat.reduceEqDiff,Nat.reduceAdd,zD,reduceCtorEq];refine Rx ?_;rw[aDx hd cK];rfl
 obtain rfl:m=0:=by omega
 simp only[Nat.pow_zero,Nat.div_one] at hd;refine Rx ?_;simp[hd,KT,mY]
theorem aGt {a b:Nat} (ha:a<W^16) (hb:b<W^16) (H:aA):Sg 195 [.agg (wC (bC 16 a)),.agg (wC (bC 16 b))] H (.ret (.jR [.agg (wC (bC 16 (a+b))),.bool (decide (a+b<W^16))])) H:=by
 refine So aXm (by simp only[sf]) ?_ H;unfold aMw;dsimp only;have la:=iL (.bC a);have lb:=iL (.bC b);simp only[↓zP,zJ,Nat.reduceLT,Nat.reduceEqDiff,Nat.reduceAdd];refine fJ [7] (fun i vs H'=>vs=[.int .u64 (cr a b i:Nat)]/\H'.get 0=some (.cells (wC (bC 16 a)) false)/\H'.get 1=some (.cells (wC (bC 16 b)) false)/\H'.get 2=some (.cells (wC zs) false)/\H'.get 3=some (.cells (wC (TX i (bC 16 (a+b)))) false)) 16 (by decide) rfl (by decide) ?_ ?_ ?_ ?_
 · simp only[zB]
 · refine⟨by simp only[sm,zB,Nat.reduceEqDiff,aEb];rfl,?_⟩;rw[Ot];simp only[zJ,Nat.reduceEqDiff,Nat.reduceAdd]
 · rintro i f H hi hk e1 ⟨hv,g0,g1,g2,g3⟩;simp only[zM] at hv;have c1:=aIg a b i;have c2:=jQ a i;have c3:=jQ b i;have hW:W=4294967296:=rfl;have w1:IntKind.u64.wrap ((bF a i:Nat):Int)=(bF a i:Nat):=sE (by omega) (.inl rfl);have w2:IntKind.u64.wrap ((bF b i:Nat):Int)=(bF b i:Nat):=sE (by omega) (.inl rfl);have w3:IntKind.u64.wrap (((bF a i:Nat):Int)+(bF b i:Nat))=((bF a i+bF b i:Nat):Int):=sE (by omega) (.inl (by omega));have w4:IntKind.u64.wrap (((cr a b i:Nat):Int)+((bF a i+bF b i:Nat):Int))=((cr a b i+bF a i+bF b i:Nat):Int):=sE (by omega) (.inl (by omega));refine aF ?_;simp only[↓zP,zG,Nat.reduceLT,Nat.reduceEqDiff,e1];refine Dz ?_;simp only[↓zP,zJ,Nat.reduceLT,Nat.reduceEqDiff,Nat.reduceAdd,zD,reduceCtorEq,Int.reduceLT,hv,hk 2 rfl,hk 3 rfl,hk 6 rfl,aB,g0,g1,g3,hi,show i+1<=16 by omega,la,lb,lI hi,w1,w2,w3,w4,ZL,Nh,JH,<-aEa];exact⟨g2,by rw[Oq hi (by rw[yz])]⟩
 rintro f H hk ⟨hv,g0,g1,g2,g3⟩;simp only[zM] at hv;simp only[↓zP,zJ,Nat.reduceEqDiff,hv,hk 6 rfl,hk 4 rfl,g2,g3,Rh,(iL (.bC (a+b)))]
 have hc:(((cr a b 16:Nat):Int)==0)=decide (a+b<W^16):=by rw[aPz ha hb];split<;>rename_i hl<;>simp[hl]
 refine⟨rfl,_,by simp only[↓zP,zR,Nat.reduceEqDiff,hk 4 rfl,iL (.bC (a+b))];rfl,?_⟩;rw[hc];rfl
theorem aQf (u:Nat):(u:Int).fdiv (2^min (Int.toNat 63) IntKind.u64.bits)=((u / 2^63:Nat):Int):=by show(u:Int).fdiv (2^63)=_;rw[Jg _ (by decide)];rfl
theorem Vf {a b:Nat} (ha:a<W^16) (hb:b<=a) (H:aA):Sg 196 [.agg (wC (bC 16 a)),.agg (wC (bC 16 b))] H (.ret (.agg (wC (bC 16 (a -b))))) H:=by
 refine So aXn (by simp only[sf]) ?_ H;unfold aMx;dsimp only;have la:=iL (.bC a);have lb:=iL (.bC b);simp only[↓zP,zJ,Nat.reduceLT,Nat.reduceEqDiff,Nat.reduceAdd];refine fJ [6] (fun i vs H'=>vs=[.int .u64 (bw a b i:Nat)]/\H'.get 0=some (.cells (wC (bC 16 a)) false)/\H'.get 1=some (.cells (wC (bC 16 b)) false)/\H'.get 2=some (.cells (wC zs) false)/\H'.get 3=some (.cells (wC (TX i (bC 16 (a -b)))) false)) 16 (by decide) rfl (by decide) ?_ ?_ ?_ ?_
 · simp only[zB]
 · refine⟨by simp only[sm,zB,Nat.reduceEqDiff,aDq];rfl,?_⟩;rw[Ot];simp only[zJ,Nat.reduceEqDiff,Nat.reduceAdd]
 · rintro i f H hi hk e1 ⟨hv,g0,g1,g2,g3⟩;simp only[zM] at hv;have c1:bw a b i<=1:=by unfold bw;split<;>omega
   have c2:=jQ a i;have c3:=jQ b i;have c4:=za hb i;have c5:=aDp a b i;have hW:W=4294967296:=rfl;have w1:IntKind.u64.wrap ((bF a i:Nat):Int)=(bF a i:Nat):=sE (by omega) (.inl rfl);have w2:IntKind.u64.wrap ((bF b i:Nat):Int)=(bF b i:Nat):=sE (by omega) (.inl rfl);obtain⟨D,hD⟩:∃D:Nat,(D:Int)=(((bF a i:Nat):Int) -(bF b i:Nat) -(bw a b i:Nat))%2^64:=⟨((((bF a i:Nat):Int) -(bF b i:Nat) -(bw a b i:Nat))%2^64).toNat,Kf (by omega)⟩
   have w3:IntKind.u64.wrap (IntKind.u64.wrap (((bF a i:Nat):Int) -(bF b i:Nat)) -((bw a b i:Nat):Int))=(D:Int):=by simp only[IntKind.wrap,IntKind.bits,IntKind.signed,hD];simp
   have w4:D / 2^63=bw a b (i+1):=(by rw[c5];split<;>omega);refine aF ?_;simp only[↓zP,zG,Nat.reduceLT,Nat.reduceEqDiff,e1];refine Dz ?_;simp only[↓zP,zJ,Nat.reduceLT,Nat.reduceEqDiff,Nat.reduceAdd,zD,reduceCtorEq,Int.reduceLT,hv,hk 2 rfl,hk 3 rfl,hk 5 rfl,aB,g0,g1,g3,hi,show i+1<=16 by omega,la,lb,lI hi,w1,w2,w3,ZL,aQf,JH,w4];exact⟨g2,by rw[Oq hi (by rw[c4,hW];omega)]⟩
 rintro f H hk ⟨hv,g0,g1,g2,g3⟩;simp only[zM] at hv;simp only[↓zP,zJ,Nat.reduceEqDiff,hk 5 rfl,hk 4 rfl,g2,g3,Rh,(iL (.bC (a -b)))];exact⟨rfl,_,by simp only[↓zP,zR,Nat.reduceEqDiff,hk 4 rfl,iL (.bC (a -b))];rfl,rfl⟩
theorem tR {a:List AV} {x:Option Int} (ha:iU a x) (H:aA):Sg 119 [.aU 1 18 [a]] H (.ret (.bool x.isSome)) H:=by obtain⟨r,rfl,-,hr⟩:=ha.raw;have :=Zo [r] (by simp) H;simpa [hr] using this
theorem AL {a b:List AV} {x y:Option Int} (ha:iU a x) (hb:iU b y) (H:aA):Sg 119 [.aU 1 18 [a,b]] H (.ret (.bool (x.isSome&&y.isSome))) H:=by obtain⟨r,rfl,-,hr⟩:=ha.raw;obtain⟨q,rfl,-,hq⟩:=hb.raw;have :=Zo [r,q] (by simp) H;simpa [hr,hq] using this
theorem oF {n:Bool} {m:Nat} (hm:m<W^16) {z:Int} (hz:z=sg n m) (H:aA):Sg 134 [.bool n,.agg (wC (bC 16 m))] H (.ret (.agg (cI z))) H:=by
 have :=LP n (.bC m) H
 have e:(n&& !decide (bC 16 m=zs))=decide (z<0):=by
  have h0:bC 16 m=zs↔m=0:=by rw[<-BB (.bC m),iX hm]
  subst hz
  cases n with
  |false=>simp[sg]
  |true=>
   by_cases Xw:m=0
   · subst Xw;simp[sg,FF]
   have : -(m:Int)<0:=(by omega);simp only[sg,h0,Xw,this,if_true,Cr,Gn,Jl,Gm]
 have e2:z.natAbs=m:=by rw[hz,lB]
 rw[e] at this;unfold cI
 rwa [e2]
theorem ZN {a b:List AV} {x y:Option Int} (ha:iU a x) (hb:iU b y) (hxy:(x.isSome&&y.isSome)=false) (H:aA):Sg 139 [.agg a,.agg b] H (.ret (.agg EI)) H:=by have hg:=AL ha hb;rw[hxy] at hg;refine So aJk (by simp only[sf,ha.free,hb.free]) ?_ H;unfold aCx;dsimp only;simp only[↓zP,zJ,Nat.reduceLT,Nat.reduceEqDiff,Nat.reduceAdd,oL ha.len,oL hb.len];refine bW (hg _) ?_;simp only[↓zP,zJ,Nat.reduceLT];refine bW (DY _) ?_;simp only[↓zP,zJ,Nat.reduceEqDiff,Nat.reduceAdd,EI];exact⟨rfl,_,by simp only[↓zP,zR,Nat.reduceEqDiff,Nat.reduceAdd];rfl,rfl⟩
theorem rh {z w:Int} (hz:z.natAbs<W^16) (hw:w.natAbs<W^16) (H:aA):Sg 139 [.agg (cI z),.agg (cI w)] H (.ret (.agg (cO (norm (z+w))))) H:=by
 refine So aJk (by simp only[sf,sfI]) ?_ H;unfold aCx;dsimp only;have la:=iL (.bC z.natAbs);have lb:=iL (.bC w.natAbs);simp only[↓zP,zJ,Nat.reduceLT,Nat.reduceEqDiff,Nat.reduceAdd];refine bW (AL (.enc hz) (.enc hw) _) ?_;simp only[↓zP,zJ,Nat.reduceLT,Nat.reduceEqDiff,Nat.reduceAdd,Nat.reduceLeDiff,Bd,Df,cI,la,lb];by_cases hs:decide (z<0)=decide (w<0)
 · simp only[zG,hs,Hg];refine bW (aGt hz hw _) ?_;have hl:=iL (.bC (z.natAbs+w.natAbs))
   have e:z+w=sg (decide (w<0)) (z.natAbs+w.natAbs):=by by_cases h1:z<0<;>by_cases h2:w<0<;>simp[h1,h2,sg] at hs ⊢ <;>omega
   have e2:(z+w).natAbs=z.natAbs+w.natAbs:=(by rw[e,lB]);simp only[↓zP,zJ,Nat.reduceLT,Nat.reduceEqDiff,Nat.reduceAdd,Nat.reduceLeDiff,hl];refine⟨fun h=>?_,fun h=>?_⟩
   · refine bW (oF h e _) ?_;have hr:norm (z+w)=some (z+w):=(by unfold norm;rw[e2,if_pos h]);have hl:=iL (.bC (z+w).natAbs);simp only[↓zP,zJ,Nat.reduceEqDiff,Nat.reduceAdd,cI,hl];refine⟨rfl,_,by simp only[↓zP,zR,Nat.reduceEqDiff,Nat.reduceAdd,hl];rfl,?_⟩;rw[hr];rfl
   refine bW (DY _) ?_;simp only[↓zP,zJ,Nat.reduceEqDiff,Nat.reduceAdd,EI];refine Rx ?_;have hr:norm (z+w)=none:=(by unfold norm;rw[e2,if_neg h]);rw[hr];rfl
 have FE:(decide (z<0)==decide (w<0))=false:=by simpa using hs
 have hb:(z+w).natAbs<W^16:=by generalize W^16=X at *;by_cases h1:z<0<;>by_cases h2:w<0<;>simp[h1,h2] at hs<;>omega
 have hr:norm (z+w)=some (z+w):=by unfold norm;rw[if_pos hb]
 have hl:=iL (.bC (z+w).natAbs);simp only[zG,FE];refine bW (Oj hz hw _) ?_;simp only[↓zP,zJ,Nat.reduceLT];refine⟨fun h=>?_,fun h=>?_⟩
 · have hle:w.natAbs<=z.natAbs:=by
    unfold KT at h;split at h<;>omega
   have e:z+w=sg (decide (z<0)) (z.natAbs -w.natAbs):=by by_cases h1:z<0<;>by_cases h2:w<0<;>simp[h1,h2,sg] at hs ⊢ <;>omega
   refine Dz ?_;simp only[↓zP,zJ,Nat.reduceLT,Nat.reduceEqDiff,Nat.reduceAdd,zD,reduceCtorEq,Nat.reduceLeDiff,la,lb];refine eE (Vf hz hle _) ?_;simp only[Nat.reduceAdd];refine eE (oF (Jd (Nat.sub_le _ _) hz) e _) ?_;simp only[↓zP,zJ,Nat.reduceEqDiff,Nat.reduceAdd,zD,reduceCtorEq,cI,hl];refine⟨rfl,_,by simp only[↓zP,zR,Nat.reduceEqDiff,Nat.reduceAdd,hl];rfl,?_⟩;rw[hr];rfl
 have hle:z.natAbs<=w.natAbs:=by unfold KT at h;split at h<;>(try split at h)<;>omega
 have e:z+w=sg (decide (w<0)) (w.natAbs -z.natAbs):=by by_cases h1:z<0<;>by_cases h2:w<0<;>simp[h1,h2,sg] at hs ⊢ <;>omega
 refine Dz ?_;simp only[↓zP,zJ,Nat.reduceLT,Nat.reduceEqDiff,Nat.reduceAdd,zD,reduceCtorEq,Nat.reduceLeDiff,la,lb];refine eE (Vf hw hle _) ?_;simp only[Nat.reduceAdd];refine eE (oF (Jd (Nat.sub_le _ _) hw) e _) ?_;simp only[↓zP,zJ,Nat.reduceEqDiff,Nat.reduceAdd,zD,reduceCtorEq,cI,hl];refine⟨rfl,_,by simp only[↓zP,zR,Nat.reduceEqDiff,Nat.reduceAdd,hl];rfl,?_⟩;rw[hr];rfl
theorem Ww {a b:List AV} {x y:Option Int} (ha:iU a x) (hb:iU b y) (H:aA):Sg 139 [.agg a,.agg b] H (.ret (.agg (cO (NI x y)))) H:=by
 cases x with
 |none=>exact ZN ha hb rfl H
 |some z=>cases y with
  |none=>exact ZN ha hb rfl H
  |some w=>obtain⟨rfl,hz⟩:=ha.some;obtain⟨rfl,hw⟩:=hb.some;exact rh hz hw H
theorem XC {a:List AV} {x:Option Int} (ha:iU a x) (H:aA):Sg 189 [.agg a] H (.ret (.agg (cO (QM x)))) H:=by
 refine So aXi (by simp only[sf,ha.free]) ?_ H;unfold aMs;dsimp only;simp only[↓zP,zJ,Nat.reduceLT,Nat.reduceEqDiff,oL ha.len];refine bW (tR ha _) ?_
 cases x with
 |none=>simp only[↓zP,zJ,Nat.reduceLT,Cj];refine bW (DY _) ?_;simp only[↓zP,zJ,Nat.reduceEqDiff,Nat.reduceAdd,EI];exact⟨rfl,_,by simp only[↓zP,zR,Nat.reduceEqDiff,Nat.reduceAdd];rfl,rfl⟩
 |some z=>obtain⟨rfl,hz⟩:=ha.some;have la:=iL (.bC z.natAbs);have hl:=iL (.bC (-z).natAbs);simp only[↓zP,zJ,Nat.reduceLT,Nat.reduceEqDiff,Nat.reduceAdd,Nat.reduceLeDiff,Bd,cI,la];refine bW (oF (n:= !decide (z<0)) hz (z:= -z) (by by_cases h:z<0<;>simp[sg,h]<;>omega) _) ?_;simp only[↓zP,zJ,Nat.reduceEqDiff,Nat.reduceAdd,cI,hl];exact⟨rfl,_,by simp only[↓zP,zR,Nat.reduceEqDiff,Nat.reduceAdd,hl];rfl,rfl⟩
theorem s9 {a b:List AV} {x y:Option Int} (ha:iU a x) (hb:iU b y) (H:aA):Sg 235 [.agg a,.agg b] H (.ret (.agg (cO (NI x (QM y))))) H:=by
 refine So aYk (by simp only[sf,ha.free,hb.free]) ?_ H;unfold aNu;dsimp only;simp only[↓zP,zJ,Nat.reduceLT,Nat.reduceEqDiff,Nat.reduceAdd];refine Dz ?_;simp only[↓zP,zJ,Nat.reduceLT,Nat.reduceEqDiff,Nat.reduceAdd,zD,reduceCtorEq,oL ha.len,oL hb.len];refine eE (XC hb _) ?_;simp only[Nat.reduceAdd];refine eE (Ww ha hb.neg _) ?_;simp only[↓zP,zJ,Nat.reduceEqDiff,Nat.reduceAdd,zD,reduceCtorEq]
 (refine Rx ?_;rfl)
theorem JP (a:Nat) (H:aA):Sg 191 [.agg (wC (bC 16 a))] H (.ret (.int .i64 (sz a:Nat))) H:=by
 refine So aJu (by simp only[sf]) ?_ H;unfold aDh;dsimp only;have la:=iL (.bC a);simp only[↓zP,zJ,Nat.reduceLT];refine aF (iG [3] (fun m vs H'=>vs=[.int .i64 (m:Nat)]/\m<=16/\dv m a=sz a/\H'.get 0=some (.cells (wC (bC 16 a)) false)) 16 (by rfl) ?_ ?_)
 · refine⟨by simp only[sm,zB];rfl,by omega,rfl,by simp only[zI]⟩
 rintro m f H hk ⟨hv,hm,hd,g0⟩;simp only[zM] at hv;simp only[↓zP,zJ,Nat.reduceLT,Nat.reduceEqDiff,hv]
 cases m with
 |zero=>simp only[zJ,show decide (((0:Nat):Int)>0)=false from rfl];refine Rx ?_;rw[<-hd];rfl
 |succ m=>
  have w:IntKind.i64.wrap (((m+1:Nat):Int) -1)=(m:Nat):=wI (by omega);simp only[↓zP,zJ,Nat.reduceEqDiff,show decide (((m+1:Nat):Int)>0)=true from Af (by omega),hk 1 rfl,w,aB,g0,show m<16 by omega,show m+1<=16 by omega,la,lI (show m<16 by omega)];by_cases hz:bF a m=0
  · simp only[zG,hz,show(((0:Nat):Int)==0)=true from rfl];refine aF ?_;simp only[↓zP,zG,Nat.reduceLT,Nat.reduceEqDiff,hv,w];refine⟨m,by omega,rfl,by omega,by rw[<-hd,dv,if_pos hz],g0⟩
  have hb:(((bF a m:Nat):Int)==0)=false:=by simp;omega
  simp only[zG,hb];refine Rx ?_;rw[<-hd,dv,if_neg hz];rfl
theorem IQ:∀b:Nat,b<256->([0,1,2,2,3,3,3,3,4,4,4,4,4,4,4,4,5,5,5,5,5,5,5,5,5,5,5,5,5,5,5,5,6,6,6,6,6,6,6,6,6,6,6,6,6,6,6,6,6,6,6,6,6,6,6,6,6,6,6,6,6,6,6,6,7,7,7,7,7,7,7,7,7,7,7,7,7,7,7,7,7,7,7,7,7,7,7,7,7,7,7,7,7,7,7,7,7,7,7,7,7,7,7,7,7,7,7,7,7,7,7,7,7,7,7,7,7,7,7,7,7,7,7,7,7,7,7,7,8,8,8,8,8,8,8,8,8,8,8,8,8,8,8,8,8,8,8,8,8,8,8,8,8,8,8,8,8,8,8,8,8,8,8,8,8,8,8,8,8,8,8,8,8,8,8,8,8,8,8,8,8,8,8,8,8,8,8,8,8,8,8,8,8,8,8,8,8,8,8,8,8,8,8,8,8,8,8,8,8,8,8,8,8,8,8,8,8,8,8,8,8,8,8,8,8,8,8,8,8,8,8,8,8,8,8,8,8,8,8,8,8,8,8,8,8,8,8,8,8,8,8,8,8,8,8,8]:List UInt8)[b]?=some (UInt8.ofNat (fF b)):=by decide+kernel
theorem aIk (u k:Nat) (kk:IntKind) (hk:k<=kk.bits):(u:Int).fdiv (2^min (Int.toNat k) kk.bits)=((u / 2^k:Nat):Int):=by rw[show min (Int.toNat k) kk.bits=k by simp;omega,Jg _ (by exact_mod_cast Az _)];simp
theorem Mp {b n:Nat} (hb:b<256) (hn:n<=24):IntKind.i64.wrap ((n:Int)+IntKind.i64.wrap ((UInt8.ofNat (fF b)).toNat:Int))=((n+fF b:Nat):Int):=by
 have h1:fF b<=8:=oK.2 hb;have h2:(UInt8.ofNat (fF b)).toNat=fF b:=by simp;omega
 have h3:IntKind.i64.wrap ((fF b:Nat):Int)=(fF b:Nat):=wrap_i64 (by omega) (by omega);rw[h2,h3,wrap_i64 (by omega) (by omega)];simp
theorem wu8 {b:Nat} (hb:b<256):IntKind.u8.wrap (b:Int)=(b:Int):=by simp only[IntKind.wrap,IntKind.bits,IntKind.signed];simp;omega
theorem su {a:Nat} (ha:a<W) (H:aA):Sg 223 [.int .u32 a] H (.ret (.int .i64 (fF a:Nat))) H:=by
 refine So aJv (by simp only[sf]) ?_ H;unfold aDi;dsimp only;have hW:W=4294967296:=rfl;simp only[↓zP,zJ,Nat.reduceLT,Nat.reduceEqDiff,Int.reduceLT];have f16:∀u:Nat,(u:Int).fdiv (2^min (Int.toNat 16) IntKind.u32.bits)=((u / 2^16:Nat):Int):=fun u=>aIk u 16 .u32 (by decide);have f8:∀u:Nat,(u:Int).fdiv (2^min (Int.toNat 8) IntKind.u32.bits)=((u / 2^8:Nat):Int):=fun u=>aIk u 8 .u32 (by decide);have w24:IntKind.i64.wrap (16+8)=((24:Nat):Int):=by decide
 have w8:IntKind.i64.wrap (0+8)=((8:Nat):Int):=by decide
 refine⟨fun h=>?_,fun h=>?_⟩
 · simp only[f16];refine⟨fun h2=>?_,fun h2=>?_⟩
   · have hb:a / 2^16 / 2^8<256:=(by omega);simp only[↓zP,zJ,f8,wu8 hb,aB,IQ _ hb,w24,Mp hb (show 24<=24 by omega)];refine Rx ?_
     have e:fF a=24+fF (a / 2^16 / 2^8):=by rw[Ig,<-Ka,sL (k:=16+8) (by omega)];omega
     rw[e];rfl
   have hb:a / 2^16<256:=(by omega);have :=Mp hb (show 16<=24 by omega);simp only[↓zP,zJ,wu8 hb,aB,IQ _ hb];refine Rx ?_;have e:fF a=16+fF (a / 2^16):=(by rw[sL (k:=16) (by omega)];omega);rw[e,<-this];rfl
 refine⟨fun h2=>?_,fun h2=>?_⟩
 · have hb:a / 2^8<256:=by omega
   simp only[↓zP,zJ,f8,wu8 hb,aB,IQ _ hb,w8,Mp hb (show 8<=24 by omega)];refine Rx ?_;have e:fF a=8+fF (a / 2^8):=(by rw[sL (k:=8) (by omega)];omega);rw[e];rfl
 have hb:a<256:=by omega
 have :=Mp hb (show 0<=24 by omega);simp only[↓zP,zJ,wu8 hb,aB,IQ _ hb];refine Rx ?_;rw[Cv] at this;rw[<-this];rfl
theorem aIl {α:Type} (a b d:α) (l:List α) (k:Nat):(a::b::l).getD (2+k) d=l.getD k d:=by rw[Fq];rfl
def tu:Option Int->Nat
 |some z=>fF z.natAbs
 |none=>0
theorem aCk {a:List AV} {x:Option Int} (ha:iU a x) (H:aA):Sg 157 [.agg a] H (.ret (.int .i64 (tu x:Nat))) H:=by
 refine So aJm (by simp only[sf,ha.free]) ?_ H;unfold aCz;dsimp only;obtain⟨r,rfl,hx,-⟩:=ha.raw;have hr:=cm r.hl;have lr:=Kx r.hl;have hs:=JP (CF r.l);rw[lr] at hs;have Pb:=tR ha;rw[show r.cells=.bool r.b::.bool r.n::wC r.l from rfl] at Pb;simp only[↓zP,zJ,Nat.reduceLT,Nat.reduceEqDiff,Nat.reduceAdd,zL.cells,iL r.hl];refine bW (hs _) ?_;simp only[↓zP,zJ,Nat.reduceLT,Nat.reduceEqDiff,Nat.reduceAdd,iL r.hl];refine bW (Pb _) ?_
 cases x with
 |none=>simp only[↓zP,zJ,Nat.reduceLT,Nat.reduceEqDiff,Cj];exact⟨rfl,_,by simp only[↓zP,zR];rfl,rfl⟩
 |some z=>
  have hz:=ha.fit;obtain⟨hb,hn,hl,-⟩:=SE r.hl hx.symm;have ez:CF r.l=z.natAbs:=by rw[hl,iX hz]
  rw[ez];by_cases h0:sz z.natAbs=0
  · simp only[↓zP,zJ,Nat.reduceLT,Nat.reduceEqDiff,Bd,h0,show(((0:Nat):Int)==0)=true from rfl];refine Rx ?_;rw[tu,(aHo hz).1 h0];rfl
  have hb:(((sz z.natAbs:Nat):Int)==0)=false:=by simp;omega
  have l16:=aBx z.natAbs;have w1:IntKind.i64.wrap (((sz z.natAbs:Nat):Int) -1)=((sz z.natAbs -1:Nat):Int):=wI (by omega);have w2:IntKind.i64.wrap (32*((sz z.natAbs -1:Nat):Int))=((32*(sz z.natAbs -1):Nat):Int):=by rw[wrap_i64 (by omega) (by omega)];simp
  have hg:(wC r.l).getD (sz z.natAbs -1) aD=.int .u32 (bF z.natAbs (sz z.natAbs -1)):=by rw[hl,lI (by omega)]
  have VE:fF (bF z.natAbs (sz z.natAbs -1))<=32:=oK.2 (jQ _ _)
  have w3:IntKind.i64.wrap (((32*(sz z.natAbs -1):Nat):Int)+(fF (bF z.natAbs (sz z.natAbs -1)):Nat))=((fF z.natAbs:Nat):Int):=by rw[wrap_i64 (by omega) (by omega),ic hz h0];simp
  simp only[↓zP,zJ,Nat.reduceLT,Nat.reduceEqDiff,Nat.reduceAdd,Nat.reduceLeDiff,Bd,hb,w1,w2,aB,show sz z.natAbs -1<16 by omega,show 2+(sz z.natAbs -1)<=17 by omega,iL r.hl,aIl,hg];refine bW (su (jQ z.natAbs (sz z.natAbs -1)) _) ?_;simp only[↓zP,zJ,Nat.reduceLT,Nat.reduceEqDiff,w3]
  (refine Rx ?_;rfl)
def iW:Option Int->Int×Bool
 |some z=>if -2^63<=z/\z<2^63 then(z,true) else(0,false)
 |none=>(0,false)
theorem aSl {a b:Nat} (ha:a<4294967296) (hb:b<4294967296):GX .or .u64 (IntKind.u64.wrap (((a:Nat):Int)*2^(min (Int.toNat 32) IntKind.u64.bits))) ((b:Nat):Int)=some (.int .u64 ((a*4294967296+b:Nat):Int)):=by
 have e:IntKind.u64.wrap (((a:Nat):Int)*2^(min (Int.toNat 32) IntKind.u64.bits))=((a*4294967296:Nat):Int):=by show IntKind.u64.wrap (((a:Nat):Int)*4294967296)=_;exact sE (by omega) (by omega)
 rw[e]
 have e2:(a*4294967296|||b)=a*4294967296+b:=by have :=Nat.two_pow_add_eq_or_of_lt (i:=32) hb a;rw[Dk] at this;exact this.symm
 have e3:∀n:Nat,BitVec.ofInt 64 (n:Int)=BitVec.ofNat 64 n:=fun n=>by simp
 simp only[GX];congr 2;rw[show IntKind.u64.bits=64 from rfl,e3,e3,<-BitVec.ofNat_or,e2,BitVec.toNat_ofNat,Db (by omega)];exact sE (by omega) (.inl rfl)
theorem GP {a:List AV} {x:Option Int} (ha:iU a x) (H:aA):Sg 173 [.agg a] H (.ret (.jR [.int .i64 (iW x).1,.bool (iW x).2])) H:=by
 refine So aWw (by simp only[sf,ha.free]) ?_ H;unfold aMh;dsimp only;simp only[↓zP,zJ,Nat.reduceLT,Nat.reduceEqDiff,oL ha.len];refine bW (tR ha _) ?_
 cases x with
 |none=>simp only[↓zP,zJ,Nat.reduceLT,Nat.reduceEqDiff,Cj];exact⟨rfl,_,by simp only[↓zP,zR,Nat.reduceEqDiff];rfl,rfl⟩
 |some z=>
  obtain⟨rfl,hz⟩:=ha.some;have la:=iL (.bC z.natAbs);have hW:W=4294967296:=rfl;have hW2:W^2=2^64:=rfl;simp only[↓zP,zJ,Nat.reduceLT,Nat.reduceEqDiff,Bd];refine bW (aCk ha _) ?_;simp only[↓zP,zJ,Nat.reduceLT,Nat.reduceEqDiff,tu];refine⟨fun h=>?_,fun h=>?_⟩
  · have :¬z.natAbs<2^64:=fun hh=>by have :=oK.2 hh;omega
    refine Rx ?_;rw[iW,if_neg (by omega)];rfl
  have eZ:z.natAbs<2^64:=oK.1 (by omega);have e0:(wC (bC 16 z.natAbs)).getD 0 aD=.int .u32 (bF z.natAbs 0:Nat):=lI (by omega);have e1:(wC (bC 16 z.natAbs)).getD 1 aD=.int .u32 (bF z.natAbs 1:Nat):=lI (by omega);have h0:=jQ z.natAbs 0;have h1:=jQ z.natAbs 1;have w0:IntKind.u64.wrap ((bF z.natAbs 0:Nat):Int)=(bF z.natAbs 0:Nat):=sE (by omega) (.inl rfl);have w1:IntKind.u64.wrap ((bF z.natAbs 1:Nat):Int)=(bF z.natAbs 1:Nat):=sE (by omega) (.inl rfl)
  have et:bF z.natAbs 1*W+bF z.natAbs 0=z.natAbs:=by have h2:bF z.natAbs 0=z.natAbs%W:=(by simp[bF]);have h3:bF z.natAbs 1=z.natAbs / W:=(by unfold bF;rw[Nat.pow_one,hW,Db (by omega)]);rw[h2,h3,Dk];exact Fj _ _
  have ho:=aSl h1 h0;rw[hW] at et;rw[et] at ho;unfold cI;simp only[↓zP,zJ,Nat.reduceLT,Nat.reduceAdd,Nat.reduceLeDiff,Int.reduceLT,la,nC,e0,e1,w0,w1,ho];refine aF ?_;by_cases QL:z<0
  · simp only[↓zP,zJ,Nat.reduceLT,Nat.reduceEqDiff,Nat.reduceAdd,Nat.reduceLeDiff,Af QL,la];refine⟨fun h4=>?_,fun h4=>?_⟩
    · have w2:IntKind.u64.wrap (0 -((z.natAbs:Nat):Int))=((2^64 -z.natAbs:Nat):Int):=sE (by omega) (by omega)
      have w3:IntKind.i64.wrap ((2^64 -z.natAbs:Nat):Int)=z:=by simp only[IntKind.wrap,IntKind.bits,IntKind.signed];simp;omega
      refine⟨rfl,_,by simp only[↓zP,zR,Nat.reduceEqDiff,w2,w3];rfl,?_⟩;rw[iW,if_pos (by omega)];rfl
    refine Rx ?_;rw[iW,if_neg (by omega)];rfl
  simp only[↓zP,zJ,Nat.reduceLT,Nat.reduceEqDiff,Nat.reduceAdd,Nat.reduceLeDiff,Ae QL,la];refine⟨fun h4=>?_,fun h4=>?_⟩
  · have w3:IntKind.i64.wrap ((z.natAbs:Nat):Int)=z:=by
     rw[wrap_i64 (by omega) (by omega)];omega
    refine⟨rfl,_,by simp only[↓zP,zR,Nat.reduceEqDiff,w3];rfl,?_⟩;rw[iW,if_pos (by omega)];rfl
  refine Rx ?_;rw[iW,if_neg (by omega)];rfl
def yW:Option Int->Int
 |some z=>if z<0 then -1 else if z=0 then 0 else 1
 |none=>0
def aTf:Option Int->Option Int
 |some z=>some z.natAbs
 |none=>none
def kS:Option Int->Option Int->Int
 |some x,some y=>if x<y then -1 else if y<x then 1 else 0
 |none,none=>0
 |none,_=> -1
 |_,none=>1
theorem AT {n:Nat} (h:n<W^16):bC 16 n=zs↔n=0:=by rw[<-BB (.bC n),iX h]
theorem Mf {a:List AV} {x:Option Int} (ha:iU a x) (H:aA):Sg 144 [.agg a] H (.ret (.int .i64 (yW x))) H:=by
 refine So aWc (by simp only[sf,ha.free]) ?_ H;unfold aLo;dsimp only;simp only[↓zP,zJ,Nat.reduceLT];refine aF ?_;simp only[↓zP,zJ,Nat.reduceLT,Nat.reduceEqDiff,oL ha.len];refine bW (tR ha _) ?_
 cases x with
 |none=>simp only[↓zP,zJ,Nat.reduceLT,Nat.reduceEqDiff,Cj];exact⟨rfl,_,by simp only[↓zP,zR];rfl,rfl⟩
 |some z=>
  obtain⟨rfl,hz⟩:=ha.some;have la:=iL (.bC z.natAbs);unfold cI;by_cases QL:z<0
  · have he:decide (bC 16 z.natAbs=zs)=false:=by rw[Ae];rw[AT hz];omega
    simp only[↓zP,zJ,Nat.reduceLT,Nat.reduceEqDiff,Nat.reduceAdd,Nat.reduceLeDiff,Bd,la,he,Af QL];refine Rx ?_;rw[yW,if_pos QL];rfl
  by_cases h1:z=0
  · subst h1;simp only[↓zP,zJ,Nat.reduceLT,Nat.reduceEqDiff,Nat.reduceAdd,Int.reduceLT,Bd,la,show decide (bC 16 (Int.natAbs 0)=zs)=true from rfl];exact⟨rfl,_,by simp only[↓zP,zR];rfl,rfl⟩
  have he:decide (bC 16 z.natAbs=zs)=false:=by rw[Ae];rw[AT hz];omega
  simp only[↓zP,zJ,Nat.reduceLT,Nat.reduceEqDiff,Nat.reduceAdd,Nat.reduceLeDiff,Bd,la,he,Ae QL];refine Rx ?_;rw[yW,if_neg QL,if_neg h1];rfl
theorem aKg {a:List AV} {x:Option Int} (ha:iU a x) (H:aA):Sg 193 [.agg a] H (.ret (.agg (cO (aTf x)))) H:=by
 refine So aXk (by simp only[sf,ha.free]) ?_ H;unfold aMu;dsimp only;simp only[↓zP,zJ,Nat.reduceLT,Nat.reduceEqDiff,oL ha.len];refine bW (tR ha _) ?_
 cases x with
 |none=>simp only[↓zP,zJ,Nat.reduceLT,Cj];refine bW (DY _) ?_;simp only[↓zP,zJ,Nat.reduceEqDiff,Nat.reduceAdd];exact⟨rfl,_,by simp only[↓zP,zR,Nat.reduceEqDiff];rfl,rfl⟩
 |some z=>obtain⟨rfl,hz⟩:=ha.some;have la:=iL (.bC z.natAbs);unfold cI;simp only[↓zP,zJ,Nat.reduceLT,Nat.reduceEqDiff,Nat.reduceAdd,Bd,la];refine bW (oF (n:=false) hz (z:=(z.natAbs:Int)) rfl _) ?_;simp only[↓zP,zJ,Nat.reduceEqDiff,Nat.reduceAdd];exact⟨rfl,_,by simp only[↓zP,zR,Nat.reduceEqDiff];rfl,rfl⟩
theorem KD {a b:List AV} {x y:Option Int} (ha:iU a x) (hb:iU b y) (H:aA):Sg 85 [.agg a,.agg b] H (.ret (.int .i64 (kS x y))) H:=by
 refine So bGo (by simp only[sf,ha.free,hb.free]) ?_ H;unfold W85;dsimp only;refine bQ ?_;simp only[↓zP,zJ,seval];refine fM ?_;refine Dz ?_;simp only[↓zP,zJ,seval,zD,oL ha.len];refine eE (tR ha _) ?_;simp only[↓zP,zJ,seval,zD,oL hb.len];refine eE (tR hb _) ?_;simp only[↓zP,zJ,seval,zD];refine bR ?_;refine aG fun K hK=>?_;refine aF ?_
 cases x with
 |none=>
  cases y<;>
  · simp only[↓zP,zJ,seval,Cj,Bd];exact⟨rfl,_,by simp only[↓zP,zR,seval];rfl,rfl⟩
 |some z=>cases y with
  |none=>simp only[↓zP,zJ,seval,Cj,Bd];exact⟨rfl,_,by simp only[↓zP,zR,seval];rfl,rfl⟩
  |some w=>
   obtain⟨rfl,hz⟩:=ha.some;obtain⟨rfl,hw⟩:=hb.some;have la:=iL (.bC z.natAbs);have lb:=iL (.bC w.natAbs);unfold cI;by_cases h1:z<0<;>by_cases h2:w<0
   · simp only[↓zP,zJ,seval,Bd,Af h1,Af h2,la,lb];refine bW (Oj hw hz _) ?_;simp only[↓zP,zG,seval];refine⟨rfl,_,by simp only[↓zP,zR,seval];rfl,?_⟩
     have e:kS (some z) (some w)=KT w.natAbs z.natAbs:=by
      simp only[kS,KT]
      repeat' split
      all_goals first|rfl|omega
     rw[e];rfl
   · simp only[↓zP,zJ,seval,Bd,Af h1,Ae h2,la,lb];refine⟨rfl,_,by simp only[↓zP,zR,seval];rfl,?_⟩;rw[kS,if_pos (by omega)];rfl
   · simp only[↓zP,zJ,seval,Bd,Ae h1,Af h2,la,lb];refine⟨rfl,_,by simp only[↓zP,zR,seval];rfl,?_⟩;rw[kS,if_neg (by omega),if_pos (by omega)];rfl
   simp only[↓zP,zJ,seval,Bd,Ae h1,Ae h2,la,lb];apply hK;simp only[↓zP,zJ,seval,la,lb];refine bW (Oj hz hw _) ?_;simp only[↓zP,zG,seval];refine⟨rfl,_,by simp only[↓zP,zR,seval];rfl,?_⟩
   have e:kS (some z) (some w)=KT z.natAbs w.natAbs:=by
    simp only[kS,KT]
    repeat' split
    all_goals first|rfl|omega
   rw[e];rfl
theorem vl {z:Int} (h:z.natAbs<2^62):z.natAbs<W^16:=w63 (by omega)
theorem aAv (x:Int) (H:aA):Sg 331 [.int .i64 x] H (.ret (.bool (decide (x<2147483648)&&decide (x> -2147483648)))) H:=by
 refine So bAi (by simp only[sf]) ?_ H;unfold aPo;dsimp only
 cases h:decide (x<2147483648) with
 |true=>simp only[↓zP,zJ,seval,h];exact⟨rfl,_,by simp only[↓zP,zR,seval];rfl,rfl⟩
 |false=>simp only[↓zP,zJ,seval,h];exact⟨rfl,_,by simp only[↓zP,zR,seval];rfl,rfl⟩
theorem Lz {x:Int} (h:x.natAbs<2^31) (H:aA):Sg 331 [.int .i64 x] H (.ret (.bool true)) H:=by
 have :=aAv x H
 rwa [Af (show x<2147483648 by omega),Af (show x> -2147483648 by omega)] at this
theorem uD {x y:Int} (hx:x.natAbs<2^31) (hy:y.natAbs<2^31) (H:aA):Sg 291 [.agg (cI x),.agg (cI y)] H (.ret (.agg (cI (x*y)))) H:=by
 refine Sp aZw (by simp only[sf,dC]) (by simp only[AV.free,dC]) ?_ H;unfold aPd;dsimp only
 have hb:(x*y).natAbs<2^62:=by
  rw[Ga];have :=Nat.mul_lt_mul'' hx hy;have e:(2:Nat)^31*2^31=2^62:=by decide
  omega
 have wm:IntKind.i64.wrap (x*y)=x*y:=wrap_i64 (by omega) (by omega);have ho:=vS (z:=x*y) (by omega) (by omega);refine bQ ?_;simp only[↓zP,zJ,seval];refine fM ?_;simp only[↓zP,zJ,seval];refine bW (rK (z:=x) (by omega) _) ?_;simp only[↓zP,zJ,seval];refine fM ?_;simp only[↓zP,zJ,seval];refine bW (rK (z:=y) (by omega) _) ?_;simp only[↓zP,zJ,seval];refine bR ?_;refine aG fun K hK=>?_;simp only[↓zP,zG,seval];refine bW (Lz hx _) ?_;simp only[↓zP,zG,seval];refine bW (Lz hy _) ?_;simp only[↓zP,zG,seval,wm];refine bW (ho _) ?_;simp only[↓zP,zJ,seval];refine Rx ?_;rfl
theorem FM {x y:Int} (hx:x.natAbs<2^62) (hy:y.natAbs<2^62) (H:aA):Sg 327 [.agg (cI x),.agg (cI y)] H (.ret (.agg (cI (x+y)))) H:=by refine Sp bAd (by simp only[sf,dC]) (by simp only[AV.free,dC]) ?_ H;unfold aPk;dsimp only;have wm:IntKind.i64.wrap (x+y)=x+y:=wrap_i64 (by omega) (by omega);have ho:=vS (z:=x+y) (by omega) (by omega);refine bQ ?_;simp only[↓zP,zJ,seval];refine fM ?_;simp only[↓zP,zJ,seval];refine bW (rK hx _) ?_;simp only[↓zP,zJ,seval];refine fM ?_;simp only[↓zP,zJ,seval];refine bW (rK hy _) ?_;simp only[↓zP,zJ,seval];refine bR ?_;refine aG fun K hK=>?_;simp only[↓zP,zG,seval,wm];refine bW (ho _) ?_;simp only[↓zP,zJ,seval];refine Rx ?_;rfl
theorem aHe {z:Int} (hz:z.natAbs<W^16) (H:aA):Sg 329 [.agg (cI z)] H (.ret (.agg (cI (-z)))) H:=by refine Sp bAf (by simp only[sf,dC]) (by simp only[AV.free,dC]) ?_ H;unfold aPm;dsimp only;have Ln:=uC (iU.enc hz);have hd:=uE false (decide (z<0)) (.bC z.natAbs);have hn:=yG (!decide (z<0)) 0 (GI z.natAbs) (by have :=tO.2 hz;omega);rw[yN,JD (by rw[lB];exact hz),show sg (!decide (z<0)) z.natAbs= -z from by unfold sg;split<;>simp_all<;>omega] at hn;rw[iX hz] at hd;have j7:AV.bool false::AV.bool (decide (z<0))::wC (bC 16 z.natAbs)=cI z:=rfl;rw[j7] at hd;have h1:(cI z).getD 1 aD=.bool (decide (z<0)):=rfl;refine bQ ?_;simp only[↓zP,zJ,seval];refine fM ?_;simp only[↓zP,zJ,seval];refine bW (Ln _) ?_;simp only[Bd];simp only[↓zP,zJ,seval];refine fM ?_;refine Dz ?_;simp only[↓zP,zJ,seval,zD,h1];refine eE (hd _) ?_;simp only[seval];refine eE (hn _) ?_;simp only[cO];simp only[↓zP,zJ,seval,zD];refine bR ?_;simp only[↓zP,seval];refine Rx ?_;rfl
theorem Yj {x y:Int} (hx:x.natAbs<2^62) (hy:y.natAbs<2^62) (H:aA):Sg 290 [.agg (cI x),.agg (cI y)] H (.ret (.agg (cI (x -y)))) H:=by refine Sp aZv (by simp only[sf,dC]) (by simp only[AV.free,dC]) ?_ H;unfold aPc;dsimp only;have ha:=FM hx (y:= -y) (by rwa [Kc]);rw[<-Int.sub_eq_add_neg] at ha;refine bQ ?_;simp only[↓zP,zJ,seval];refine fM ?_;refine Dz ?_;simp only[↓zP,zJ,seval,zD];refine eE (aHe (vl hy) _) ?_;simp only[seval];refine eE (ha _) ?_;simp only[↓zP,zJ,seval,zD];refine bR ?_;simp only[↓zP,seval];refine Rx ?_;rfl
theorem aHb {z:Int} (hz:z.natAbs<W^16) (H:aA):Sg 344 [.agg (cI z)] H (.ret (.agg (cI (z.natAbs:Int)))) H:=by refine Sp bAk (by simp only[sf,dC]) (by simp only[AV.free,dC]) ?_ H;unfold aPp;dsimp only;have Ln:=uC (iU.enc hz);have hd:=uE false (decide (z<0)) (.bC z.natAbs);have hn:=yG false 0 (GI z.natAbs) (by have :=tO.2 hz;omega);rw[yN,JD (by rw[lB];exact hz),show sg false z.natAbs=(z.natAbs:Int) from rfl] at hn;rw[iX hz] at hd;have j7:AV.bool false::AV.bool (decide (z<0))::wC (bC 16 z.natAbs)=cI z:=rfl;rw[j7] at hd;refine bQ ?_;simp only[↓zP,zJ,seval];refine fM ?_;simp only[↓zP,zJ,seval];refine bW (Ln _) ?_;simp only[Bd];simp only[↓zP,zJ,seval];refine bR ?_;simp only[↓zP,zJ,seval];refine bW (hd _) ?_;refine bW (hn _) ?_;simp only[cO];simp only[↓zP,zJ,seval];refine Rx ?_;rfl
def aBn (z:Int):Int:=if z=0 then 0 else if z<0 then -1 else 1
theorem aAn {z:Int} (hz:z.natAbs<W^16) (H:aA):Sg 323 [.agg (cI z)] H (.ret (.int .i64 (aBn z))) H:=by
 refine So aZz (by simp only[sf,dC]) ?_ H;unfold aPg;dsimp only;have Ln:=uC (iU.enc hz);have hd:=uE false (decide (z<0)) (.bC z.natAbs);rw[iX hz] at hd;have j7:AV.bool false::AV.bool (decide (z<0))::wC (bC 16 z.natAbs)=cI z:=rfl;rw[j7] at hd;have h1:(cI z).getD 1 aD=.bool (decide (z<0)):=rfl;unfold aBn;refine bQ ?_;simp only[↓zP,zJ,seval];refine bR ?_;refine aG fun K hK=>?_;simp only[↓zP,zJ,seval];refine bW (Ln _) ?_;simp only[Bd];simp only[↓zP,zJ,seval];refine bW (hd _) ?_;by_cases h0:z=0
 · have hb:(((dg z.natAbs).length:Int)==0)=true:=by
    rw[Da,Si.2 (by omega)];rfl
   simp only[↓zP,zG,seval,eH,hb];refine Rx ?_;rw[if_pos h0];rfl
 have hb:(((dg z.natAbs).length:Int)==0)=false:=by rw[Ce];intro h;have :=Si.1 (Cw (l:=dg z.natAbs) (by omega));omega
 simp only[↓zP,zG,seval,eH,hb];apply hK;clear hK K
 cases hn:decide (z<0) with
 |true=>rw[hn] at h1;simp only[↓zP,zJ,seval,h1];refine Rx ?_;rw[if_neg h0,if_pos (Cc hn)];rfl
 |false=>rw[hn] at h1;simp only[↓zP,zJ,seval,h1];refine Rx ?_;rw[if_neg h0,if_neg (Cs hn)];rfl
theorem CH {x y:Int} (hx:x.natAbs<W^16) (hy:y.natAbs<W^16) (H:aA):Sg 182 [.agg (cI x),.agg (cI y)] H (.ret (.int .i64 (kS (some x) (some y)))) H:=by
 refine So aXb (by simp only[sf,dC]) ?_ H;unfold aMl;dsimp only;have gx:=uC (iU.enc hx);have gy:=uC (iU.enc hy);have dx:=uE false (decide (x<0)) (.bC x.natAbs);have dy:=uE false (decide (y<0)) (.bC y.natAbs);rw[iX hx] at dx;rw[iX hy] at dy;rw[show AV.bool false::AV.bool (decide (x<0))::wC (bC 16 x.natAbs)=cI x from rfl] at dx;rw[show AV.bool false::AV.bool (decide (y<0))::wC (bC 16 y.natAbs)=cI y from rfl] at dy;have lx:(dg x.natAbs).length<2^29:=by have :=tO.2 hx;omega
 have ly:(dg y.natAbs).length<2^29:=by have :=tO.2 hy;omega
 have l1:=WD (GI x.natAbs) (GI y.natAbs) lx ly 0 0;have l2:=WD (GI y.natAbs) (GI x.natAbs) ly lx 0 0;rw[yN,yN] at l1 l2;have x1:(cI x).getD 1 aD=.bool (decide (x<0)):=rfl;have y1:(cI y).getD 1 aD=.bool (decide (y<0)):=rfl;simp only[kS];refine bQ ?_;simp only[↓zP,zJ,seval];refine fM ?_;simp only[↓zP,zJ,seval];refine bW (gx _) ?_;simp only[Bd];simp only[↓zP,zJ,seval];refine fM ?_;simp only[↓zP,zJ,seval];refine bW (gx _) ?_;simp only[Bd];simp only[↓zP,zJ,seval];refine fM ?_;simp only[↓zP,zJ,seval];refine bW (gy _) ?_;simp only[Bd];simp only[↓zP,zJ,seval];refine bR ?_;have tf:(true==false)=false:=rfl;have ft:(false==true)=false:=rfl;by_cases Wp:x<0
 · rw[Af Wp] at x1;by_cases Mn:y<0
   · rw[Af Mn] at y1;refine bQ ?_;simp only[↓zP,zJ,seval,x1,y1];refine fM ?_;simp only[↓zP,zJ,seval];refine bW (dx _) ?_;simp only[↓zP,zG,seval];refine fM ?_;simp only[↓zP,zJ,seval];refine bW (dy _) ?_;simp only[↓zP,zG,seval];refine fM ?_;simp only[↓zP,zJ,seval,x1];refine bW (dy _) ?_;simp only[↓zP,zJ,seval];refine bW (dx _) ?_;simp only[↓zP,zG,seval];refine fM ?_;simp only[↓zP,zG,seval];refine bW (l2 _) ?_;simp only[↓zP,zG,seval];refine fM ?_;simp only[↓zP,zG,seval];refine bW (l1 _) ?_;simp only[↓zP,zG,seval];refine bR ?_;by_cases h1:y.natAbs<x.natAbs
     · have e1:=Af h1;simp only[↓zP,zG,seval,e1];refine Rx ?_;rw[if_pos (by omega)];rfl
     have e1:=Ae h1;by_cases h2:x.natAbs<y.natAbs
     · have e2:=Af h2;simp only[↓zP,zG,seval,e1,e2];refine Rx ?_;rw[if_neg (by omega),if_pos (by omega)];rfl
     have e2:=Ae h2;simp only[↓zP,zG,seval,e1,e2];refine Rx ?_;rw[if_neg (by omega),if_neg (by omega)];rfl
   rw[Ae Mn] at y1;simp only[↓zP,zJ,seval,x1,y1,tf];refine Rx ?_;rw[if_pos (by omega)];rfl
 rw[Ae Wp] at x1;by_cases Mn:y<0
 · rw[Af Mn] at y1;simp only[↓zP,zJ,seval,x1,y1,ft];refine Rx ?_;rw[if_neg (by omega),if_pos (by omega)];rfl
 rw[Ae Mn] at y1;refine bQ ?_;simp only[↓zP,zJ,seval,x1,y1];refine fM ?_;simp only[↓zP,zJ,seval];refine bW (dx _) ?_;simp only[↓zP,zG,seval];refine fM ?_;simp only[↓zP,zJ,seval];refine bW (dy _) ?_;simp only[↓zP,zG,seval];refine fM ?_;simp only[↓zP,zJ,seval,x1];refine fM ?_;simp only[↓zP,zG,seval];refine bW (l1 _) ?_;simp only[↓zP,zG,seval];refine fM ?_;simp only[↓zP,zG,seval];refine bW (l2 _) ?_;simp only[↓zP,zG,seval];refine bR ?_;by_cases h1:x.natAbs<y.natAbs
 · have e1:=Af h1;simp only[↓zP,zG,seval,e1];refine Rx ?_;rw[if_pos (by omega)];rfl
 have e1:=Ae h1;by_cases h2:y.natAbs<x.natAbs
 · have e2:=Af h2;simp only[↓zP,zG,seval,e1,e2];refine Rx ?_;rw[if_neg (by omega),if_pos (by omega)];rfl
 have e2:=Ae h2;simp only[↓zP,zG,seval,e1,e2];refine Rx ?_;rw[if_neg (by omega),if_neg (by omega)];rfl
end Go.Proofs.YtndkpgceodimiaaGreatDoor
