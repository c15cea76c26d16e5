/-
  Part of the proof of statement 14
-/
import Derived.Test.YtgggiembljfnhaaGreatDoorC13
import Derived.Test.YtgggiembljfnhaaGreatDoorC14
import Derived.Test.YtgggiembljfnhaaGreatDoorC11
set_option linter.unusedVariables false
set_option linter.unusedSimpArgs false
set_option maxRecDepth 100000
set_option maxHeartbeats 16000000
namespace Go.Proofs.YtgggiembljfnhaaGreatDoor
open Go Go.Av Go.DL
attribute [local congr] aP aJ aK aH aU aM aL aD
attribute [local irreducible] FC bM dX
theorem Ju (a:Nat) (H:aA):Sound Tryz.prog gv 282 [.int .u32 a] H (.ret (.bool false)) H:=by
 refine So aHw (by simp only[sf]) ?_ H;unfold za;dsimp only;simp only[↓zP,zG,seval,zI,Eg]
 (refine Rx ?_;rfl)
theorem Mw (a b:Nat) (H:aA):Sound Tryz.prog gv 220 [.int .u32 a,.int .u32 b] H (.ret (.int .i64 (DT a b))) H:=by
 refine So aGs (by simp only[sf]) ?_ H;unfold xr;dsimp only;simp only[↓zP,zG,seval,zI];refine cT (Ju a _) ?_;simp only[↓zP,zG,seval,zI];refine cT (Ju b _) ?_;simp only[↓zP,zG,seval,zI];refine⟨fun h=>?_,fun h=>⟨fun h2=>?_,fun h2=>?_⟩⟩<;>refine Rx ?_<;>unfold DT
 . rw[if_pos (by omega)];rfl
 . rw[if_neg (by omega),if_pos (by omega)];rfl
 rw[if_neg (by omega),if_neg (by omega)];rfl
theorem KU {a b:Nat} (ha:a<W^16) (hb:b<W^16) (H:aA):Sound Tryz.prog gv 164 [.agg (wC (aZ 16 a)),.agg (wC (aZ 16 b))] H (.ret (.int .i64 (DT a b))) H:=by
 refine So aFo (by simp only[sf]) ?_ H;unfold v8;dsimp only;have la:=iL (.aZ a);have lb:=iL (.aZ b);simp only[↓zP,zG,Nat.reduceLT,Nat.reduceEqDiff,zI];refine aS (jI [5] (fun m vs H'=>vs=[.int .i64 ((m:Int) -1)]/\m<=16/\a / W^m=b / W^m/\H'.get 0=some (.cells (wC (aZ 16 a)) false)/\H'.get 1=some (.cells (wC (aZ 16 b)) false)) 16 (by rfl) ?_ ?_)
 . refine⟨by simp only[sm,zB];rfl,by omega,by rw[Dh ha,Dh hb],by simp only[zI,Nat.reduceEqDiff],by simp only[zI,Nat.reduceEqDiff]⟩
 rintro m f H hk ⟨hv,hm,hd,g0,g1⟩;simp only[sm,Am,Bs] at hv;simp only[↓zP,zG,Nat.reduceLT,zI,hv];refine⟨fun h=>?_,fun h=>?_⟩
 . obtain⟨m,rfl⟩:∃k,m=k+1:=⟨m -1,by omega⟩;have e:((m+1:Nat):Int) -1=(m:Nat):=by omega
   refine aS ?_;simp only[↓zP,e];refine bK (by decide) ?_;simp only[↓zP,zG,Nat.reduceLT,Nat.reduceEqDiff,Nat.reduceAdd,zD,reduceCtorEq,zI,hv,e,hk 2 rfl,hk 3 rfl,aQ,g0,g1,show m<16 by omega,show m+1<=16 by omega,la,lb,iZ (show m<16 by omega)];by_cases cF:bG a m=bG b m
   . simp only[zG,cF,Eg];have w:IntKind.i64.wrap ((m:Int) -1)=(m:Int) -1:=wrap_i64 (by omega) (by omega);exact⟨m,by omega,by rw[w],by omega,Lx hd cF⟩
   have hb:(((bG a m:Nat):Int) != ((bG b m:Nat):Int))=true:=(by simp;omega);simp only[zG,hb];refine bK (by decide) ?_;simp only[↓zP,zG,Nat.reduceLT,Nat.reduceEqDiff,Nat.reduceAdd,zD,reduceCtorEq,zI,hv,e,hk 2 rfl,hk 3 rfl,aQ,g0,g1,show m<16 by omega,show m+1<=16 by omega,la,lb,iZ (show m<16 by omega)];refine rM (Mw (bG a m) (bG b m) _) ?_;simp only[↓zP,zG,Nat.reduceLT,Nat.reduceEqDiff,Nat.reduceAdd,zD,reduceCtorEq,zI];refine Rx ?_;rw[ee hd cF];rfl
 obtain rfl:m=0:=by omega
 simp only[Nat.pow_zero,Nat.div_one] at hd;refine Rx ?_;simp[hd,DT,iW]
theorem k9 {a b:Nat} (ha:a<W^16) (hb:b<W^16) (H:aA):Sound Tryz.prog gv 228 [.agg (wC (aZ 16 a)),.agg (wC (aZ 16 b))] H (.ret (.eZ [.agg (wC (aZ 16 (a+b))),.bool (decide (a+b<W^16))])) H:=by
 refine So aGy (by simp only[sf]) ?_ H;unfold xz;dsimp only;have la:=iL (.aZ a);have lb:=iL (.aZ b);simp only[↓zP,zG,Nat.reduceLT,Nat.reduceEqDiff,Nat.reduceAdd,zI];refine lE [7] (fun i vs H'=>vs=[.int .u64 (cr a b i:Nat)]/\H'.get 0=some (.cells (wC (aZ 16 a)) false)/\H'.get 1=some (.cells (wC (aZ 16 b)) false)/\H'.get 2=some (.cells (wC zs) false)/\H'.get 3=some (.cells (wC (Nw i (aZ 16 (a+b)))) false)) 16 (by decide) rfl (by decide) ?_ ?_ ?_ ?_
 . simp only[zB]
 . refine⟨by simp only[sm,zB,Nat.reduceEqDiff,ek];rfl,?_⟩;rw[Ka];simp only[zG,Nat.reduceEqDiff,Nat.reduceAdd,zI]
 . rintro i f H hi hk e1 ⟨hv,g0,g1,g2,g3⟩;simp only[sm,Am,Bs] at hv;have c1:=nt a b i;have c2:=iJ a i;have c3:=iJ b i;have hW:W=4294967296:=rfl;have w1:IntKind.u64.wrap ((bG a i:Nat):Int)=(bG a i:Nat):=pD (by omega) (.inl rfl);have w2:IntKind.u64.wrap ((bG b i:Nat):Int)=(bG b i:Nat):=pD (by omega) (.inl rfl);have w3:IntKind.u64.wrap (((bG a i:Nat):Int)+(bG b i:Nat))=((bG a i+bG b i:Nat):Int):=pD (by omega) (.inl (by omega));have w4:IntKind.u64.wrap (((cr a b i:Nat):Int)+((bG a i+bG b i:Nat):Int))=((cr a b i+bG a i+bG b i:Nat):Int):=pD (by omega) (.inl (by omega));refine aS ?_;simp only[↓zP,zG,Nat.reduceLT,Nat.reduceEqDiff,e1];refine bK (by decide) ?_;simp only[↓zP,zG,Nat.reduceLT,Nat.reduceEqDiff,Nat.reduceAdd,zD,reduceCtorEq,zI,Int.reduceLT,hv,hk 2 rfl,hk 3 rfl,hk 6 rfl,aQ,g0,g1,g3,hi,show i+1<=16 by omega,la,lb,iZ hi,w1,w2,w3,w4,TM,JR,CM,<-ei];exact⟨g2,by rw[KZ hi (by rw[Yd])]⟩
 rintro f H hk ⟨hv,g0,g1,g2,g3⟩;simp only[sm,Am,Bs] at hv;simp only[↓zP,zG,Nat.reduceEqDiff,zI,hv,hk 6 rfl,hk 4 rfl,g2,g3,MZ,(iL (.aZ (a+b)))]
 have hc:(((cr a b 16:Nat):Int)==0)=decide (a+b<W^16):=by rw[zy ha hb];split<;>rename_i hl<;>simp[hl]
 refine⟨rfl,_,by simp only[↓zP,zR,Nat.reduceEqDiff,hk 4 rfl,iL (.aZ (a+b))];rfl,?_⟩;rw[hc];rfl
theorem aAi (u:Nat):(u:Int).fdiv (2^min (Int.toNat 63) IntKind.u64.bits)=((u / 2^63:Nat):Int):=by show(u:Int).fdiv (2^63)=_;rw[Du _ (by decide)];rfl
theorem QD {a b:Nat} (ha:a<W^16) (hb:b<=a) (H:aA):Sound Tryz.prog gv 229 [.agg (wC (aZ 16 a)),.agg (wC (aZ 16 b))] H (.ret (.agg (wC (aZ 16 (a -b))))) H:=by
 refine So aGz (by simp only[sf]) ?_ H;unfold x7;dsimp only;have la:=iL (.aZ a);have lb:=iL (.aZ b);simp only[↓zP,zG,Nat.reduceLT,Nat.reduceEqDiff,Nat.reduceAdd,zI];refine lE [6] (fun i vs H'=>vs=[.int .u64 (bw a b i:Nat)]/\H'.get 0=some (.cells (wC (aZ 16 a)) false)/\H'.get 1=some (.cells (wC (aZ 16 b)) false)/\H'.get 2=some (.cells (wC zs) false)/\H'.get 3=some (.cells (wC (Nw i (aZ 16 (a -b)))) false)) 16 (by decide) rfl (by decide) ?_ ?_ ?_ ?_
 . simp only[zB]
 . refine⟨by simp only[sm,zB,Nat.reduceEqDiff,dp];rfl,?_⟩;rw[Ka];simp only[zG,Nat.reduceEqDiff,Nat.reduceAdd,zI]
 . rintro i f H hi hk e1 ⟨hv,g0,g1,g2,g3⟩;simp only[sm,Am,Bs] at hv;have c1:bw a b i<=1:=by unfold bw;split<;>omega
   have c2:=iJ a i;have c3:=iJ b i;have c4:=Ye hb i;have c5:=dm a b i;have hW:W=4294967296:=rfl;have w1:IntKind.u64.wrap ((bG a i:Nat):Int)=(bG a i:Nat):=pD (by omega) (.inl rfl);have w2:IntKind.u64.wrap ((bG b i:Nat):Int)=(bG b i:Nat):=pD (by omega) (.inl rfl);obtain⟨D,hD⟩:∃D:Nat,(D:Int)=(((bG a i:Nat):Int) -(bG b i:Nat) -(bw a b i:Nat))%2^64:=⟨((((bG a i:Nat):Int) -(bG b i:Nat) -(bw a b i:Nat))%2^64).toNat,Gi (by omega)⟩
   have w3:IntKind.u64.wrap (IntKind.u64.wrap (((bG a i:Nat):Int) -(bG b i:Nat)) -((bw a b i:Nat):Int))=(D:Int):=by simp only[IntKind.wrap,IntKind.bits,IntKind.signed,hD];simp
   have w4:D / 2^63=bw a b (i+1):=(by rw[c5];split<;>omega);refine aS ?_;simp only[↓zP,zG,Nat.reduceLT,Nat.reduceEqDiff,e1];refine bK (by decide) ?_;simp only[↓zP,zG,Nat.reduceLT,Nat.reduceEqDiff,Nat.reduceAdd,zD,reduceCtorEq,zI,Int.reduceLT,hv,hk 2 rfl,hk 3 rfl,hk 5 rfl,aQ,g0,g1,g3,hi,show i+1<=16 by omega,la,lb,iZ hi,w1,w2,w3,TM,aAi,CM,w4];exact⟨g2,by rw[KZ hi (by rw[c4,hW];omega)]⟩
 rintro f H hk ⟨hv,g0,g1,g2,g3⟩;simp only[sm,Am,Bs] at hv;simp only[↓zP,zG,Nat.reduceEqDiff,zI,hk 5 rfl,hk 4 rfl,g2,g3,MZ,(iL (.aZ (a -b)))];exact⟨rfl,_,by simp only[↓zP,zR,Nat.reduceEqDiff,hk 4 rfl,iL (.aZ (a -b))];rfl,rfl⟩
theorem qF {a:List AV} {x:Option Int} (ha:lS a x) (H:aA):Sound Tryz.prog gv 163 [.bH 1 18 [a]] H (.ret (.bool x.isSome)) H:=by obtain⟨r,rfl,-,hr⟩:=ha.raw;have :=Tl [r] (by simp) H;simpa [hr] using this
theorem vQ {a b:List AV} {x y:Option Int} (ha:lS a x) (hb:lS b y) (H:aA):Sound Tryz.prog gv 163 [.bH 1 18 [a,b]] H (.ret (.bool (x.isSome&&y.isSome))) H:=by obtain⟨r,rfl,-,hr⟩:=ha.raw;obtain⟨q,rfl,-,hq⟩:=hb.raw;have :=Tl [r,q] (by simp) H;simpa [hr,hq] using this
theorem lM {n:Bool} {m:Nat} (hm:m<W^16) {z:Int} (hz:z=sg n m) (H:aA):Sound Tryz.prog gv 167 [.bool n,.agg (wC (aZ 16 m))] H (.ret (.agg (cI z))) H:=by
 have :=EX n (.aZ m) H
 have e:(n&& !decide (aZ 16 m=zs))=decide (z<0):=by
  have h0:aZ 16 m=zs↔m=0:=by rw[<-wF (.aZ m),pV hm]
  subst hz
  cases n with
  |false=>simp[sg]
  |true=>
   by_cases Vl:m=0
   . subst Vl;simp[sg,KB]
   have : -(m:Int)<0:=(by omega);simp only[sg,h0,Vl,this,if_true,Cu,Gn,Il,Ga]
 have e2:z.natAbs=m:=by rw[hz,xL]
 rw[e] at this;unfold cI
 rwa [e2]
theorem TN {a b:List AV} {x y:Option Int} (ha:lS a x) (hb:lS b y) (hxy:(x.isSome&&y.isSome)=false) (H:aA):Sound Tryz.prog gv 172 [.agg a,.agg b] H (.ret (.agg DS)) H:=by have hg:=vQ ha hb;rw[hxy] at hg;refine So rv (by simp only[sf,ha.free,hb.free]) ?_ H;unfold cq;dsimp only;simp only[↓zP,zG,seval,zI,oL ha.len,oL hb.len];refine cT (hg _) ?_;simp only[↓zP,zG,seval,zI];refine cT (yM _) ?_;simp only[↓zP,zG,seval,zI,DS];exact⟨rfl,_,by simp only[↓zP,zR,seval];rfl,rfl⟩
theorem XB {z w:Int} (hz:z.natAbs<W^16) (hw:w.natAbs<W^16) (H:aA):Sound Tryz.prog gv 172 [.agg (cI z),.agg (cI w)] H (.ret (.agg (cO (norm (z+w))))) H:=by
 refine So rv (by simp only[sf,sfI]) ?_ H;unfold cq;dsimp only;have la:=iL (.aZ z.natAbs);have lb:=iL (.aZ w.natAbs);simp only[↓zP,zG,seval,zI];refine cT (vQ (.enc hz) (.enc hw) _) ?_;simp only[↓zP,zG,seval,zI,Br,Cx,cI,la,lb];by_cases hs:decide (z<0)=decide (w<0)
 . simp only[zG,seval,hs,Eu];refine cT (k9 hz hw _) ?_;have hl:=iL (.aZ (z.natAbs+w.natAbs))
   have e:z+w=sg (decide (w<0)) (z.natAbs+w.natAbs):=by by_cases h1:z<0<;>by_cases h2:w<0<;>simp[h1,h2,sg] at hs ⊢ <;>omega
   have e2:(z+w).natAbs=z.natAbs+w.natAbs:=(by rw[e,xL]);simp only[↓zP,zG,seval,zI,hl];refine⟨fun h=>?_,fun h=>?_⟩
   . refine cT (lM h e _) ?_;have hr:norm (z+w)=some (z+w):=(by unfold norm;rw[e2,if_pos h]);have hl:=iL (.aZ (z+w).natAbs);simp only[↓zP,zG,seval,zI,cI,hl];refine⟨rfl,_,by simp only[↓zP,zR,seval,hl];rfl,?_⟩;rw[hr];rfl
   refine cT (yM _) ?_;simp only[↓zP,zG,seval,zI,DS];refine Rx ?_;have hr:norm (z+w)=none:=(by unfold norm;rw[e2,if_neg h]);rw[hr];rfl
 have DG:(decide (z<0)==decide (w<0))=false:=by simpa using hs
 have hb:(z+w).natAbs<W^16:=by generalize W^16=X at *;by_cases h1:z<0<;>by_cases h2:w<0<;>simp[h1,h2] at hs<;>omega
 have hr:norm (z+w)=some (z+w):=by unfold norm;rw[if_pos hb]
 have hl:=iL (.aZ (z+w).natAbs);simp only[zG,seval,DG];refine cT (KU hz hw _) ?_;simp only[↓zP,zG,seval];refine⟨fun h=>?_,fun h=>?_⟩
 . have hle:w.natAbs<=z.natAbs:=by
    unfold DT at h;split at h<;>omega
   have e:z+w=sg (decide (z<0)) (z.natAbs -w.natAbs):=by by_cases h1:z<0<;>by_cases h2:w<0<;>simp[h1,h2,sg] at hs ⊢ <;>omega
   refine bK (by decide) ?_;simp only[↓zP,zG,seval,zD,reduceCtorEq,zI,la,lb];refine rM (QD hz hle _) ?_;simp only[seval];refine rM (lM (Hv (Nat.sub_le _ _) hz) e _) ?_;simp only[↓zP,zG,seval,zD,reduceCtorEq,zI,cI,hl];refine⟨rfl,_,by simp only[↓zP,zR,seval,hl];rfl,?_⟩;rw[hr];rfl
 have hle:z.natAbs<=w.natAbs:=by unfold DT at h;split at h<;>(try split at h)<;>omega
 have e:z+w=sg (decide (w<0)) (w.natAbs -z.natAbs):=by by_cases h1:z<0<;>by_cases h2:w<0<;>simp[h1,h2,sg] at hs ⊢ <;>omega
 refine bK (by decide) ?_;simp only[↓zP,zG,seval,zD,reduceCtorEq,zI,la,lb];refine rM (QD hw hle _) ?_;simp only[seval];refine rM (lM (Hv (Nat.sub_le _ _) hw) e _) ?_;simp only[↓zP,zG,seval,zD,reduceCtorEq,zI,cI,hl];refine⟨rfl,_,by simp only[↓zP,zR,seval,hl];rfl,?_⟩;rw[hr];rfl
theorem XA {a b:List AV} {x y:Option Int} (ha:lS a x) (hb:lS b y) (H:aA):Sound Tryz.prog gv 172 [.agg a,.agg b] H (.ret (.agg (cO (RU x y)))) H:=by
 cases x with
 |none=>exact TN ha hb rfl H
 |some z=>cases y with
  |none=>exact TN ha hb rfl H
  |some w=>obtain⟨rfl,hz⟩:=ha.some;obtain⟨rfl,hw⟩:=hb.some;exact XB hz hw H
theorem RO {a:List AV} {x:Option Int} (ha:lS a x) (H:aA):Sound Tryz.prog gv 222 [.agg a] H (.ret (.agg (cO (SY x)))) H:=by
 refine So aGu (by simp only[sf,ha.free]) ?_ H;unfold xu;dsimp only;simp only[↓zP,zG,seval,zI,oL ha.len];refine cT (qF ha _) ?_
 cases x with
 |none=>simp only[↓zP,zG,seval,zI,Ca];refine cT (yM _) ?_;simp only[↓zP,zG,seval,zI,DS];exact⟨rfl,_,by simp only[↓zP,zR,seval];rfl,rfl⟩
 |some z=>obtain⟨rfl,hz⟩:=ha.some;have la:=iL (.aZ z.natAbs);have hl:=iL (.aZ (-z).natAbs);simp only[↓zP,zG,seval,zI,Br,cI,la];refine cT (lM (n:= !decide (z<0)) hz (z:= -z) (by by_cases h:z<0<;>simp[sg,h]<;>omega) _) ?_;simp only[↓zP,zG,seval,zI,cI,hl];exact⟨rfl,_,by simp only[↓zP,zR,seval,hl];rfl,rfl⟩
theorem uh {a b:List AV} {x y:Option Int} (ha:lS a x) (hb:lS b y) (H:aA):Sound Tryz.prog gv 281 [.agg a,.agg b] H (.ret (.agg (cO (RU x (SY y))))) H:=by
 refine So aHv (by simp only[sf,ha.free,hb.free]) ?_ H;unfold y9;dsimp only;simp only[↓zP,zG,seval,zI];refine bK (by decide) ?_;simp only[↓zP,zG,seval,zD,reduceCtorEq,zI,oL ha.len,oL hb.len];refine rM (RO hb _) ?_;simp only[seval];refine rM (XA ha hb.neg _) ?_;simp only[↓zP,zG,seval,zD,reduceCtorEq,zI]
 (refine Rx ?_;rfl)
theorem CX (a:Nat) (H:aA):Sound Tryz.prog gv 224 [.agg (wC (aZ 16 a))] H (.ret (.int .i64 (sz a:Nat))) H:=by
 refine So so (by simp only[sf]) ?_ H;unfold cz;dsimp only;have la:=iL (.aZ a);simp only[↓zP,zG,Nat.reduceLT,zI];refine aS (jI [3] (fun m vs H'=>vs=[.int .i64 (m:Nat)]/\m<=16/\UW m a=sz a/\H'.get 0=some (.cells (wC (aZ 16 a)) false)) 16 (by rfl) ?_ ?_)
 . refine⟨by simp only[sm,zB];rfl,by omega,rfl,by simp only[zI]⟩
 rintro m f H hk ⟨hv,hm,hd,g0⟩;simp only[sm,Am,Bs] at hv;simp only[↓zP,zG,Nat.reduceLT,Nat.reduceEqDiff,zI,hv]
 cases m with
 |zero=>simp only[zG,zI,show decide (((0:Nat):Int)>0)=false from rfl];refine Rx ?_;rw[<-hd];rfl
 |succ m=>
  have w:IntKind.i64.wrap (((m+1:Nat):Int) -1)=(m:Nat):=by rw[wrap_i64 (by omega) (by omega)];omega
  simp only[↓zP,zG,Nat.reduceEqDiff,zI,show decide (((m+1:Nat):Int)>0)=true from Bk (by omega),hk 1 rfl,w,aQ,g0,show m<16 by omega,show m+1<=16 by omega,la,iZ (show m<16 by omega)];by_cases hz:bG a m=0
  . simp only[zG,hz,show(((0:Nat):Int)==0)=true from rfl];refine aS ?_;simp only[↓zP,zG,Nat.reduceLT,Nat.reduceEqDiff,hv,w];refine⟨m,by omega,rfl,by omega,by rw[<-hd,UW,if_pos hz],g0⟩
  have hb:(((bG a m:Nat):Int)==0)=false:=by simp;omega
  simp only[zG,hb];refine Rx ?_;rw[<-hd,UW,if_neg hz];rfl
theorem CA:∀b:Nat,b<256->([0,1,2,2,3,3,3,3,4,4,4,4,4,4,4,4,5,5,5,5,5,5,5,5,5,5,5,5,5,5,5,5,6,6,6,6,6,6,6,6,6,6,6,6,6,6,6,6,6,6,6,6,6,6,6,6,6,6,6,6,6,6,6,6,7,7,7,7,7,7,7,7,7,7,7,7,7,7,7,7,7,7,7,7,7,7,7,7,7,7,7,7,7,7,7,7,7,7,7,7,7,7,7,7,7,7,7,7,7,7,7,7,7,7,7,7,7,7,7,7,7,7,7,7,7,7,7,7,8,8,8,8,8,8,8,8,8,8,8,8,8,8,8,8,8,8,8,8,8,8,8,8,8,8,8,8,8,8,8,8,8,8,8,8,8,8,8,8,8,8,8,8,8,8,8,8,8,8,8,8,8,8,8,8,8,8,8,8,8,8,8,8,8,8,8,8,8,8,8,8,8,8,8,8,8,8,8,8,8,8,8,8,8,8,8,8,8,8,8,8,8,8,8,8,8,8,8,8,8,8,8,8,8,8,8,8,8,8,8,8,8,8,8,8,8,8,8,8,8,8,8,8,8,8,8,8]:List UInt8)[b]?=some (UInt8.ofNat (eD b)):=by decide+kernel
theorem oh (u k:Nat) (kk:IntKind) (hk:k<=kk.bits):(u:Int).fdiv (2^min (Int.toNat k) kk.bits)=((u / 2^k:Nat):Int):=by rw[show min (Int.toNat k) kk.bits=k by simp;omega,Du _ (by exact_mod_cast Cs _)];simp
theorem HT {b n:Nat} (hb:b<256) (hn:n<=24):IntKind.i64.wrap ((n:Int)+IntKind.i64.wrap ((UInt8.ofNat (eD b)).toNat:Int))=((n+eD b:Nat):Int):=by
 have h1:eD b<=8:=lT.2 hb;have h2:(UInt8.ofNat (eD b)).toNat=eD b:=by simp;omega
 have h3:IntKind.i64.wrap ((eD b:Nat):Int)=(eD b:Nat):=wrap_i64 (by omega) (by omega);rw[h2,h3,wrap_i64 (by omega) (by omega)];simp
theorem wu8 {b:Nat} (hb:b<256):IntKind.u8.wrap (b:Int)=(b:Int):=by simp only[IntKind.wrap,IntKind.bits,IntKind.signed];simp;omega
theorem XI {a:Nat} (ha:a<W) (H:aA):Sound Tryz.prog gv 256 [.int .u32 a] H (.ret (.int .i64 (eD a:Nat))) H:=by
 refine So sq (by simp only[sf]) ?_ H;unfold da;dsimp only;have hW:W=4294967296:=rfl;simp only[↓zP,zG,Nat.reduceLT,Nat.reduceEqDiff,zI,Int.reduceLT];have f16:∀u:Nat,(u:Int).fdiv (2^min (Int.toNat 16) IntKind.u32.bits)=((u / 2^16:Nat):Int):=fun u=>oh u 16 .u32 (by decide);have f8:∀u:Nat,(u:Int).fdiv (2^min (Int.toNat 8) IntKind.u32.bits)=((u / 2^8:Nat):Int):=fun u=>oh u 8 .u32 (by decide);have w24:IntKind.i64.wrap (16+8)=((24:Nat):Int):=by decide
 have w8:IntKind.i64.wrap (0+8)=((8:Nat):Int):=by decide
 refine⟨fun h=>?_,fun h=>?_⟩
 . simp only[f16];refine⟨fun h2=>?_,fun h2=>?_⟩
   . have hb:a / 2^16 / 2^8<256:=(by omega);simp only[↓zP,zG,zI,f8,wu8 hb,aQ,CA _ hb,w24,HT hb (show 24<=24 by omega)];refine Rx ?_
     have e:eD a=24+eD (a / 2^16 / 2^8):=by rw[Gs,<-Ib,pK (k:=16+8) (by omega)];omega
     rw[e];rfl
   have hb:a / 2^16<256:=(by omega);have :=HT hb (show 16<=24 by omega);simp only[↓zP,zG,zI,wu8 hb,aQ,CA _ hb];refine Rx ?_;have e:eD a=16+eD (a / 2^16):=(by rw[pK (k:=16) (by omega)];omega);rw[e,<-this];rfl
 refine⟨fun h2=>?_,fun h2=>?_⟩
 . have hb:a / 2^8<256:=by omega
   simp only[↓zP,zG,zI,f8,wu8 hb,aQ,CA _ hb,w8,HT hb (show 8<=24 by omega)];refine Rx ?_;have e:eD a=8+eD (a / 2^8):=(by rw[pK (k:=8) (by omega)];omega);rw[e];rfl
 have hb:a<256:=by omega
 have :=HT hb (show 0<=24 by omega);simp only[↓zP,zG,zI,wu8 hb,aQ,CA _ hb];refine Rx ?_;rw[Cc] at this;rw[<-this];rfl
theorem oj {α:Type} (a b d:α) (l:List α) (k:Nat):(a::b::l).getD (2+k) d=l.getD k d:=by rw[Gc];rfl
def XU:Option Int->Nat
 |some z=>eD z.natAbs
 |none=>0
theorem bo {a:List AV} {x:Option Int} (ha:lS a x) (H:aA):Sound Tryz.prog gv 190 [.agg a] H (.ret (.int .i64 (XU x:Nat))) H:=by
 refine So rz (by simp only[sf,ha.free]) ?_ H;unfold cu;dsimp only;obtain⟨r,rfl,hx,-⟩:=ha.raw;have hr:=UL r.hl;have lr:=EK r.hl;have hs:=CX (zZ r.l);rw[lr] at hs;have Nc:=qF ha;rw[show r.cells=.bool r.b::.bool r.n::wC r.l from rfl] at Nc;simp only[↓zP,zG,seval,zI,uX.cells,iL r.hl];refine cT (hs _) ?_;simp only[↓zP,zG,seval,zI,iL r.hl];refine cT (Nc _) ?_
 cases x with
 |none=>simp only[↓zP,zG,seval,zI,Ca];exact⟨rfl,_,by simp only[↓zP,zR,seval];rfl,rfl⟩
 |some z=>
  have hz:=ha.fit;obtain⟨hb,hn,hl,-⟩:=Mn r.hl hx.symm;have ez:zZ r.l=z.natAbs:=by rw[hl,pV hz]
  rw[ez];by_cases h0:sz z.natAbs=0
  . simp only[↓zP,zG,seval,zI,Br,h0];refine Rx ?_;rw[XU,(ma hz).1 h0];rfl
  have hb:(((sz z.natAbs:Nat):Int)==0)=false:=by simp;omega
  have l16:=Zg z.natAbs;have w1:IntKind.i64.wrap (((sz z.natAbs:Nat):Int) -1)=((sz z.natAbs -1:Nat):Int):=by rw[wrap_i64 (by omega) (by omega)];omega
  have w2:IntKind.i64.wrap (32*((sz z.natAbs -1:Nat):Int))=((32*(sz z.natAbs -1):Nat):Int):=by rw[wrap_i64 (by omega) (by omega)];simp
  have hg:(wC r.l).getD (sz z.natAbs -1) aC=.int .u32 (bG z.natAbs (sz z.natAbs -1)):=by rw[hl,iZ (by omega)]
  have To:eD (bG z.natAbs (sz z.natAbs -1))<=32:=lT.2 (iJ _ _)
  have w3:IntKind.i64.wrap (((32*(sz z.natAbs -1):Nat):Int)+(eD (bG z.natAbs (sz z.natAbs -1)):Nat))=((eD z.natAbs:Nat):Int):=by rw[wrap_i64 (by omega) (by omega),VD hz h0];simp
  simp only[↓zP,zG,seval,zI,Br,hb,w1,w2,aQ,show sz z.natAbs -1<16 by omega,show 2+(sz z.natAbs -1)<=17 by omega,iL r.hl,oj,hg];refine cT (XI (iJ z.natAbs (sz z.natAbs -1)) _) ?_;simp only[↓zP,zG,seval,w3]
  (refine Rx ?_;rfl)
def nW:Option Int->Int×Bool
 |some z=>if -2^63<=z/\z<2^63 then(z,true) else(0,false)
 |none=>(0,false)
theorem aCg {a b:Nat} (ha:a<4294967296) (hb:b<4294967296):nG .or .u64 (IntKind.u64.wrap (((a:Nat):Int)*2^(min (Int.toNat 32) IntKind.u64.bits))) ((b:Nat):Int)=some (.int .u64 ((a*4294967296+b:Nat):Int)):=by
 have e:IntKind.u64.wrap (((a:Nat):Int)*2^(min (Int.toNat 32) IntKind.u64.bits))=((a*4294967296:Nat):Int):=by show IntKind.u64.wrap (((a:Nat):Int)*4294967296)=_;exact pD (by omega) (by omega)
 rw[e]
 have e2:(a*4294967296|||b)=a*4294967296+b:=by have :=Nat.two_pow_add_eq_or_of_lt (i:=32) hb a;rw[Cn] at this;exact this.symm
 have e3:∀n:Nat,BitVec.ofInt 64 (n:Int)=BitVec.ofNat 64 n:=fun n=>by simp
 simp only[nG];congr 2;rw[show IntKind.u64.bits=64 from rfl,e3,e3,<-BitVec.ofNat_or,e2,Ey,Bz (by omega)];exact pD (by omega) (.inl rfl)
theorem IT {a:List AV} {x:Option Int} (ha:lS a x) (H:aA):Sound Tryz.prog gv 215 [.agg a] H (.ret (.eZ [.int .i64 (nW x).1,.bool (nW x).2])) H:=by
 refine So aGp (by simp only[sf,ha.free]) ?_ H;unfold xo;dsimp only;simp only[↓zP,zG,Nat.reduceLT,Nat.reduceEqDiff,zI,oL ha.len];refine cT (qF ha _) ?_
 cases x with
 |none=>simp only[↓zP,zG,Nat.reduceLT,Nat.reduceEqDiff,zI,Ca];exact⟨rfl,_,by simp only[↓zP,zR,Nat.reduceEqDiff];rfl,rfl⟩
 |some z=>
  obtain⟨rfl,hz⟩:=ha.some;have la:=iL (.aZ z.natAbs);have hW:W=4294967296:=rfl;have hW2:W^2=2^64:=rfl;simp only[↓zP,zG,Nat.reduceLT,Nat.reduceEqDiff,zI,Br];refine cT (bo ha _) ?_;simp only[↓zP,zG,Nat.reduceLT,Nat.reduceEqDiff,zI,XU];refine⟨fun h=>?_,fun h=>?_⟩
  . have :¬z.natAbs<2^64:=fun hh=>by have :=lT.2 hh;omega
    refine Rx ?_;rw[nW,if_neg (by omega)];rfl
  have eW:z.natAbs<2^64:=lT.1 (by omega);have e0:(wC (aZ 16 z.natAbs)).getD 0 aC=.int .u32 (bG z.natAbs 0:Nat):=iZ (by omega);have e1:(wC (aZ 16 z.natAbs)).getD 1 aC=.int .u32 (bG z.natAbs 1:Nat):=iZ (by omega);have h0:=iJ z.natAbs 0;have h1:=iJ z.natAbs 1;have w0:IntKind.u64.wrap ((bG z.natAbs 0:Nat):Int)=(bG z.natAbs 0:Nat):=pD (by omega) (.inl rfl);have w1:IntKind.u64.wrap ((bG z.natAbs 1:Nat):Int)=(bG z.natAbs 1:Nat):=pD (by omega) (.inl rfl)
  have et:bG z.natAbs 1*W+bG z.natAbs 0=z.natAbs:=by have h2:bG z.natAbs 0=z.natAbs%W:=(by simp[bG]);have h3:bG z.natAbs 1=z.natAbs / W:=(by unfold bG;rw[Nat.pow_one,hW,Bz (by omega)]);rw[h2,h3,Cn];exact Em _ _
  have ho:=aCg h1 h0;rw[hW] at et;rw[et] at ho;unfold cI;simp only[↓zP,zG,Nat.reduceLT,Nat.reduceAdd,zI,Nat.reduceLeDiff,Int.reduceLT,la,TT,e0,e1,w0,w1,ho];refine aS ?_;by_cases iy:z<0
  . simp only[↓zP,zG,Nat.reduceLT,Nat.reduceEqDiff,Nat.reduceAdd,zI,Nat.reduceLeDiff,Bk iy,la];refine⟨fun h4=>?_,fun h4=>?_⟩
    . have w2:IntKind.u64.wrap (0 -((z.natAbs:Nat):Int))=((2^64 -z.natAbs:Nat):Int):=pD (by omega) (by omega)
      have w3:IntKind.i64.wrap ((2^64 -z.natAbs:Nat):Int)=z:=by simp only[IntKind.wrap,IntKind.bits,IntKind.signed];simp;omega
      refine⟨rfl,_,by simp only[↓zP,zR,Nat.reduceEqDiff,w2,w3];rfl,?_⟩;rw[nW,if_pos (by omega)];rfl
    refine Rx ?_;rw[nW,if_neg (by omega)];rfl
  simp only[↓zP,zG,Nat.reduceLT,Nat.reduceEqDiff,Nat.reduceAdd,zI,Nat.reduceLeDiff,As iy,la];refine⟨fun h4=>?_,fun h4=>?_⟩
  . have w3:IntKind.i64.wrap ((z.natAbs:Nat):Int)=z:=by
     rw[wrap_i64 (by omega) (by omega)];omega
    refine⟨rfl,_,by simp only[↓zP,zR,Nat.reduceEqDiff,w3];rfl,?_⟩;rw[nW,if_pos (by omega)];rfl
  refine Rx ?_;rw[nW,if_neg (by omega)];rfl
def uM:Option Int->Int
 |some z=>if z<0 then -1 else if z=0 then 0 else 1
 |none=>0
def aCz:Option Int->Option Int
 |some z=>some z.natAbs
 |none=>none
def PB:Option Int->Option Int->Int
 |some x,some y=>if x<y then -1 else if y<x then 1 else 0
 |none,none=>0
 |none,_=> -1
 |_,none=>1
theorem vX {n:Nat} (h:n<W^16):aZ 16 n=zs↔n=0:=by rw[<-wF (.aZ n),pV h]
theorem HK {a:List AV} {x:Option Int} (ha:lS a x) (H:aA):Sound Tryz.prog gv 177 [.agg a] H (.ret (.int .i64 (uM x))) H:=by
 refine So aFx (by simp only[sf,ha.free]) ?_ H;unfold wm;dsimp only;simp only[↓zP,zG,seval,zI];refine aS ?_;simp only[↓zP,zG,seval,zI,oL ha.len];refine cT (qF ha _) ?_
 cases x with
 |none=>simp only[↓zP,zG,seval,zI,Ca];exact⟨rfl,_,by simp only[↓zP,zR,seval];rfl,rfl⟩
 |some z=>
  obtain⟨rfl,hz⟩:=ha.some;have la:=iL (.aZ z.natAbs);unfold cI;by_cases iy:z<0
  . have he:decide (aZ 16 z.natAbs=zs)=false:=by rw[As];rw[vX hz];omega
    simp only[↓zP,zG,seval,zI,Br,la,he,Bk iy];refine Rx ?_;rw[uM,if_pos iy];rfl
  by_cases h1:z=0
  . subst h1;simp only[↓zP,zG,seval,zI,Br];exact⟨rfl,_,by simp only[↓zP,zR,seval];rfl,rfl⟩
  have he:decide (aZ 16 z.natAbs=zs)=false:=by rw[As];rw[vX hz];omega
  simp only[↓zP,zG,seval,zI,Br,la,he,As iy];refine Rx ?_;rw[uM,if_neg iy,if_neg h1];rfl
theorem tu {a:List AV} {x:Option Int} (ha:lS a x) (H:aA):Sound Tryz.prog gv 226 [.agg a] H (.ret (.agg (cO (aCz x)))) H:=by
 refine So aGw (by simp only[sf,ha.free]) ?_ H;unfold xx;dsimp only;simp only[↓zP,zG,seval,zI,oL ha.len];refine cT (qF ha _) ?_
 cases x with
 |none=>simp only[↓zP,zG,seval,zI,Ca];refine cT (yM _) ?_;simp only[↓zP,zG,seval,zI];exact⟨rfl,_,by simp only[↓zP,zR,seval];rfl,rfl⟩
 |some z=>obtain⟨rfl,hz⟩:=ha.some;have la:=iL (.aZ z.natAbs);unfold cI;simp only[↓zP,zG,seval,zI,Br,la];refine cT (lM (n:=false) hz (z:=(z.natAbs:Int)) rfl _) ?_;simp only[↓zP,zG,seval,zI];exact⟨rfl,_,by simp only[↓zP,zR,seval];rfl,rfl⟩
theorem tw {a b:List AV} {x y:Option Int} (ha:lS a x) (hb:lS b y) (H:aA):Sound Tryz.prog gv 126 [.agg a,.agg b] H (.ret (.int .i64 (PB x y))) H:=by
 refine So aEx (by simp only[sf,ha.free,hb.free]) ?_ H;unfold u5;dsimp only;refine aB fun K hK=>?_;simp only[↓zP,zG,seval,zI];apply hK;clear hK K;refine aB fun K hK=>?_;refine bK (by decide) ?_;simp only[↓zP,zG,seval,zD,reduceCtorEq,zI,oL ha.len];refine rM (qF ha _) ?_;simp only[↓zP,zG,seval,zD,reduceCtorEq,zI,oL hb.len];refine rM (qF hb _) ?_;simp only[↓zP,zG,seval,zD,reduceCtorEq,zI];apply hK;clear hK K;refine aB fun K hK=>?_;refine aS ?_
 cases x with
 |none=>
  cases y<;>
  . simp only[↓zP,zG,seval,zI,Ca,Br];exact⟨rfl,_,by simp only[↓zP,zR,seval];rfl,rfl⟩
 |some z=>cases y with
  |none=>simp only[↓zP,zG,seval,zI,Ca,Br];exact⟨rfl,_,by simp only[↓zP,zR,seval];rfl,rfl⟩
  |some w=>
   obtain⟨rfl,hz⟩:=ha.some;obtain⟨rfl,hw⟩:=hb.some;have la:=iL (.aZ z.natAbs);have lb:=iL (.aZ w.natAbs);unfold cI;by_cases h1:z<0<;>by_cases h2:w<0
   . simp only[↓zP,zG,seval,zI,Br,Bk h1,Bk h2,la,lb];refine cT (KU hw hz _) ?_;simp only[↓zP,zG,seval];refine⟨rfl,_,by simp only[↓zP,zR,seval];rfl,?_⟩
     have e:PB (some z) (some w)=DT w.natAbs z.natAbs:=by
      simp only[PB,DT]
      repeat' split
      all_goals first|rfl|omega
     rw[e];rfl
   . simp only[↓zP,zG,seval,zI,Br,Bk h1,As h2,la,lb];refine⟨rfl,_,by simp only[↓zP,zR,seval];rfl,?_⟩;rw[PB,if_pos (by omega)];rfl
   . simp only[↓zP,zG,seval,zI,Br,As h1,Bk h2,la,lb];refine⟨rfl,_,by simp only[↓zP,zR,seval];rfl,?_⟩;rw[PB,if_neg (by omega),if_pos (by omega)];rfl
   simp only[↓zP,zG,seval,zI,Br,As h1,As h2,la,lb];apply hK;simp only[↓zP,zG,seval,zI,la,lb];refine cT (KU hz hw _) ?_;simp only[↓zP,zG,seval];refine⟨rfl,_,by simp only[↓zP,zR,seval];rfl,?_⟩
   have e:PB (some z) (some w)=DT z.natAbs w.natAbs:=by
    simp only[PB,DT]
    repeat' split
    all_goals first|rfl|omega
   rw[e];rfl

end Go.Proofs.YtgggiembljfnhaaGreatDoor
