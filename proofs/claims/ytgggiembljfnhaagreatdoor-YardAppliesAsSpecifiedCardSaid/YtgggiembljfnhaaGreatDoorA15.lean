/-
  Part of the proof of statement 11
-/
import Derived.Test.YtgggiembljfnhaaGreatDoorA13
import Derived.Test.YtgggiembljfnhaaGreatDoorA14
import Derived.Test.YtgggiembljfnhaaGreatDoorA11
set_option linter.unusedVariables false
set_option maxRecDepth 100000
set_option maxHeartbeats 16000000
namespace Go.Proofs.YtgggiembljfnhaaGreatDoor
open Go Go.Av Go.uG
attribute [local congr] aT aI aM aH aW aQ aN aF aX
attribute [local irreducible] FC bS eG
theorem Ny (a:Nat) (H:aA):Sg 282 [.int .u32 a] H (.ret (.bool false)) H:=by
 refine So bAi Zah ?_ H;unfold aPg;dsimp only;simp only[↓zP,zJ,seval,bne_self_eq_false]
 (refine Rx ?_;rfl)
theorem Rm (a b:Nat) (H:aA):Sg 220 [.int .u32 a,.int .u32 b] H (.ret (.int .i64 (JZ a b))) H:=by
 refine So aYr Zah ?_ H;unfold aNp;dsimp only;refine Ty ?_;refine bZ (Ny a _) ?_;refine Ty ?_;refine bZ (Ny b _) ?_;refine Ty ?_;refine⟨fun h=>?_,fun h=>⟨fun h2=>?_,fun h2=>?_⟩⟩<;>refine Rx ?_<;>unfold JZ
 . rw[if_pos (by omega)];rfl
 . rw[if_neg (by omega),if_pos (by omega)];rfl
 rw[if_neg (by omega),if_neg (by omega)];rfl
theorem OZ {a b:Nat} (ha:a<W^16) (hb:b<W^16) (H:aA):Sg 164 [.agg (wC (bJ 16 a)),.agg (wC (bJ 16 b))] H (.ret (.int .i64 (JZ a b))) H:=by
 refine So aXg Zah ?_ H;unfold aMe;dsimp only;have la:=iL (.bJ a);have lb:=iL (.bJ b);simp only[↓zP,zJ,Nat.reduceLT,Nat.reduceEqDiff];refine aL (iM [5] (fun m vs H'=>vs=[.int .i64 ((m:Int) -1)]/\m<=16/\a / W^m=b / W^m/\H'.get 0=some (.cells (wC (bJ 16 a)) false)/\H'.get 1=some (.cells (wC (bJ 16 b)) false)) 16 (by rfl) ?_ ?_)
 . refine⟨by simp only[sm,zB];rfl,by omega,by rw[Eg ha,Eg hb],by simp only[zI,Nat.reduceEqDiff],by simp only[zI,Nat.reduceEqDiff]⟩
 rintro m f H hk ⟨hv,hm,hd,g0,g1⟩;simp only[zM] at hv;simp only[↓zP,zJ,Nat.reduceLT,hv];refine⟨fun h=>?_,fun h=>?_⟩
 . obtain⟨m,rfl⟩:∃k,m=k+1:=⟨m -1,by omega⟩;have e:((m+1:Nat):Int) -1=(m:Nat):=by omega
   refine aL ?_;simp only[↓zP,e];refine Dz ?_;simp only[↓zP,zJ,Nat.reduceLT,Nat.reduceEqDiff,Nat.reduceAdd,zD,reduceCtorEq,hv,e,hk 2 rfl,hk 3 rfl,aB,g0,g1,show m<16 by omega,show m+1<=16 by omega,la,lb,lE (show m<16 by omega)];by_cases cP:bL a m=bL b m
   . simp only[zG,cP,bne_self_eq_false];have w:IntKind.i64.wrap ((m:Int) -1)=(m:Int) -1:=wrap_i64 (by omega) (by omega);exact⟨m,by omega,by rw[w],by omega,QZ hd cP⟩
   have hb:(((bL a m:Nat):Int) != ((bL b m:Nat):Int))=true:=Zai;simp only[zG,hb];refine Dz ?_;simp only[↓zP,zJ,Nat.reduceLT,Nat.reduceEqDiff,Nat.reduceAdd,zD,reduceCtorEq,hv,e,hk 2 rfl,hk 3 rfl,aB,g0,g1,show m<16 by omega,show m+1<=16 by omega,la,lb,lE (show m<16 by omega)];refine fH (Rm (bL a m) (bL b m) _) ?_;simp only[↓zP,zJ,Nat.reduceLT,Nat.reduceEqDiff,Nat.reduceAdd,zD,reduceCtorEq];refine Rx ?_;rw[aDv hd cP];rfl
 obtain rfl:m=0:=by omega
 simp only[Nat.pow_zero,Nat.div_one] at hd;refine Rx ?_;simp[hd,JZ,nZ]
theorem aGu {a b:Nat} (ha:a<W^16) (hb:b<W^16) (H:aA):Sg 228 [.agg (wC (bJ 16 a)),.agg (wC (bJ 16 b))] H (.ret (.iA [.agg (wC (bJ 16 (a+b))),.bool (decide (a+b<W^16))])) H:=by
 refine So aYx Zah ?_ H;unfold aNv;dsimp only;have la:=iL (.bJ a);have lb:=iL (.bJ b);simp only[↓zP,zJ,Nat.reduceLT,Nat.reduceEqDiff,Nat.reduceAdd];refine jI [7] (fun i vs H'=>vs=[.int .u64 (cr a b i:Nat)]/\H'.get 0=some (.cells (wC (bJ 16 a)) false)/\H'.get 1=some (.cells (wC (bJ 16 b)) false)/\H'.get 2=some (.cells (wC zs) false)/\H'.get 3=some (.cells (wC (TE i (bJ 16 (a+b)))) false)) 16 (by decide) rfl (by decide) ?_ ?_ ?_ ?_
 . simp only[zB]
 . refine⟨by simp only[sm,zB,Nat.reduceEqDiff,aDz];rfl,?_⟩;rw[Od];simp only[zJ,Nat.reduceEqDiff,Nat.reduceAdd]
 . rintro i f H hi hk e1 ⟨hv,g0,g1,g2,g3⟩;simp only[zM] at hv;have c1:=aIg a b i;have c2:=jP a i;have c3:=jP b i;have hW:W=4294967296:=rfl;have w1:IntKind.u64.wrap ((bL a i:Nat):Int)=(bL a i:Nat):=rW (by omega) (.inl rfl);have w2:IntKind.u64.wrap ((bL b i:Nat):Int)=(bL b i:Nat):=rW (by omega) (.inl rfl);have w3:IntKind.u64.wrap (((bL a i:Nat):Int)+(bL b i:Nat))=((bL a i+bL b i:Nat):Int):=rW (by omega) (.inl (by omega));have w4:IntKind.u64.wrap (((cr a b i:Nat):Int)+((bL a i+bL b i:Nat):Int))=((cr a b i+bL a i+bL b i:Nat):Int):=rW (by omega) (.inl (by omega));refine aL ?_;simp only[↓zP,zG,Nat.reduceLT,Nat.reduceEqDiff,e1];refine Dz ?_;simp only[↓zP,zJ,Nat.reduceLT,Nat.reduceEqDiff,Nat.reduceAdd,zD,reduceCtorEq,Int.reduceLT,hv,hk 2 rfl,hk 3 rfl,hk 6 rfl,aB,g0,g1,g3,hi,show i+1<=16 by omega,la,lb,lE hi,w1,w2,w3,w4,Yw,NW,IS,<-aDy];exact⟨g2,by rw[Oc hi (by rw[ya])]⟩
 rintro f H hk ⟨hv,g0,g1,g2,g3⟩;simp only[zM] at hv;simp only[↓zP,zJ,Nat.reduceEqDiff,hv,hk 6 rfl,hk 4 rfl,g2,g3,RM,(iL (.bJ (a+b)))]
 have hc:(((cr a b 16:Nat):Int)==0)=decide (a+b<W^16):=by rw[aQw ha hb];split<;>rename_i hl<;>simp[hl]
 refine⟨rfl,_,by simp only[↓zP,zR,Nat.reduceEqDiff,hk 4 rfl,iL (.bJ (a+b))];rfl,?_⟩;rw[hc];rfl
theorem aRd (u:Nat):(u:Int).fdiv (2^min (Int.toNat 63) IntKind.u64.bits)=((u / 2^63:Nat):Int):=by show(u:Int).fdiv (2^63)=_;rw[Jc _ (by decide)];rfl
theorem VI {a b:Nat} (ha:a<W^16) (hb:b<=a) (H:aA):Sg 229 [.agg (wC (bJ 16 a)),.agg (wC (bJ 16 b))] H (.ret (.agg (wC (bJ 16 (a -b))))) H:=by
 refine So aYy Zah ?_ H;unfold aNw;dsimp only;have la:=iL (.bJ a);have lb:=iL (.bJ b);simp only[↓zP,zJ,Nat.reduceLT,Nat.reduceEqDiff,Nat.reduceAdd];refine jI [6] (fun i vs H'=>vs=[.int .u64 (bw a b i:Nat)]/\H'.get 0=some (.cells (wC (bJ 16 a)) false)/\H'.get 1=some (.cells (wC (bJ 16 b)) false)/\H'.get 2=some (.cells (wC zs) false)/\H'.get 3=some (.cells (wC (TE i (bJ 16 (a -b)))) false)) 16 (by decide) rfl (by decide) ?_ ?_ ?_ ?_
 . simp only[zB]
 . refine⟨by simp only[sm,zB,Nat.reduceEqDiff,aDl];rfl,?_⟩;rw[Od];simp only[zJ,Nat.reduceEqDiff,Nat.reduceAdd]
 . rintro i f H hi hk e1 ⟨hv,g0,g1,g2,g3⟩;simp only[zM] at hv;have c1:bw a b i<=1:=by unfold bw;split<;>omega
   have c2:=jP a i;have c3:=jP b i;have c4:=yc hb i;have c5:=aDk a b i;have hW:W=4294967296:=rfl;have w1:IntKind.u64.wrap ((bL a i:Nat):Int)=(bL a i:Nat):=rW (by omega) (.inl rfl);have w2:IntKind.u64.wrap ((bL b i:Nat):Int)=(bL b i:Nat):=rW (by omega) (.inl rfl);obtain⟨D,hD⟩:∃D:Nat,(D:Int)=(((bL a i:Nat):Int) -(bL b i:Nat) -(bw a b i:Nat))%2^64:=⟨((((bL a i:Nat):Int) -(bL b i:Nat) -(bw a b i:Nat))%2^64).toNat,Ke (by omega)⟩
   have w3:IntKind.u64.wrap (IntKind.u64.wrap (((bL a i:Nat):Int) -(bL b i:Nat)) -((bw a b i:Nat):Int))=(D:Int):=by simp only[IntKind.wrap,IntKind.bits,IntKind.signed,hD];simp
   have w4:D / 2^63=bw a b (i+1):=(by rw[c5];split<;>omega);refine aL ?_;simp only[↓zP,zG,Nat.reduceLT,Nat.reduceEqDiff,e1];refine Dz ?_;simp only[↓zP,zJ,Nat.reduceLT,Nat.reduceEqDiff,Nat.reduceAdd,zD,reduceCtorEq,Int.reduceLT,hv,hk 2 rfl,hk 3 rfl,hk 5 rfl,aB,g0,g1,g3,hi,show i+1<=16 by omega,la,lb,lE hi,w1,w2,w3,Yw,aRd,IS,w4];exact⟨g2,by rw[Oc hi (by rw[c4,hW];omega)]⟩
 rintro f H hk ⟨hv,g0,g1,g2,g3⟩;simp only[zM] at hv;simp only[↓zP,zJ,Nat.reduceEqDiff,hk 5 rfl,hk 4 rfl,g2,g3,RM,(iL (.bJ (a -b)))];exact⟨rfl,_,by simp only[↓zP,zR,Nat.reduceEqDiff,hk 4 rfl,iL (.bJ (a -b))];rfl,rfl⟩
theorem tN {a:List AV} {x:Option Int} (ha:mA a x) (H:aA):Sg 163 [.bB 1 18 [a]] H (.ret (.bool x.isSome)) H:=by obtain⟨r,rfl,-,hr⟩:=ha.raw;have :=ZX [r] (by simp) H;simpa [hr] using this
theorem AL {a b:List AV} {x y:Option Int} (ha:mA a x) (hb:mA b y) (H:aA):Sg 163 [.bB 1 18 [a,b]] H (.ret (.bool (x.isSome&&y.isSome))) H:=by obtain⟨r,rfl,-,hr⟩:=ha.raw;obtain⟨q,rfl,-,hq⟩:=hb.raw;have :=ZX [r,q] (by simp) H;simpa [hr,hq] using this
theorem oE {n:Bool} {m:Nat} (hm:m<W^16) {z:Int} (hz:z=sg n m) (H:aA):Sg 167 [.bool n,.agg (wC (bJ 16 m))] H (.ret (.agg (cI z))) H:=by
 have :=Kq n (.bJ m) H
 have e:(n&& !decide (bJ 16 m=zs))=decide (z<0):=by
  have h0:bJ 16 m=zs↔m=0:=by rw[<-AZ (.bJ m),jB hm]
  subst hz
  cases n with
  |false=>simp[sg]
  |true=>
   by_cases MO:m=0
   . subst MO;simp[sg,FM]
   have : -(m:Int)<0:=(by omega);simp only[sg,h0,MO,this,if_true,Co,Gm,Iv,Gb]
 have e2:z.natAbs=m:=by rw[hz,kW]
 rw[e] at this;unfold cI
 rwa [e2]
theorem Yy {a b:List AV} {x y:Option Int} (ha:mA a x) (hb:mA b y) (hxy:(x.isSome&&y.isSome)=false) (H:aA):Sg 172 [.agg a,.agg b] H (.ret (.agg EK)) H:=by have hg:=AL ha hb;rw[hxy] at hg;refine So aJq ZaB ?_ H;unfold aCt;dsimp only;simp only[↓zP,zJ,seval,oL ha.len,oL hb.len];refine bZ (hg _) ?_;refine Ty ?_;refine bZ (EC _) ?_;simp only[↓zP,zJ,seval,EK];exact⟨rfl,_,by simp only[↓zP,zR,seval];rfl,rfl⟩
theorem qc {z w:Int} (hz:z.natAbs<W^16) (hw:w.natAbs<W^16) (H:aA):Sg 172 [.agg (cI z),.agg (cI w)] H (.ret (.agg (cO (norm (z+w))))) H:=by
 refine So aJq (by simp only[sf,sfI]) ?_ H;unfold aCt;dsimp only;have la:=iL (.bJ z.natAbs);have lb:=iL (.bJ w.natAbs);refine Ty ?_;refine bZ (AL (.enc hz) (.enc hw) _) ?_;simp only[↓zP,zJ,seval,Bc,Cv,cI,la,lb];by_cases hs:decide (z<0)=decide (w<0)
 . simp only[zG,seval,hs,Jj];refine bZ (aGu hz hw _) ?_;have hl:=iL (.bJ (z.natAbs+w.natAbs))
   have e:z+w=sg (decide (w<0)) (z.natAbs+w.natAbs):=by by_cases h1:z<0<;>by_cases h2:w<0<;>simp[h1,h2,sg] at hs ⊢ <;>omega
   have e2:(z+w).natAbs=z.natAbs+w.natAbs:=(by rw[e,kW]);simp only[↓zP,zJ,seval,hl];refine⟨fun h=>?_,fun h=>?_⟩
   . refine bZ (oE h e _) ?_;have hr:norm (z+w)=some (z+w):=(by unfold norm;rw[e2,if_pos h]);have hl:=iL (.bJ (z+w).natAbs);simp only[↓zP,zJ,seval,cI,hl];refine⟨rfl,_,by simp only[↓zP,zR,seval,hl];rfl,?_⟩;rw[hr];rfl
   refine bZ (EC _) ?_;simp only[↓zP,zJ,seval,EK];refine Rx ?_;have hr:norm (z+w)=none:=(by unfold norm;rw[e2,if_neg h]);rw[hr];rfl
 have CC:(decide (z<0)==decide (w<0))=false:=by simpa using hs
 have hb:(z+w).natAbs<W^16:=by generalize W^16=X at *;by_cases h1:z<0<;>by_cases h2:w<0<;>simp[h1,h2] at hs<;>omega
 have hr:norm (z+w)=some (z+w):=by unfold norm;rw[if_pos hb]
 have hl:=iL (.bJ (z+w).natAbs);simp only[zG,seval,CC];refine bZ (OZ hz hw _) ?_;refine Tz ?_;refine⟨fun h=>?_,fun h=>?_⟩
 . have hle:w.natAbs<=z.natAbs:=by
    unfold JZ at h;split at h<;>omega
   have e:z+w=sg (decide (z<0)) (z.natAbs -w.natAbs):=by by_cases h1:z<0<;>by_cases h2:w<0<;>simp[h1,h2,sg] at hs ⊢ <;>omega
   refine Dz ?_;simp only[↓zP,zJ,seval,zD,la,lb];refine fH (VI hz hle _) ?_;simp only[seval];refine fH (oE (Iz (Nat.sub_le _ _) hz) e _) ?_;simp only[↓zP,zJ,seval,zD,cI,hl];refine⟨rfl,_,by simp only[↓zP,zR,seval,hl];rfl,?_⟩;rw[hr];rfl
 have hle:z.natAbs<=w.natAbs:=by unfold JZ at h;split at h<;>(try split at h)<;>omega
 have e:z+w=sg (decide (w<0)) (w.natAbs -z.natAbs):=by by_cases h1:z<0<;>by_cases h2:w<0<;>simp[h1,h2,sg] at hs ⊢ <;>omega
 refine Dz ?_;simp only[↓zP,zJ,seval,zD,la,lb];refine fH (VI hw hle _) ?_;simp only[seval];refine fH (oE (Iz (Nat.sub_le _ _) hw) e _) ?_;simp only[↓zP,zJ,seval,zD,cI,hl];refine⟨rfl,_,by simp only[↓zP,zR,seval,hl];rfl,?_⟩;rw[hr];rfl
theorem p9 {a b:List AV} {x y:Option Int} (ha:mA a x) (hb:mA b y) (H:aA):Sg 172 [.agg a,.agg b] H (.ret (.agg (cO (Wh x y)))) H:=by
 cases x with
 |none=>exact Yy ha hb rfl H
 |some z=>cases y with
  |none=>exact Yy ha hb rfl H
  |some w=>obtain⟨rfl,hz⟩:=ha.some;obtain⟨rfl,hw⟩:=hb.some;exact qc hz hw H
theorem Wd {a:List AV} {x:Option Int} (ha:mA a x) (H:aA):Sg 222 [.agg a] H (.ret (.agg (cO (Xs x)))) H:=by
 refine So aYt (by simp only[sf,ha.free]) ?_ H;unfold aNr;dsimp only;simp only[↓zP,zJ,seval,oL ha.len];refine bZ (tN ha _) ?_
 cases x with
 |none=>simp only[↓zP,zJ,seval,Ci];refine bZ (EC _) ?_;simp only[↓zP,zJ,seval,EK];exact⟨rfl,_,by simp only[↓zP,zR,seval];rfl,rfl⟩
 |some z=>obtain⟨rfl,hz⟩:=ha.some;have la:=iL (.bJ z.natAbs);have hl:=iL (.bJ (-z).natAbs);simp only[↓zP,zJ,seval,Bc,cI,la];refine bZ (oE (n:= !decide (z<0)) hz (z:= -z) (by by_cases h:z<0<;>simp[sg,h]<;>omega) _) ?_;simp only[↓zP,zJ,seval,cI,hl];exact⟨rfl,_,by simp only[↓zP,zR,seval,hl];rfl,rfl⟩
theorem aKs {a b:List AV} {x y:Option Int} (ha:mA a x) (hb:mA b y) (H:aA):Sg 281 [.agg a,.agg b] H (.ret (.agg (cO (Wh x (Xs y))))) H:=by
 refine So bAh ZaB ?_ H;unfold aPf;dsimp only;refine Ty ?_;refine Dz ?_;simp only[↓zP,zJ,seval,zD,oL ha.len,oL hb.len];refine fH (Wd hb _) ?_;simp only[seval];refine fH (p9 ha hb.neg _) ?_;simp only[↓zP,zJ,seval,zD]
 (refine Rx ?_;rfl)
theorem JC (a:Nat) (H:aA):Sg 224 [.agg (wC (bJ 16 a))] H (.ret (.int .i64 (sz a:Nat))) H:=by
 refine So aJy Zah ?_ H;unfold aDb;dsimp only;have la:=iL (.bJ a);simp only[↓zP,zJ,Nat.reduceLT];refine aL (iM [3] (fun m vs H'=>vs=[.int .i64 (m:Nat)]/\m<=16/\cq m a=sz a/\H'.get 0=some (.cells (wC (bJ 16 a)) false)) 16 (by rfl) ?_ ?_)
 . refine⟨by simp only[sm,zB];rfl,by omega,rfl,by simp only[zI]⟩
 rintro m f H hk ⟨hv,hm,hd,g0⟩;simp only[zM] at hv;simp only[↓zP,zJ,Nat.reduceLT,Nat.reduceEqDiff,hv]
 cases m with
 |zero=>simp only[zJ,show decide (((0:Nat):Int)>0)=false from rfl];refine Rx ?_;rw[<-hd];rfl
 |succ m=>
  have w:IntKind.i64.wrap (((m+1:Nat):Int) -1)=(m:Nat):=wI (by omega);simp only[↓zP,zJ,Nat.reduceEqDiff,show decide (((m+1:Nat):Int)>0)=true from Aj (by omega),hk 1 rfl,w,aB,g0,show m<16 by omega,show m+1<=16 by omega,la,lE (show m<16 by omega)];by_cases hz:bL a m=0
  . simp only[zG,hz,show(((0:Nat):Int)==0)=true from rfl];refine aL ?_;simp only[↓zP,zG,Nat.reduceLT,Nat.reduceEqDiff,hv,w];refine⟨m,by omega,rfl,by omega,by rw[<-hd,cq,if_pos hz],g0⟩
  have hb:(((bL a m:Nat):Int)==0)=false:=by simp;omega
  simp only[zG,hb];refine Rx ?_;rw[<-hd,cq,if_neg hz];rfl
theorem IA:∀b:Nat,b<256->([0,1,2,2,3,3,3,3,4,4,4,4,4,4,4,4,5,5,5,5,5,5,5,5,5,5,5,5,5,5,5,5,6,6,6,6,6,6,6,6,6,6,6,6,6,6,6,6,6,6,6,6,6,6,6,6,6,6,6,6,6,6,6,6,7,7,7,7,7,7,7,7,7,7,7,7,7,7,7,7,7,7,7,7,7,7,7,7,7,7,7,7,7,7,7,7,7,7,7,7,7,7,7,7,7,7,7,7,7,7,7,7,7,7,7,7,7,7,7,7,7,7,7,7,7,7,7,7,8,8,8,8,8,8,8,8,8,8,8,8,8,8,8,8,8,8,8,8,8,8,8,8,8,8,8,8,8,8,8,8,8,8,8,8,8,8,8,8,8,8,8,8,8,8,8,8,8,8,8,8,8,8,8,8,8,8,8,8,8,8,8,8,8,8,8,8,8,8,8,8,8,8,8,8,8,8,8,8,8,8,8,8,8,8,8,8,8,8,8,8,8,8,8,8,8,8,8,8,8,8,8,8,8,8,8,8,8,8,8,8,8,8,8,8,8,8,8,8,8,8,8,8,8,8,8,8]:List UInt8)[b]?=some (UInt8.ofNat (fE b)):=by decide+kernel
theorem aIk (u k:Nat) (kk:IntKind) (hk:k<=kk.bits):(u:Int).fdiv (2^min (Int.toNat k) kk.bits)=((u / 2^k:Nat):Int):=by rw[show min (Int.toNat k) kk.bits=k by simp;omega,Jc _ (by exact_mod_cast Az _)];simp
theorem MU {b n:Nat} (hb:b<256) (hn:n<=24):IntKind.i64.wrap ((n:Int)+IntKind.i64.wrap ((UInt8.ofNat (fE b)).toNat:Int))=((n+fE b:Nat):Int):=by
 have h1:fE b<=8:=oJ.2 hb;have h2:(UInt8.ofNat (fE b)).toNat=fE b:=by simp;omega
 have h3:IntKind.i64.wrap ((fE b:Nat):Int)=(fE b:Nat):=wrap_i64 (by omega) (by omega);rw[h2,h3,wrap_i64 (by omega) (by omega)];simp
theorem wu8 {b:Nat} (hb:b<256):IntKind.u8.wrap (b:Int)=(b:Int):=by simp only[IntKind.wrap,IntKind.bits,IntKind.signed];simp;omega
theorem qt {a:Nat} (ha:a<W) (H:aA):Sg 256 [.int .u32 a] H (.ret (.int .i64 (fE a:Nat))) H:=by
 refine So aJz Zah ?_ H;unfold aDc;dsimp only;have hW:W=4294967296:=rfl;simp only[↓zP,zJ,Nat.reduceLT,Nat.reduceEqDiff,Int.reduceLT];have f16:∀u:Nat,(u:Int).fdiv (2^min (Int.toNat 16) IntKind.u32.bits)=((u / 2^16:Nat):Int):=fun u=>aIk u 16 .u32 (by decide);have f8:∀u:Nat,(u:Int).fdiv (2^min (Int.toNat 8) IntKind.u32.bits)=((u / 2^8:Nat):Int):=fun u=>aIk u 8 .u32 (by decide);have w24:IntKind.i64.wrap (16+8)=((24:Nat):Int):=by decide
 have w8:IntKind.i64.wrap (0+8)=((8:Nat):Int):=by decide
 refine⟨fun h=>?_,fun h=>?_⟩
 . simp only[f16];refine⟨fun h2=>?_,fun h2=>?_⟩
   . have hb:a / 2^16 / 2^8<256:=(by omega);simp only[↓zP,zJ,f8,wu8 hb,aB,IA _ hb,w24,MU hb (show 24<=24 by omega)];refine Rx ?_
     have e:fE a=24+fE (a / 2^16 / 2^8):=by rw[Hy,<-Jz,rZ (k:=16+8) (by omega)];omega
     rw[e];rfl
   have hb:a / 2^16<256:=(by omega);have :=MU hb (show 16<=24 by omega);simp only[↓zP,zJ,wu8 hb,aB,IA _ hb];refine Rx ?_;have e:fE a=16+fE (a / 2^16):=(by rw[rZ (k:=16) (by omega)];omega);rw[e,<-this];rfl
 refine⟨fun h2=>?_,fun h2=>?_⟩
 . have hb:a / 2^8<256:=by omega
   simp only[↓zP,zJ,f8,wu8 hb,aB,IA _ hb,w8,MU hb (show 8<=24 by omega)];refine Rx ?_;have e:fE a=8+fE (a / 2^8):=(by rw[rZ (k:=8) (by omega)];omega);rw[e];rfl
 have hb:a<256:=by omega
 have :=MU hb (show 0<=24 by omega);simp only[↓zP,zJ,wu8 hb,aB,IA _ hb];refine Rx ?_;rw[Cs] at this;rw[<-this];rfl
theorem aIl {α:Type} (a b d:α) (l:List α) (k:Nat):(a::b::l).getD (2+k) d=l.getD k d:=by rw[Fo];rfl
def sj:Option Int->Nat
 |some z=>fE z.natAbs
 |none=>0
theorem aCb {a:List AV} {x:Option Int} (ha:mA a x) (H:aA):Sg 190 [.agg a] H (.ret (.int .i64 (sj x:Nat))) H:=by
 refine So aJs (by simp only[sf,ha.free]) ?_ H;unfold aCv;dsimp only;obtain⟨r,rfl,hx,-⟩:=ha.raw;have hr:=a8 r.hl;have lr:=KR r.hl;have hs:=JC (CH r.l);rw[lr] at hs;have sH:=tN ha;rw[show r.cells=.bool r.b::.bool r.n::wC r.l from rfl] at sH;simp only[↓zP,zJ,seval,zF.cells,iL r.hl];refine bZ (hs _) ?_;simp only[↓zP,zJ,seval,iL r.hl];refine bZ (sH _) ?_
 cases x with
 |none=>simp only[↓zP,zJ,seval,Ci];exact⟨rfl,_,by simp only[↓zP,zR,seval];rfl,rfl⟩
 |some z=>
  have hz:=ha.fit;obtain⟨hb,hn,hl,-⟩:=Rg r.hl hx.symm;have ez:CH r.l=z.natAbs:=by rw[hl,jB hz]
  rw[ez];by_cases h0:sz z.natAbs=0
  . simp only[↓zP,zJ,seval,Bc,h0];refine Rx ?_;rw[sj,(aHl hz).1 h0];rfl
  have hb:(((sz z.natAbs:Nat):Int)==0)=false:=by simp;omega
  have l16:=aBo z.natAbs;have w1:IntKind.i64.wrap (((sz z.natAbs:Nat):Int) -1)=((sz z.natAbs -1:Nat):Int):=wI (by omega);have w2:IntKind.i64.wrap (32*((sz z.natAbs -1:Nat):Int))=((32*(sz z.natAbs -1):Nat):Int):=by rw[wrap_i64 (by omega) (by omega)];simp
  have hg:(wC r.l).getD (sz z.natAbs -1) aC=.int .u32 (bL z.natAbs (sz z.natAbs -1)):=by rw[hl,lE (by omega)]
  have Uk:fE (bL z.natAbs (sz z.natAbs -1))<=32:=oJ.2 (jP _ _)
  have w3:IntKind.i64.wrap (((32*(sz z.natAbs -1):Nat):Int)+(fE (bL z.natAbs (sz z.natAbs -1)):Nat))=((fE z.natAbs:Nat):Int):=by rw[wrap_i64 (by omega) (by omega),fq hz h0];simp
  simp only[↓zP,zJ,seval,Bc,hb,w1,w2,aB,show sz z.natAbs -1<16 by omega,show 2+(sz z.natAbs -1)<=17 by omega,iL r.hl,aIl,hg];refine bZ (qt (jP z.natAbs (sz z.natAbs -1)) _) ?_;simp only[↓zP,zG,seval,w3]
  (refine Rx ?_;rfl)
def qH:Option Int->Int×Bool
 |some z=>if -2^63<=z/\z<2^63 then(z,true) else(0,false)
 |none=>(0,false)
theorem aTg {a b:Nat} (ha:a<4294967296) (hb:b<4294967296):QL .or .u64 (IntKind.u64.wrap (((a:Nat):Int)*2^(min (Int.toNat 32) IntKind.u64.bits))) ((b:Nat):Int)=some (.int .u64 ((a*4294967296+b:Nat):Int)):=by
 have e:IntKind.u64.wrap (((a:Nat):Int)*2^(min (Int.toNat 32) IntKind.u64.bits))=((a*4294967296:Nat):Int):=by show IntKind.u64.wrap (((a:Nat):Int)*4294967296)=_;exact rW (by omega) (by omega)
 rw[e]
 have e2:(a*4294967296|||b)=a*4294967296+b:=by have :=Nat.two_pow_add_eq_or_of_lt (i:=32) hb a;rw[Dg] at this;exact this.symm
 have e3:∀n:Nat,BitVec.ofInt 64 (n:Int)=BitVec.ofNat 64 n:=fun n=>by simp
 simp only[QL];congr 2;rw[show IntKind.u64.bits=64 from rfl,e3,e3,<-BitVec.ofNat_or,e2,BitVec.toNat_ofNat,Dl (by omega)];exact rW (by omega) (.inl rfl)
theorem Mr {a:List AV} {x:Option Int} (ha:mA a x) (H:aA):Sg 215 [.agg a] H (.ret (.iA [.int .i64 (qH x).1,.bool (qH x).2])) H:=by
 refine So aYo (by simp only[sf,ha.free]) ?_ H;unfold aNm;dsimp only;simp only[↓zP,zJ,Nat.reduceLT,Nat.reduceEqDiff,oL ha.len];refine bZ (tN ha _) ?_
 cases x with
 |none=>simp only[↓zP,zJ,Nat.reduceLT,Nat.reduceEqDiff,Ci];exact⟨rfl,_,by simp only[↓zP,zR,Nat.reduceEqDiff];rfl,rfl⟩
 |some z=>
  obtain⟨rfl,hz⟩:=ha.some;have la:=iL (.bJ z.natAbs);have hW:W=4294967296:=rfl;have hW2:W^2=2^64:=rfl;simp only[↓zP,zJ,Nat.reduceLT,Nat.reduceEqDiff,Bc];refine bZ (aCb ha _) ?_;simp only[↓zP,zJ,Nat.reduceLT,Nat.reduceEqDiff,sj];refine⟨fun h=>?_,fun h=>?_⟩
  . have :¬z.natAbs<2^64:=fun hh=>by have :=oJ.2 hh;omega
    refine Rx ?_;rw[qH,if_neg (by omega)];rfl
  have fF:z.natAbs<2^64:=oJ.1 (by omega);have e0:(wC (bJ 16 z.natAbs)).getD 0 aC=.int .u32 (bL z.natAbs 0:Nat):=lE (by omega);have e1:(wC (bJ 16 z.natAbs)).getD 1 aC=.int .u32 (bL z.natAbs 1:Nat):=lE (by omega);have h0:=jP z.natAbs 0;have h1:=jP z.natAbs 1;have w0:IntKind.u64.wrap ((bL z.natAbs 0:Nat):Int)=(bL z.natAbs 0:Nat):=rW (by omega) (.inl rfl);have w1:IntKind.u64.wrap ((bL z.natAbs 1:Nat):Int)=(bL z.natAbs 1:Nat):=rW (by omega) (.inl rfl)
  have et:bL z.natAbs 1*W+bL z.natAbs 0=z.natAbs:=by have h2:bL z.natAbs 0=z.natAbs%W:=(by simp[bL]);have h3:bL z.natAbs 1=z.natAbs / W:=(by unfold bL;rw[Nat.pow_one,hW,Dl (by omega)]);rw[h2,h3,Dg];exact Fe _ _
  have ho:=aTg h1 h0;rw[hW] at et;rw[et] at ho;unfold cI;simp only[↓zP,zJ,Nat.reduceLT,Nat.reduceAdd,Nat.reduceLeDiff,Int.reduceLT,la,sP,e0,e1,w0,w1,ho];refine aL ?_;by_cases Pr:z<0
  . simp only[↓zP,zJ,Nat.reduceLT,Nat.reduceEqDiff,Nat.reduceAdd,Nat.reduceLeDiff,Aj Pr,la];refine⟨fun h4=>?_,fun h4=>?_⟩
    . have w2:IntKind.u64.wrap (0 -((z.natAbs:Nat):Int))=((2^64 -z.natAbs:Nat):Int):=rW (by omega) (by omega)
      have w3:IntKind.i64.wrap ((2^64 -z.natAbs:Nat):Int)=z:=by simp only[IntKind.wrap,IntKind.bits,IntKind.signed];simp;omega
      refine⟨rfl,_,by simp only[↓zP,zR,Nat.reduceEqDiff,w2,w3];rfl,?_⟩;rw[qH,if_pos (by omega)];rfl
    refine Rx ?_;rw[qH,if_neg (by omega)];rfl
  simp only[↓zP,zJ,Nat.reduceLT,Nat.reduceEqDiff,Nat.reduceAdd,Nat.reduceLeDiff,Ag Pr,la];refine⟨fun h4=>?_,fun h4=>?_⟩
  . have w3:IntKind.i64.wrap ((z.natAbs:Nat):Int)=z:=by
     rw[wrap_i64 (by omega) (by omega)];omega
    refine⟨rfl,_,by simp only[↓zP,zR,Nat.reduceEqDiff,w3];rfl,?_⟩;rw[qH,if_pos (by omega)];rfl
  refine Rx ?_;rw[qH,if_neg (by omega)];rfl
def yT:Option Int->Int
 |some z=>if z<0 then -1 else if z=0 then 0 else 1
 |none=>0
def aUb:Option Int->Option Int
 |some z=>some z.natAbs
 |none=>none
def rL:Option Int->Option Int->Int
 |some x,some y=>if x<y then -1 else if y<x then 1 else 0
 |none,none=>0
 |none,_=> -1
 |_,none=>1
theorem AS {n:Nat} (h:n<W^16):bJ 16 n=zs↔n=0:=by rw[<-AZ (.bJ n),jB h]
theorem MF {a:List AV} {x:Option Int} (ha:mA a x) (H:aA):Sg 177 [.agg a] H (.ret (.int .i64 (yT x))) H:=by
 refine So aXp (by simp only[sf,ha.free]) ?_ H;unfold aMn;dsimp only;refine Ty ?_;refine aL ?_;simp only[↓zP,zJ,seval,oL ha.len];refine bZ (tN ha _) ?_
 cases x with
 |none=>simp only[↓zP,zJ,seval,Ci];exact⟨rfl,_,by simp only[↓zP,zR,seval];rfl,rfl⟩
 |some z=>
  obtain⟨rfl,hz⟩:=ha.some;have la:=iL (.bJ z.natAbs);unfold cI;by_cases Pr:z<0
  . have he:decide (bJ 16 z.natAbs=zs)=false:=by rw[Ag];rw[AS hz];omega
    simp only[↓zP,zJ,seval,Bc,la,he,Aj Pr];refine Rx ?_;rw[yT,if_pos Pr];rfl
  by_cases h1:z=0
  . subst h1;simp only[↓zP,zJ,seval,Bc];exact Zad
  have he:decide (bJ 16 z.natAbs=zs)=false:=by rw[Ag];rw[AS hz];omega
  simp only[↓zP,zJ,seval,Bc,la,he,Ag Pr];refine Rx ?_;rw[yT,if_neg Pr,if_neg h1];rfl
theorem aKl {a:List AV} {x:Option Int} (ha:mA a x) (H:aA):Sg 226 [.agg a] H (.ret (.agg (cO (aUb x)))) H:=by
 refine So aYv (by simp only[sf,ha.free]) ?_ H;unfold aNt;dsimp only;simp only[↓zP,zJ,seval,oL ha.len];refine bZ (tN ha _) ?_
 cases x with
 |none=>simp only[↓zP,zJ,seval,Ci];refine bZ (EC _) ?_;refine Ty ?_;exact⟨rfl,_,by simp only[↓zP,zR,seval];rfl,rfl⟩
 |some z=>obtain⟨rfl,hz⟩:=ha.some;have la:=iL (.bJ z.natAbs);unfold cI;simp only[↓zP,zJ,seval,Bc,la];refine bZ (oE (n:=false) hz (z:=(z.natAbs:Int)) rfl _) ?_;refine Ty ?_;exact⟨rfl,_,by simp only[↓zP,zR,seval];rfl,rfl⟩
theorem aKm {a b:List AV} {x y:Option Int} (ha:mA a x) (hb:mA b y) (H:aA):Sg 126 [.agg a,.agg b] H (.ret (.int .i64 (rL x y))) H:=by
 refine So aWj ZaB ?_ H;unfold aLh;dsimp only;refine bQ ?_;refine Ty ?_;refine fD ?_;refine Dz ?_;simp only[↓zP,zJ,seval,zD,oL ha.len];refine fH (tN ha _) ?_;simp only[↓zP,zJ,seval,zD,oL hb.len];refine fH (tN hb _) ?_;simp only[↓zP,zJ,seval,zD];refine bR ?_;refine aJ fun K hK=>?_;refine aL ?_
 cases x with
 |none=>
  cases y<;>
  . simp only[↓zP,zJ,seval,Ci,Bc];exact Zad
 |some z=>cases y with
  |none=>simp only[↓zP,zJ,seval,Ci,Bc];exact⟨rfl,_,by simp only[↓zP,zR,seval];rfl,rfl⟩
  |some w=>
   obtain⟨rfl,hz⟩:=ha.some;obtain⟨rfl,hw⟩:=hb.some;have la:=iL (.bJ z.natAbs);have lb:=iL (.bJ w.natAbs);unfold cI;by_cases h1:z<0<;>by_cases h2:w<0
   . simp only[↓zP,zJ,seval,Bc,Aj h1,Aj h2,la,lb];refine bZ (OZ hw hz _) ?_;refine Tz ?_;refine⟨rfl,_,by simp only[↓zP,zR,seval];rfl,?_⟩
     have e:rL (some z) (some w)=JZ w.natAbs z.natAbs:=by
      simp only[rL,JZ]
      repeat' split
      all_goals first|rfl|omega
     rw[e];rfl
   . simp only[↓zP,zJ,seval,Bc,Aj h1,Ag h2,la,lb];refine⟨rfl,_,by simp only[↓zP,zR,seval];rfl,?_⟩;rw[rL,if_pos (by omega)];rfl
   . simp only[↓zP,zJ,seval,Bc,Ag h1,Aj h2,la,lb];refine⟨rfl,_,by simp only[↓zP,zR,seval];rfl,?_⟩;rw[rL,if_neg (by omega),if_pos (by omega)];rfl
   simp only[↓zP,zJ,seval,Bc,Ag h1,Ag h2,la,lb];apply hK;simp only[↓zP,zJ,seval,la,lb];refine bZ (OZ hz hw _) ?_;refine Tz ?_;refine⟨rfl,_,by simp only[↓zP,zR,seval];rfl,?_⟩
   have e:rL (some z) (some w)=JZ z.natAbs w.natAbs:=by
    simp only[rL,JZ]
    repeat' split
    all_goals first|rfl|omega
   rw[e];rfl
theorem ug {z:Int} (h:z.natAbs<2^62):z.natAbs<W^16:=w63 (by omega)
theorem aAj (x:Int) (H:aA):Sg 343 [.int .i64 x] H (.ret (.bool (decide (x<2147483648)&&decide (x> -2147483648)))) H:=by
 refine So bBs Zah ?_ H;unfold aQm;dsimp only
 cases h:decide (x<2147483648) with
 |true=>simp only[↓zP,zJ,seval,h];exact⟨rfl,_,by simp only[↓zP,zR,seval];rfl,rfl⟩
 |false=>simp only[↓zP,zJ,seval,h];exact⟨rfl,_,by simp only[↓zP,zR,seval];rfl,rfl⟩
theorem Lf {x:Int} (h:x.natAbs<2^31) (H:aA):Sg 343 [.int .i64 x] H (.ret (.bool true)) H:=by
 have :=aAj x H
 rwa [Aj (show x<2147483648 by omega),Aj (show x> -2147483648 by omega)] at this
theorem tX {x y:Int} (hx:x.natAbs<2^31) (hy:y.natAbs<2^31) (H:aA):Sg 312 [.agg (cI x),.agg (cI y)] H (.ret (.agg (cI (x*y)))) H:=by
 refine Sp bBd Zav ZaK ?_ H;unfold aQa;dsimp only
 have hb:(x*y).natAbs<2^62:=by
  rw[Ga];have :=Nat.mul_lt_mul'' hx hy;have e:(2:Nat)^31*2^31=2^62:=by decide
  omega
 have wm:IntKind.i64.wrap (x*y)=x*y:=wrap_i64 (by omega) (by omega);have ho:=vO (z:=x*y) (by omega) (by omega);refine bQ ?_;refine Ty ?_;refine fD ?_;refine Ty ?_;refine bZ (rD (z:=x) (by omega) _) ?_;refine Ty ?_;refine fD ?_;refine Ty ?_;refine bZ (rD (z:=y) (by omega) _) ?_;refine Ty ?_;refine bR ?_;refine aJ fun K hK=>?_;refine Tz ?_;refine bZ (Lf hx _) ?_;refine Tz ?_;refine bZ (Lf hy _) ?_;simp only[↓zP,zG,seval,wm];refine bZ (ho _) ?_;refine Ty ?_;refine Rx ?_;rfl
theorem FW {x y:Int} (hx:x.natAbs<2^62) (hy:y.natAbs<2^62) (H:aA):Sg 339 [.agg (cI x),.agg (cI y)] H (.ret (.agg (cI (x+y)))) H:=by refine Sp bBn Zav ZaK ?_ H;unfold aQi;dsimp only;have wm:IntKind.i64.wrap (x+y)=x+y:=wrap_i64 (by omega) (by omega);have ho:=vO (z:=x+y) (by omega) (by omega);refine bQ ?_;refine Ty ?_;refine fD ?_;refine Ty ?_;refine bZ (rD hx _) ?_;refine Ty ?_;refine fD ?_;refine Ty ?_;refine bZ (rD hy _) ?_;refine Ty ?_;refine bR ?_;refine aJ fun K hK=>?_;simp only[↓zP,zG,seval,wm];refine bZ (ho _) ?_;refine Ty ?_;refine Rx ?_;rfl
theorem aHc {z:Int} (hz:z.natAbs<W^16) (H:aA):Sg 341 [.agg (cI z)] H (.ret (.agg (cI (-z)))) H:=by refine Sp bBq Zav ZaK ?_ H;unfold aQk;dsimp only;have LO:=tW (mA.enc hz);have hd:=tY false (decide (z<0)) (.bJ z.natAbs);have hn:=yD (!decide (z<0)) 0 (GK z.natAbs) (by have :=tH.2 hz;omega);rw[yJ,IM (by rw[kW];exact hz),show sg (!decide (z<0)) z.natAbs= -z from by unfold sg;split<;>simp_all<;>omega] at hn;rw[jB hz] at hd;have jn:AV.bool false::AV.bool (decide (z<0))::wC (bJ 16 z.natAbs)=cI z:=rfl;rw[jn] at hd;have h1:(cI z).getD 1 aC=.bool (decide (z<0)):=rfl;refine bQ ?_;refine Ty ?_;refine fD ?_;refine Ty ?_;refine bZ (LO _) ?_;simp only[Bc];refine Ty ?_;refine fD ?_;refine Dz ?_;simp only[↓zP,zJ,seval,zD,h1];refine fH (hd _) ?_;simp only[seval];refine fH (hn _) ?_;simp only[cO];simp only[↓zP,zJ,seval,zD];refine bR ?_;refine Tx ?_;refine Rx ?_;rfl
theorem YN {x y:Int} (hx:x.natAbs<2^62) (hy:y.natAbs<2^62) (H:aA):Sg 311 [.agg (cI x),.agg (cI y)] H (.ret (.agg (cI (x -y)))) H:=by refine Sp bBc Zav ZaK ?_ H;unfold aPz;dsimp only;have ha:=FW hx (y:= -y) (by rwa [Kc]);rw[<-Int.sub_eq_add_neg] at ha;refine bQ ?_;refine Ty ?_;refine fD ?_;refine Dz ?_;simp only[↓zP,zJ,seval,zD];refine fH (aHc (ug hy) _) ?_;simp only[seval];refine fH (ha _) ?_;simp only[↓zP,zJ,seval,zD];refine bR ?_;refine Tx ?_;refine Rx ?_;rfl
theorem aGz {z:Int} (hz:z.natAbs<W^16) (H:aA):Sg 370 [.agg (cI z)] H (.ret (.agg (cI (z.natAbs:Int)))) H:=by refine Sp bBt Zav ZaK ?_ H;unfold aQn;dsimp only;have LO:=tW (mA.enc hz);have hd:=tY false (decide (z<0)) (.bJ z.natAbs);have hn:=yD false 0 (GK z.natAbs) (by have :=tH.2 hz;omega);rw[yJ,IM (by rw[kW];exact hz),show sg false z.natAbs=(z.natAbs:Int) from rfl] at hn;rw[jB hz] at hd;have jn:AV.bool false::AV.bool (decide (z<0))::wC (bJ 16 z.natAbs)=cI z:=rfl;rw[jn] at hd;refine bQ ?_;refine Ty ?_;refine fD ?_;refine Ty ?_;refine bZ (LO _) ?_;simp only[Bc];refine Ty ?_;refine bR ?_;refine Ty ?_;refine bZ (hd _) ?_;refine bZ (hn _) ?_;simp only[cO];refine Ty ?_;refine Rx ?_;rfl
def aBe (z:Int):Int:=if z=0 then 0 else if z<0 then -1 else 1
theorem aAa {z:Int} (hz:z.natAbs<W^16) (H:aA):Sg 335 [.agg (cI z)] H (.ret (.int .i64 (aBe z))) H:=by
 refine So bBj Zav ?_ H;unfold aQe;dsimp only;have LO:=tW (mA.enc hz);have hd:=tY false (decide (z<0)) (.bJ z.natAbs);rw[jB hz] at hd;have jn:AV.bool false::AV.bool (decide (z<0))::wC (bJ 16 z.natAbs)=cI z:=rfl;rw[jn] at hd;have h1:(cI z).getD 1 aC=.bool (decide (z<0)):=rfl;unfold aBe;refine bQ ?_;refine Ty ?_;refine bR ?_;refine aJ fun K hK=>?_;refine Ty ?_;refine bZ (LO _) ?_;simp only[Bc];refine Ty ?_;refine bZ (hd _) ?_;by_cases h0:z=0
 . have hb:(((dg z.natAbs).length:Int)==0)=true:=by
    rw[Ca,SE.2 (by omega)];rfl
   simp only[↓zP,zG,seval,eH,hb];refine Rx ?_;rw[if_pos h0];rfl
 have hb:(((dg z.natAbs).length:Int)==0)=false:=by rw[Bl];intro h;have :=SE.1 (Cm (l:=dg z.natAbs) (by omega));omega
 simp only[↓zP,zG,seval,eH,hb];apply hK;clear hK K
 cases hn:decide (z<0) with
 |true=>rw[hn] at h1;simp only[↓zP,zJ,seval,h1];refine Rx ?_;rw[if_neg h0,if_pos (Cp hn)];rfl
 |false=>rw[hn] at h1;simp only[↓zP,zJ,seval,h1];refine Rx ?_;rw[if_neg h0,if_neg (Dn hn)];rfl
theorem CL {x y:Int} (hx:x.natAbs<W^16) (hy:y.natAbs<W^16) (H:aA):Sg 194 [.agg (cI x),.agg (cI y)] H (.ret (.int .i64 (rL (some x) (some y)))) H:=by
 refine So aXy Zav ?_ H;unfold aMw;dsimp only;have gx:=tW (mA.enc hx);have gy:=tW (mA.enc hy);have dx:=tY false (decide (x<0)) (.bJ x.natAbs);have dy:=tY false (decide (y<0)) (.bJ y.natAbs);rw[jB hx] at dx;rw[jB hy] at dy;rw[show AV.bool false::AV.bool (decide (x<0))::wC (bJ 16 x.natAbs)=cI x from rfl] at dx;rw[show AV.bool false::AV.bool (decide (y<0))::wC (bJ 16 y.natAbs)=cI y from rfl] at dy;have lx:(dg x.natAbs).length<2^29:=by have :=tH.2 hx;omega
 have ly:(dg y.natAbs).length<2^29:=by have :=tH.2 hy;omega
 have l1:=Vi (GK x.natAbs) (GK y.natAbs) lx ly 0 0;have l2:=Vi (GK y.natAbs) (GK x.natAbs) ly lx 0 0;rw[yJ,yJ] at l1 l2;have x1:(cI x).getD 1 aC=.bool (decide (x<0)):=rfl;have y1:(cI y).getD 1 aC=.bool (decide (y<0)):=rfl;simp only[rL];refine bQ ?_;refine Ty ?_;refine fD ?_;refine Ty ?_;refine bZ (gx _) ?_;simp only[Bc];refine Ty ?_;refine fD ?_;refine Ty ?_;refine bZ (gx _) ?_;simp only[Bc];refine Ty ?_;refine fD ?_;refine Ty ?_;refine bZ (gy _) ?_;simp only[Bc];refine Ty ?_;refine bR ?_;have tf:(true==false)=false:=rfl;have ft:(false==true)=false:=rfl;by_cases xn:x<0
 . rw[Aj xn] at x1;by_cases MQ:y<0
   . rw[Aj MQ] at y1;refine bQ ?_;simp only[↓zP,zJ,seval,x1,y1];refine fD ?_;refine Ty ?_;refine bZ (dx _) ?_;refine Tz ?_;refine fD ?_;refine Ty ?_;refine bZ (dy _) ?_;refine Tz ?_;refine fD ?_;simp only[↓zP,zJ,seval,x1];refine bZ (dy _) ?_;refine Ty ?_;refine bZ (dx _) ?_;refine Tz ?_;refine fD ?_;refine Tz ?_;refine bZ (l2 _) ?_;refine Tz ?_;refine fD ?_;refine Tz ?_;refine bZ (l1 _) ?_;refine Tz ?_;refine bR ?_;by_cases h1:y.natAbs<x.natAbs
     . have e1:=Aj h1;simp only[↓zP,zG,seval,e1];refine Rx ?_;rw[if_pos (by omega)];rfl
     have e1:=Ag h1;by_cases h2:x.natAbs<y.natAbs
     . have e2:=Aj h2;simp only[↓zP,zG,seval,e1,e2];refine Rx ?_;rw[if_neg (by omega),if_pos (by omega)];rfl
     have e2:=Ag h2;simp only[↓zP,zG,seval,e1,e2];refine Rx ?_;rw[if_neg (by omega),if_neg (by omega)];rfl
   rw[Ag MQ] at y1;simp only[↓zP,zJ,seval,x1,y1,tf];refine Rx ?_;rw[if_pos (by omega)];rfl
 rw[Ag xn] at x1;by_cases MQ:y<0
 . rw[Aj MQ] at y1;simp only[↓zP,zJ,seval,x1,y1,ft];refine Rx ?_;rw[if_neg (by omega),if_pos (by omega)];rfl
 rw[Ag MQ] at y1;refine bQ ?_;simp only[↓zP,zJ,seval,x1,y1];refine fD ?_;refine Ty ?_;refine bZ (dx _) ?_;refine Tz ?_;refine fD ?_;refine Ty ?_;refine bZ (dy _) ?_;refine Tz ?_;refine fD ?_;simp only[↓zP,zJ,seval,x1];refine fD ?_;refine Tz ?_;refine bZ (l1 _) ?_;refine Tz ?_;refine fD ?_;refine Tz ?_;refine bZ (l2 _) ?_;refine Tz ?_;refine bR ?_;by_cases h1:x.natAbs<y.natAbs
 . have e1:=Aj h1;simp only[↓zP,zG,seval,e1];refine Rx ?_;rw[if_pos (by omega)];rfl
 have e1:=Ag h1;by_cases h2:y.natAbs<x.natAbs
 . have e2:=Aj h2;simp only[↓zP,zG,seval,e1,e2];refine Rx ?_;rw[if_neg (by omega),if_pos (by omega)];rfl
 have e2:=Ag h2;simp only[↓zP,zG,seval,e1,e2];refine Rx ?_;rw[if_neg (by omega),if_neg (by omega)];rfl
end Go.Proofs.YtgggiembljfnhaaGreatDoor
