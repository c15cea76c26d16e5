/-
  Part of the proof of statement 12
-/
import Derived.Test.YtgggiembljfnhaaGreatDoorB13
import Derived.Test.YtgggiembljfnhaaGreatDoorB14
import Derived.Test.YtgggiembljfnhaaGreatDoorB11
set_option linter.unusedVariables false
set_option linter.unusedSimpArgs false
set_option maxRecDepth 100000
set_option maxHeartbeats 16000000
namespace Go.Proofs.YtgggiembljfnhaaGreatDoor
open Go Go.Av Go.uE
attribute [local congr] aT aI aL aH aX aQ aM aF aY
attribute [local irreducible] FC bS eF
theorem OA (a:Nat) (H:aA):Sg 282 [.int .u32 a] H (.ret (.bool false)) H:=by
 refine So bAz Zag ?_ H;unfold aPv;dsimp only;simp only[↓zP,zJ,seval,Jg]
 (refine Rx ?_;rfl)
theorem Rr (a b:Nat) (H:aA):Sg 220 [.int .u32 a,.int .u32 b] H (.ret (.int .i64 (JV a b))) H:=by
 refine So aZi Zag ?_ H;unfold aOe;dsimp only;refine Ty ?_;refine bY (OA a _) ?_;refine Ty ?_;refine bY (OA b _) ?_;refine Ty ?_;refine⟨fun h=>?_,fun h=>⟨fun h2=>?_,fun h2=>?_⟩⟩<;>refine Rx ?_<;>unfold JV
 . rw[if_pos (by omega)];rfl
 . exact Zbq
 rw[if_neg (by omega),if_neg (by omega)];rfl
theorem Ob {a b:Nat} (ha:a<W^16) (hb:b<W^16) (H:aA):Sg 164 [.agg (wC (bJ 16 a)),.agg (wC (bJ 16 b))] H (.ret (.int .i64 (JV a b))) H:=by
 refine So aXx Zag ?_ H;unfold aMt;dsimp only;have la:=iL (.bJ a);have lb:=iL (.bJ b);simp only[↓zP,zJ,Nat.reduceLT,Nat.reduceEqDiff];refine aJ (iP [5] (fun m vs H'=>vs=[.int .i64 ((m:Int) -1)]/\m<=16/\a / W^m=b / W^m/\H'.get 0=some (.cells (wC (bJ 16 a)) false)/\H'.get 1=some (.cells (wC (bJ 16 b)) false)) 16 (by rfl) ?_ ?_)
 . refine⟨by simp only[sm,zB];rfl,by omega,by rw[Eh ha,Eh hb],by simp only[zI,Nat.reduceEqDiff],by simp only[zI,Nat.reduceEqDiff]⟩
 rintro m f H hk ⟨hv,hm,hd,g0,g1⟩;simp only[zM] at hv;simp only[↓zP,zJ,Nat.reduceLT,hv];refine⟨fun h=>?_,fun h=>?_⟩
 . obtain⟨m,rfl⟩:∃k,m=k+1:=⟨m -1,by omega⟩;have e:((m+1:Nat):Int) -1=(m:Nat):=by omega
   refine aJ ?_;simp only[↓zP,e];refine Dz ?_;simp only[↓zP,zJ,Nat.reduceLT,Nat.reduceEqDiff,Nat.reduceAdd,zD,reduceCtorEq,hv,e,hk 2 rfl,hk 3 rfl,aB,g0,g1,show m<16 by omega,show m+1<=16 by omega,la,lb,lI (show m<16 by omega)];by_cases cQ:bL a m=bL b m
   . simp only[zG,cQ,Jg];have w:IntKind.i64.wrap ((m:Int) -1)=(m:Int) -1:=wrap_i64 (by omega) (by omega);exact⟨m,by omega,by rw[w],by omega,Qc hd cQ⟩
   have hb:(((bL a m:Nat):Int) != ((bL b m:Nat):Int))=true:=Zah;simp only[zG,hb];refine Dz ?_;simp only[↓zP,zJ,Nat.reduceLT,Nat.reduceEqDiff,Nat.reduceAdd,zD,reduceCtorEq,hv,e,hk 2 rfl,hk 3 rfl,aB,g0,g1,show m<16 by omega,show m+1<=16 by omega,la,lb,lI (show m<16 by omega)];refine fP (Rr (bL a m) (bL b m) _) ?_;simp only[↓zP,zJ,Nat.reduceLT,Nat.reduceEqDiff,Nat.reduceAdd,zD,reduceCtorEq];refine Rx ?_;rw[aEk hd cQ];rfl
 obtain rfl:m=0:=by omega
 simp only[Nat.pow_zero,Nat.div_one] at hd;refine Rx ?_;simp[hd,JV,nB]
theorem aHj {a b:Nat} (ha:a<W^16) (hb:b<W^16) (H:aA):Sg 228 [.agg (wC (bJ 16 a)),.agg (wC (bJ 16 b))] H (.ret (.iA [.agg (wC (bJ 16 (a+b))),.bool (decide (a+b<W^16))])) H:=by
 refine So aZo Zag ?_ H;unfold aOk;dsimp only;have la:=iL (.bJ a);have lb:=iL (.bJ b);simp only[↓zP,zJ,Nat.reduceLT,Nat.reduceEqDiff,Nat.reduceAdd];refine jL [7] (fun i vs H'=>vs=[.int .u64 (cr a b i:Nat)]/\H'.get 0=some (.cells (wC (bJ 16 a)) false)/\H'.get 1=some (.cells (wC (bJ 16 b)) false)/\H'.get 2=some (.cells (wC zs) false)/\H'.get 3=some (.cells (wC (TL i (bJ 16 (a+b)))) false)) 16 (by decide) rfl (by decide) ?_ ?_ ?_ ?_
 . simp only[zB]
 . refine⟨by simp only[sm,zB,Nat.reduceEqDiff,aEo];rfl,?_⟩;rw[Of];simp only[zJ,Nat.reduceEqDiff,Nat.reduceAdd]
 . rintro i f H hi hk e1 ⟨hv,g0,g1,g2,g3⟩;simp only[zM] at hv;have c1:=aIu a b i;have c2:=jU a i;have c3:=jU b i;have hW:W=4294967296:=rfl;have w1:IntKind.u64.wrap ((bL a i:Nat):Int)=(bL a i:Nat):=rY (by omega) (.inl rfl);have w2:IntKind.u64.wrap ((bL b i:Nat):Int)=(bL b i:Nat):=rY (by omega) (.inl rfl);have w3:IntKind.u64.wrap (((bL a i:Nat):Int)+(bL b i:Nat))=((bL a i+bL b i:Nat):Int):=rY (by omega) (.inl (by omega));have w4:IntKind.u64.wrap (((cr a b i:Nat):Int)+((bL a i+bL b i:Nat):Int))=((cr a b i+bL a i+bL b i:Nat):Int):=rY (by omega) (.inl (by omega));refine aJ ?_;simp only[↓zP,zG,Nat.reduceLT,Nat.reduceEqDiff,e1];refine Dz ?_;simp only[↓zP,zJ,Nat.reduceLT,Nat.reduceEqDiff,Nat.reduceAdd,zD,reduceCtorEq,Int.reduceLT,hv,hk 2 rfl,hk 3 rfl,hk 6 rfl,aB,g0,g1,g3,hi,show i+1<=16 by omega,la,lb,lI hi,w1,w2,w3,w4,Yy,Na,IP,<-aEn];exact⟨g2,by rw[Oe hi (by rw[yy])]⟩
 rintro f H hk ⟨hv,g0,g1,g2,g3⟩;simp only[zM] at hv;simp only[↓zP,zJ,Nat.reduceEqDiff,hv,hk 6 rfl,hk 4 rfl,g2,g3,RQ,(iL (.bJ (a+b)))]
 have hc:(((cr a b 16:Nat):Int)==0)=decide (a+b<W^16):=by rw[aRl ha hb];split<;>rename_i hl<;>simp[hl]
 refine⟨rfl,_,by simp only[↓zP,zR,Nat.reduceEqDiff,hk 4 rfl,iL (.bJ (a+b))];rfl,?_⟩;rw[hc];rfl
theorem aRs (u:Nat):(u:Int).fdiv (2^min (Int.toNat 63) IntKind.u64.bits)=((u / 2^63:Nat):Int):=by show(u:Int).fdiv (2^63)=_;rw[Jd _ (by decide)];rfl
theorem VM {a b:Nat} (ha:a<W^16) (hb:b<=a) (H:aA):Sg 229 [.agg (wC (bJ 16 a)),.agg (wC (bJ 16 b))] H (.ret (.agg (wC (bJ 16 (a -b))))) H:=by
 refine So aZp Zag ?_ H;unfold aOl;dsimp only;have la:=iL (.bJ a);have lb:=iL (.bJ b);simp only[↓zP,zJ,Nat.reduceLT,Nat.reduceEqDiff,Nat.reduceAdd];refine jL [6] (fun i vs H'=>vs=[.int .u64 (bw a b i:Nat)]/\H'.get 0=some (.cells (wC (bJ 16 a)) false)/\H'.get 1=some (.cells (wC (bJ 16 b)) false)/\H'.get 2=some (.cells (wC zs) false)/\H'.get 3=some (.cells (wC (TL i (bJ 16 (a -b)))) false)) 16 (by decide) rfl (by decide) ?_ ?_ ?_ ?_
 . simp only[zB]
 . refine⟨by simp only[sm,zB,Nat.reduceEqDiff,aEa];rfl,?_⟩;rw[Of];simp only[zJ,Nat.reduceEqDiff,Nat.reduceAdd]
 . rintro i f H hi hk e1 ⟨hv,g0,g1,g2,g3⟩;simp only[zM] at hv;have c1:bw a b i<=1:=by unfold bw;split<;>omega
   have c2:=jU a i;have c3:=jU b i;have c4:=yz hb i;have c5:=aDz a b i;have hW:W=4294967296:=rfl;have w1:IntKind.u64.wrap ((bL a i:Nat):Int)=(bL a i:Nat):=rY (by omega) (.inl rfl);have w2:IntKind.u64.wrap ((bL b i:Nat):Int)=(bL b i:Nat):=rY (by omega) (.inl rfl);obtain⟨D,hD⟩:∃D:Nat,(D:Int)=(((bL a i:Nat):Int) -(bL b i:Nat) -(bw a b i:Nat))%2^64:=⟨((((bL a i:Nat):Int) -(bL b i:Nat) -(bw a b i:Nat))%2^64).toNat,Kh (by omega)⟩
   have w3:IntKind.u64.wrap (IntKind.u64.wrap (((bL a i:Nat):Int) -(bL b i:Nat)) -((bw a b i:Nat):Int))=(D:Int):=by simp only[IntKind.wrap,IntKind.bits,IntKind.signed,hD];simp
   have w4:D / 2^63=bw a b (i+1):=(by rw[c5];split<;>omega);refine aJ ?_;simp only[↓zP,zG,Nat.reduceLT,Nat.reduceEqDiff,e1];refine Dz ?_;simp only[↓zP,zJ,Nat.reduceLT,Nat.reduceEqDiff,Nat.reduceAdd,zD,reduceCtorEq,Int.reduceLT,hv,hk 2 rfl,hk 3 rfl,hk 5 rfl,aB,g0,g1,g3,hi,show i+1<=16 by omega,la,lb,lI hi,w1,w2,w3,Yy,aRs,IP,w4];exact⟨g2,by rw[Oe hi (by rw[c4,hW];omega)]⟩
 rintro f H hk ⟨hv,g0,g1,g2,g3⟩;simp only[zM] at hv;simp only[↓zP,zJ,Nat.reduceEqDiff,hk 5 rfl,hk 4 rfl,g2,g3,RQ,(iL (.bJ (a -b)))];exact⟨rfl,_,by simp only[↓zP,zR,Nat.reduceEqDiff,hk 4 rfl,iL (.bJ (a -b))];rfl,rfl⟩
theorem tN {a:List AV} {x:Option Int} (ha:mD a x) (H:aA):Sg 163 [.bD 1 18 [a]] H (.ret (.bool x.isSome)) H:=by obtain⟨r,rfl,-,hr⟩:=ha.raw;have :=ZZ [r] (by simp) H;simpa [hr] using this
theorem AI {a b:List AV} {x y:Option Int} (ha:mD a x) (hb:mD b y) (H:aA):Sg 163 [.bD 1 18 [a,b]] H (.ret (.bool (x.isSome&&y.isSome))) H:=by obtain⟨r,rfl,-,hr⟩:=ha.raw;obtain⟨q,rfl,-,hq⟩:=hb.raw;have :=ZZ [r,q] (by simp) H;simpa [hr,hq] using this
theorem oI {n:Bool} {m:Nat} (hm:m<W^16) {z:Int} (hz:z=sg n m) (H:aA):Sg 167 [.bool n,.agg (wC (bJ 16 m))] H (.ret (.agg (cI z))) H:=by
 have :=Kr n (.bJ m) H
 have e:(n&& !decide (bJ 16 m=zs))=decide (z<0):=by
  have h0:bJ 16 m=zs↔m=0:=by rw[<-AU (.bJ m),jE hm]
  subst hz
  cases n with
  |false=>simp[sg]
  |true=>
   by_cases MR:m=0
   . subst MR;simp[sg,FI]
   have : -(m:Int)<0:=(by omega);simp only[sg,h0,MR,this,if_true,Co,Gm,Iv,Gb]
 have e2:z.natAbs=m:=by rw[hz,lB]
 rw[e] at this;unfold cI
 rwa [e2]
theorem ZA {a b:List AV} {x y:Option Int} (ha:mD a x) (hb:mD b y) (hxy:(x.isSome&&y.isSome)=false) (H:aA):Sg 172 [.agg a,.agg b] H (.ret (.agg EI)) H:=by have hg:=AI ha hb;rw[hxy] at hg;refine So aKf ZaB ?_ H;unfold aDh;dsimp only;simp only[↓zP,zJ,seval,oL ha.len,oL hb.len];refine bY (hg _) ?_;refine Ty ?_;refine bY (EA _) ?_;simp only[↓zP,zJ,seval,EI];exact⟨rfl,_,by simp only[↓zP,zR,seval];rfl,rfl⟩
theorem qj {z w:Int} (hz:z.natAbs<W^16) (hw:w.natAbs<W^16) (H:aA):Sg 172 [.agg (cI z),.agg (cI w)] H (.ret (.agg (cO (norm (z+w))))) H:=by
 refine So aKf (by simp only[sf,sfI]) ?_ H;unfold aDh;dsimp only;have la:=iL (.bJ z.natAbs);have lb:=iL (.bJ w.natAbs);refine Ty ?_;refine bY (AI (.enc hz) (.enc hw) _) ?_;simp only[↓zP,zJ,seval,Bc,Cp,cI,la,lb];by_cases hs:decide (z<0)=decide (w<0)
 . simp only[zG,seval,hs,beq_self_eq_true];refine bY (aHj hz hw _) ?_;have hl:=iL (.bJ (z.natAbs+w.natAbs))
   have e:z+w=sg (decide (w<0)) (z.natAbs+w.natAbs):=by by_cases h1:z<0<;>by_cases h2:w<0<;>simp[h1,h2,sg] at hs ⊢ <;>omega
   have e2:(z+w).natAbs=z.natAbs+w.natAbs:=(by rw[e,lB]);simp only[↓zP,zJ,seval,hl];refine⟨fun h=>?_,fun h=>?_⟩
   . refine bY (oI h e _) ?_;have hr:norm (z+w)=some (z+w):=(by unfold norm;rw[e2,if_pos h]);have hl:=iL (.bJ (z+w).natAbs);simp only[↓zP,zJ,seval,cI,hl];refine⟨rfl,_,by simp only[↓zP,zR,seval,hl];rfl,?_⟩;rw[hr];rfl
   refine bY (EA _) ?_;simp only[↓zP,zJ,seval,EI];refine Rx ?_;have hr:norm (z+w)=none:=(by unfold norm;rw[e2,if_neg h]);rw[hr];rfl
 have BX:(decide (z<0)==decide (w<0))=false:=by simpa using hs
 have hb:(z+w).natAbs<W^16:=by generalize W^16=X at *;by_cases h1:z<0<;>by_cases h2:w<0<;>simp[h1,h2] at hs<;>omega
 have hr:norm (z+w)=some (z+w):=by unfold norm;rw[if_pos hb]
 have hl:=iL (.bJ (z+w).natAbs);simp only[zG,seval,BX];refine bY (Ob hz hw _) ?_;refine Tz ?_;refine⟨fun h=>?_,fun h=>?_⟩
 . have hle:w.natAbs<=z.natAbs:=by
    unfold JV at h;split at h<;>omega
   have e:z+w=sg (decide (z<0)) (z.natAbs -w.natAbs):=by by_cases h1:z<0<;>by_cases h2:w<0<;>simp[h1,h2,sg] at hs ⊢ <;>omega
   refine Dz ?_;simp only[↓zP,zJ,seval,zD,la,lb];refine fP (VM hz hle _) ?_;simp only[seval];refine fP (oI (Ja (Nat.sub_le _ _) hz) e _) ?_;simp only[↓zP,zJ,seval,zD,cI,hl];refine⟨rfl,_,by simp only[↓zP,zR,seval,hl];rfl,?_⟩;rw[hr];rfl
 have hle:z.natAbs<=w.natAbs:=by unfold JV at h;split at h<;>(try split at h)<;>omega
 have e:z+w=sg (decide (w<0)) (w.natAbs -z.natAbs):=by by_cases h1:z<0<;>by_cases h2:w<0<;>simp[h1,h2,sg] at hs ⊢ <;>omega
 refine Dz ?_;simp only[↓zP,zJ,seval,zD,la,lb];refine fP (VM hw hle _) ?_;simp only[seval];refine fP (oI (Ja (Nat.sub_le _ _) hw) e _) ?_;simp only[↓zP,zJ,seval,zD,cI,hl];refine⟨rfl,_,by simp only[↓zP,zR,seval,hl];rfl,?_⟩;rw[hr];rfl
theorem qi {a b:List AV} {x y:Option Int} (ha:mD a x) (hb:mD b y) (H:aA):Sg 172 [.agg a,.agg b] H (.ret (.agg (cO (Wn x y)))) H:=by
 cases x with
 |none=>exact ZA ha hb rfl H
 |some z=>cases y with
  |none=>exact ZA ha hb rfl H
  |some w=>obtain⟨rfl,hz⟩:=ha.some;obtain⟨rfl,hw⟩:=hb.some;exact qj hz hw H
theorem Wi {a:List AV} {x:Option Int} (ha:mD a x) (H:aA):Sg 222 [.agg a] H (.ret (.agg (cO (Xw x)))) H:=by
 refine So aZk Zbx ?_ H;unfold aOg;dsimp only;simp only[↓zP,zJ,seval,oL ha.len];refine bY (tN ha _) ?_
 cases x with
 |none=>simp only[↓zP,zJ,seval,Cj];refine bY (EA _) ?_;simp only[↓zP,zJ,seval,EI];exact⟨rfl,_,by simp only[↓zP,zR,seval];rfl,rfl⟩
 |some z=>obtain⟨rfl,hz⟩:=ha.some;have la:=iL (.bJ z.natAbs);have hl:=iL (.bJ (-z).natAbs);simp only[↓zP,zJ,seval,Bc,cI,la];refine bY (oI (n:= !decide (z<0)) hz (z:= -z) (by by_cases h:z<0<;>simp[sg,h]<;>omega) _) ?_;simp only[↓zP,zJ,seval,cI,hl];exact⟨rfl,_,by simp only[↓zP,zR,seval,hl];rfl,rfl⟩
theorem aLh {a b:List AV} {x y:Option Int} (ha:mD a x) (hb:mD b y) (H:aA):Sg 281 [.agg a,.agg b] H (.ret (.agg (cO (Wn x (Xw y))))) H:=by
 refine So bAy ZaB ?_ H;unfold aPu;dsimp only;refine Ty ?_;refine Dz ?_;simp only[↓zP,zJ,seval,zD,oL ha.len,oL hb.len];refine fP (Wi hb _) ?_;simp only[seval];refine fP (qi ha hb.neg _) ?_;simp only[↓zP,zJ,seval,zD]
 (refine Rx ?_;rfl)
theorem IY (a:Nat) (H:aA):Sg 224 [.agg (wC (bJ 16 a))] H (.ret (.int .i64 (sz a:Nat))) H:=by
 refine So aKn Zag ?_ H;unfold aDp;dsimp only;have la:=iL (.bJ a);simp only[↓zP,zJ,Nat.reduceLT];refine aJ (iP [3] (fun m vs H'=>vs=[.int .i64 (m:Nat)]/\m<=16/\cx m a=sz a/\H'.get 0=some (.cells (wC (bJ 16 a)) false)) 16 (by rfl) ?_ ?_)
 . refine⟨by simp only[sm,zB];rfl,by omega,rfl,by simp only[zI]⟩
 rintro m f H hk ⟨hv,hm,hd,g0⟩;simp only[zM] at hv;simp only[↓zP,zJ,Nat.reduceLT,Nat.reduceEqDiff,hv]
 cases m with
 |zero=>simp only[zJ,show decide (((0:Nat):Int)>0)=false from rfl];refine Rx ?_;rw[<-hd];rfl
 |succ m=>
  have w:IntKind.i64.wrap (((m+1:Nat):Int) -1)=(m:Nat):=wI (by omega);simp only[↓zP,zJ,Nat.reduceEqDiff,show decide (((m+1:Nat):Int)>0)=true from Aj (by omega),hk 1 rfl,w,aB,g0,show m<16 by omega,show m+1<=16 by omega,la,lI (show m<16 by omega)];by_cases hz:bL a m=0
  . simp only[zG,hz,show(((0:Nat):Int)==0)=true from rfl];refine aJ ?_;simp only[↓zP,zG,Nat.reduceLT,Nat.reduceEqDiff,hv,w];refine⟨m,by omega,rfl,by omega,by rw[<-hd,cx,if_pos hz],g0⟩
  have hb:(((bL a m:Nat):Int)==0)=false:=by simp;omega
  simp only[zG,hb];refine Rx ?_;rw[<-hd,cx,if_neg hz];rfl
theorem HY:∀b:Nat,b<256->([0,1,2,2,3,3,3,3,4,4,4,4,4,4,4,4,5,5,5,5,5,5,5,5,5,5,5,5,5,5,5,5,6,6,6,6,6,6,6,6,6,6,6,6,6,6,6,6,6,6,6,6,6,6,6,6,6,6,6,6,6,6,6,6,7,7,7,7,7,7,7,7,7,7,7,7,7,7,7,7,7,7,7,7,7,7,7,7,7,7,7,7,7,7,7,7,7,7,7,7,7,7,7,7,7,7,7,7,7,7,7,7,7,7,7,7,7,7,7,7,7,7,7,7,7,7,7,7,8,8,8,8,8,8,8,8,8,8,8,8,8,8,8,8,8,8,8,8,8,8,8,8,8,8,8,8,8,8,8,8,8,8,8,8,8,8,8,8,8,8,8,8,8,8,8,8,8,8,8,8,8,8,8,8,8,8,8,8,8,8,8,8,8,8,8,8,8,8,8,8,8,8,8,8,8,8,8,8,8,8,8,8,8,8,8,8,8,8,8,8,8,8,8,8,8,8,8,8,8,8,8,8,8,8,8,8,8,8,8,8,8,8,8,8,8,8,8,8,8,8,8,8,8,8,8,8]:List UInt8)[b]?=some (UInt8.ofNat (fH b)):=by decide+kernel
theorem aIy (u k:Nat) (kk:IntKind) (hk:k<=kk.bits):(u:Int).fdiv (2^min (Int.toNat k) kk.bits)=((u / 2^k:Nat):Int):=by rw[show min (Int.toNat k) kk.bits=k by simp;omega,Jd _ (by exact_mod_cast Az _)];simp
theorem MW {b n:Nat} (hb:b<256) (hn:n<=24):IntKind.i64.wrap ((n:Int)+IntKind.i64.wrap ((UInt8.ofNat (fH b)).toNat:Int))=((n+fH b:Nat):Int):=by
 have h1:fH b<=8:=oO.2 hb;have h2:(UInt8.ofNat (fH b)).toNat=fH b:=by simp;omega
 have h3:IntKind.i64.wrap ((fH b:Nat):Int)=(fH b:Nat):=wrap_i64 (by omega) (by omega);rw[h2,h3,wrap_i64 (by omega) (by omega)];simp
theorem wu8 {b:Nat} (hb:b<256):IntKind.u8.wrap (b:Int)=(b:Int):=by simp only[IntKind.wrap,IntKind.bits,IntKind.signed];simp;omega
theorem qz {a:Nat} (ha:a<W) (H:aA):Sg 256 [.int .u32 a] H (.ret (.int .i64 (fH a:Nat))) H:=by
 refine So aKo Zag ?_ H;unfold aDq;dsimp only;have hW:W=4294967296:=rfl;simp only[↓zP,zJ,Nat.reduceLT,Nat.reduceEqDiff,Int.reduceLT];have f16:∀u:Nat,(u:Int).fdiv (2^min (Int.toNat 16) IntKind.u32.bits)=((u / 2^16:Nat):Int):=fun u=>aIy u 16 .u32 (by decide);have f8:∀u:Nat,(u:Int).fdiv (2^min (Int.toNat 8) IntKind.u32.bits)=((u / 2^8:Nat):Int):=fun u=>aIy u 8 .u32 (by decide);have w24:IntKind.i64.wrap (16+8)=((24:Nat):Int):=by decide
 have w8:IntKind.i64.wrap (0+8)=((8:Nat):Int):=by decide
 refine⟨fun h=>?_,fun h=>?_⟩
 . simp only[f16];refine⟨fun h2=>?_,fun h2=>?_⟩
   . have hb:a / 2^16 / 2^8<256:=(by omega);simp only[↓zP,zJ,f8,wu8 hb,aB,HY _ hb,w24,MW hb (show 24<=24 by omega)];refine Rx ?_
     have e:fH a=24+fH (a / 2^16 / 2^8):=by rw[Ia,<-Kc,sG (k:=16+8) (by omega)];omega
     rw[e];rfl
   have hb:a / 2^16<256:=(by omega);have :=MW hb (show 16<=24 by omega);simp only[↓zP,zJ,wu8 hb,aB,HY _ hb];refine Rx ?_;have e:fH a=16+fH (a / 2^16):=(by rw[sG (k:=16) (by omega)];omega);rw[e,<-this];rfl
 refine⟨fun h2=>?_,fun h2=>?_⟩
 . have hb:a / 2^8<256:=by omega
   simp only[↓zP,zJ,f8,wu8 hb,aB,HY _ hb,w8,MW hb (show 8<=24 by omega)];refine Rx ?_;have e:fH a=8+fH (a / 2^8):=(by rw[sG (k:=8) (by omega)];omega);rw[e];rfl
 have hb:a<256:=by omega
 have :=MW hb (show 0<=24 by omega);simp only[↓zP,zJ,wu8 hb,aB,HY _ hb];refine Rx ?_;rw[Cq] at this;rw[<-this];rfl
theorem aJa {α:Type} (a b d:α) (l:List α) (k:Nat):(a::b::l).getD (2+k) d=l.getD k d:=by rw[Fa];rfl
def sq:Option Int->Nat
 |some z=>fH z.natAbs
 |none=>0
theorem aCp {a:List AV} {x:Option Int} (ha:mD a x) (H:aA):Sg 190 [.agg a] H (.ret (.int .i64 (sq x:Nat))) H:=by
 refine So aKh Zbx ?_ H;unfold aDj;dsimp only;obtain⟨r,rfl,hx,-⟩:=ha.raw;have hr:=bj r.hl;have lr:=KP r.hl;have hs:=IY (CD r.l);rw[lr] at hs;have sL:=tN ha;rw[show r.cells=.bool r.b::.bool r.n::wC r.l from rfl] at sL;simp only[↓zP,zJ,seval,yZ.cells,iL r.hl];refine bY (hs _) ?_;simp only[↓zP,zJ,seval,iL r.hl];refine bY (sL _) ?_
 cases x with
 |none=>simp only[↓zP,zJ,seval,Cj];exact⟨rfl,_,by simp only[↓zP,zR,seval];rfl,rfl⟩
 |some z=>
  have hz:=ha.fit;obtain⟨hb,hn,hl,-⟩:=Rl r.hl hx.symm;have ez:CD r.l=z.natAbs:=by rw[hl,jE hz]
  rw[ez];by_cases h0:sz z.natAbs=0
  . simp only[↓zP,zJ,seval,Bc,h0];refine Rx ?_;rw[sq,(aIa hz).1 h0];rfl
  have hb:(((sz z.natAbs:Nat):Int)==0)=false:=by simp;omega
  have l16:=aCc z.natAbs;have w1:IntKind.i64.wrap (((sz z.natAbs:Nat):Int) -1)=((sz z.natAbs -1:Nat):Int):=wI (by omega);have w2:IntKind.i64.wrap (32*((sz z.natAbs -1:Nat):Int))=((32*(sz z.natAbs -1):Nat):Int):=by rw[wrap_i64 (by omega) (by omega)];simp
  have hg:(wC r.l).getD (sz z.natAbs -1) aD=.int .u32 (bL z.natAbs (sz z.natAbs -1)):=by rw[hl,lI (by omega)]
  have Uq:fH (bL z.natAbs (sz z.natAbs -1))<=32:=oO.2 (jU _ _)
  have w3:IntKind.i64.wrap (((32*(sz z.natAbs -1):Nat):Int)+(fH (bL z.natAbs (sz z.natAbs -1)):Nat))=((fH z.natAbs:Nat):Int):=by rw[wrap_i64 (by omega) (by omega),fw hz h0];simp
  simp only[↓zP,zJ,seval,Bc,hb,w1,w2,aB,show sz z.natAbs -1<16 by omega,show 2+(sz z.natAbs -1)<=17 by omega,iL r.hl,aJa,hg];refine bY (qz (jU z.natAbs (sz z.natAbs -1)) _) ?_;simp only[↓zP,zG,seval,w3]
  (refine Rx ?_;rfl)
def qM:Option Int->Int×Bool
 |some z=>if -2^63<=z/\z<2^63 then(z,true) else(0,false)
 |none=>(0,false)
theorem aTu {a b:Nat} (ha:a<4294967296) (hb:b<4294967296):QO .or .u64 (IntKind.u64.wrap (((a:Nat):Int)*2^(min (Int.toNat 32) IntKind.u64.bits))) ((b:Nat):Int)=some (.int .u64 ((a*4294967296+b:Nat):Int)):=by
 have e:IntKind.u64.wrap (((a:Nat):Int)*2^(min (Int.toNat 32) IntKind.u64.bits))=((a*4294967296:Nat):Int):=by show IntKind.u64.wrap (((a:Nat):Int)*4294967296)=_;exact rY (by omega) (by omega)
 rw[e]
 have e2:(a*4294967296|||b)=a*4294967296+b:=by have :=Nat.two_pow_add_eq_or_of_lt (i:=32) hb a;rw[Dg] at this;exact this.symm
 have e3:∀n:Nat,BitVec.ofInt 64 (n:Int)=BitVec.ofNat 64 n:=fun n=>by simp
 simp only[QO];congr 2;rw[show IntKind.u64.bits=64 from rfl,e3,e3,<-BitVec.ofNat_or,e2,BitVec.toNat_ofNat,Dl (by omega)];exact rY (by omega) (.inl rfl)
theorem Mt {a:List AV} {x:Option Int} (ha:mD a x) (H:aA):Sg 215 [.agg a] H (.ret (.iA [.int .i64 (qM x).1,.bool (qM x).2])) H:=by
 refine So aZf Zbx ?_ H;unfold aOb;dsimp only;simp only[↓zP,zJ,Nat.reduceLT,Nat.reduceEqDiff,oL ha.len];refine bY (tN ha _) ?_
 cases x with
 |none=>simp only[↓zP,zJ,Nat.reduceLT,Nat.reduceEqDiff,Cj];exact⟨rfl,_,by simp only[↓zP,zR,Nat.reduceEqDiff];rfl,rfl⟩
 |some z=>
  obtain⟨rfl,hz⟩:=ha.some;have la:=iL (.bJ z.natAbs);have hW:W=4294967296:=rfl;have hW2:W^2=2^64:=rfl;simp only[↓zP,zJ,Nat.reduceLT,Nat.reduceEqDiff,Bc];refine bY (aCp ha _) ?_;simp only[↓zP,zJ,Nat.reduceLT,Nat.reduceEqDiff,sq];refine⟨fun h=>?_,fun h=>?_⟩
  . have :¬z.natAbs<2^64:=fun hh=>by have :=oO.2 hh;omega
    refine Rx ?_;rw[qM,if_neg (by omega)];rfl
  have fJ:z.natAbs<2^64:=oO.1 (by omega);have e0:(wC (bJ 16 z.natAbs)).getD 0 aD=.int .u32 (bL z.natAbs 0:Nat):=lI (by omega);have e1:(wC (bJ 16 z.natAbs)).getD 1 aD=.int .u32 (bL z.natAbs 1:Nat):=lI (by omega);have h0:=jU z.natAbs 0;have h1:=jU z.natAbs 1;have w0:IntKind.u64.wrap ((bL z.natAbs 0:Nat):Int)=(bL z.natAbs 0:Nat):=rY (by omega) (.inl rfl);have w1:IntKind.u64.wrap ((bL z.natAbs 1:Nat):Int)=(bL z.natAbs 1:Nat):=rY (by omega) (.inl rfl)
  have et:bL z.natAbs 1*W+bL z.natAbs 0=z.natAbs:=by have h2:bL z.natAbs 0=z.natAbs%W:=(by simp[bL]);have h3:bL z.natAbs 1=z.natAbs / W:=(by unfold bL;rw[Nat.pow_one,hW,Dl (by omega)]);rw[h2,h3,Dg];exact Ff _ _
  have ho:=aTu h1 h0;rw[hW] at et;rw[et] at ho;unfold cI;simp only[↓zP,zJ,Nat.reduceLT,Nat.reduceAdd,Nat.reduceLeDiff,Int.reduceLT,la,sT,e0,e1,w0,w1,ho];refine aJ ?_;by_cases Pu:z<0
  . simp only[↓zP,zJ,Nat.reduceLT,Nat.reduceEqDiff,Nat.reduceAdd,Nat.reduceLeDiff,Aj Pu,la];refine⟨fun h4=>?_,fun h4=>?_⟩
    . have w2:IntKind.u64.wrap (0 -((z.natAbs:Nat):Int))=((2^64 -z.natAbs:Nat):Int):=rY (by omega) (by omega)
      have w3:IntKind.i64.wrap ((2^64 -z.natAbs:Nat):Int)=z:=by simp only[IntKind.wrap,IntKind.bits,IntKind.signed];simp;omega
      refine⟨rfl,_,by simp only[↓zP,zR,Nat.reduceEqDiff,w2,w3];rfl,?_⟩;rw[qM,if_pos (by omega)];rfl
    refine Rx ?_;rw[qM,if_neg (by omega)];rfl
  simp only[↓zP,zJ,Nat.reduceLT,Nat.reduceEqDiff,Nat.reduceAdd,Nat.reduceLeDiff,Ag Pu,la];refine⟨fun h4=>?_,fun h4=>?_⟩
  . have w3:IntKind.i64.wrap ((z.natAbs:Nat):Int)=z:=by
     rw[wrap_i64 (by omega) (by omega)];omega
    refine⟨rfl,_,by simp only[↓zP,zR,Nat.reduceEqDiff,w3];rfl,?_⟩;rw[qM,if_pos (by omega)];rfl
  refine Rx ?_;rw[qM,if_neg (by omega)];rfl
def yR:Option Int->Int
 |some z=>if z<0 then -1 else if z=0 then 0 else 1
 |none=>0
def aUs:Option Int->Option Int
 |some z=>some z.natAbs
 |none=>none
def rP:Option Int->Option Int->Int
 |some x,some y=>if x<y then -1 else if y<x then 1 else 0
 |none,none=>0
 |none,_=> -1
 |_,none=>1
theorem AN {n:Nat} (h:n<W^16):bJ 16 n=zs↔n=0:=by rw[<-AU (.bJ n),jE h]
theorem MG {a:List AV} {x:Option Int} (ha:mD a x) (H:aA):Sg 177 [.agg a] H (.ret (.int .i64 (yR x))) H:=by
 refine So aYg Zbx ?_ H;unfold aNc;dsimp only;refine Ty ?_;refine aJ ?_;simp only[↓zP,zJ,seval,oL ha.len];refine bY (tN ha _) ?_
 cases x with
 |none=>simp only[↓zP,zJ,seval,Cj];exact⟨rfl,_,by simp only[↓zP,zR,seval];rfl,rfl⟩
 |some z=>
  obtain⟨rfl,hz⟩:=ha.some;have la:=iL (.bJ z.natAbs);unfold cI;by_cases Pu:z<0
  . have he:decide (bJ 16 z.natAbs=zs)=false:=by rw[Ag];rw[AN hz];omega
    simp only[↓zP,zJ,seval,Bc,la,he,Aj Pu];refine Rx ?_;rw[yR,if_pos Pu];rfl
  by_cases h1:z=0
  . subst h1;simp only[↓zP,zJ,seval,Bc];exact Zab
  have he:decide (bJ 16 z.natAbs=zs)=false:=by rw[Ag];rw[AN hz];omega
  simp only[↓zP,zJ,seval,Bc,la,he,Ag Pu];refine Rx ?_;rw[yR,if_neg Pu,if_neg h1];rfl
theorem aLa {a:List AV} {x:Option Int} (ha:mD a x) (H:aA):Sg 226 [.agg a] H (.ret (.agg (cO (aUs x)))) H:=by
 refine So aZm Zbx ?_ H;unfold aOi;dsimp only;simp only[↓zP,zJ,seval,oL ha.len];refine bY (tN ha _) ?_
 cases x with
 |none=>simp only[↓zP,zJ,seval,Cj];refine bY (EA _) ?_;refine Ty ?_;exact⟨rfl,_,by simp only[↓zP,zR,seval];rfl,rfl⟩
 |some z=>obtain⟨rfl,hz⟩:=ha.some;have la:=iL (.bJ z.natAbs);unfold cI;simp only[↓zP,zJ,seval,Bc,la];refine bY (oI (n:=false) hz (z:=(z.natAbs:Int)) rfl _) ?_;refine Ty ?_;exact⟨rfl,_,by simp only[↓zP,zR,seval];rfl,rfl⟩
theorem aLb {a b:List AV} {x y:Option Int} (ha:mD a x) (hb:mD b y) (H:aA):Sg 126 [.agg a,.agg b] H (.ret (.int .i64 (rP x y))) H:=by
 refine So aWz ZaB ?_ H;unfold aLw;dsimp only;refine bQ ?_;refine Ty ?_;refine fF ?_;refine Dz ?_;simp only[↓zP,zJ,seval,zD,oL ha.len];refine fP (tN ha _) ?_;simp only[↓zP,zJ,seval,zD,oL hb.len];refine fP (tN hb _) ?_;simp only[↓zP,zJ,seval,zD];refine bR ?_;refine aN fun K hK=>?_;refine aJ ?_
 cases x with
 |none=>
  cases y<;>
  . simp only[↓zP,zJ,seval,Cj,Bc];exact Zab
 |some z=>cases y with
  |none=>simp only[↓zP,zJ,seval,Cj,Bc];exact⟨rfl,_,by simp only[↓zP,zR,seval];rfl,rfl⟩
  |some w=>
   obtain⟨rfl,hz⟩:=ha.some;obtain⟨rfl,hw⟩:=hb.some;have la:=iL (.bJ z.natAbs);have lb:=iL (.bJ w.natAbs);unfold cI;by_cases h1:z<0<;>by_cases h2:w<0
   . simp only[↓zP,zJ,seval,Bc,Aj h1,Aj h2,la,lb];refine bY (Ob hw hz _) ?_;refine Tz ?_;refine⟨rfl,_,by simp only[↓zP,zR,seval];rfl,?_⟩
     have e:rP (some z) (some w)=JV w.natAbs z.natAbs:=by
      simp only[rP,JV]
      repeat' split
      all_goals first|rfl|omega
     rw[e];rfl
   . simp only[↓zP,zJ,seval,Bc,Aj h1,Ag h2,la,lb];refine⟨rfl,_,by simp only[↓zP,zR,seval];rfl,?_⟩;rw[rP,if_pos (by omega)];rfl
   . simp only[↓zP,zJ,seval,Bc,Ag h1,Aj h2,la,lb];refine⟨rfl,_,by simp only[↓zP,zR,seval];rfl,?_⟩;rw[rP,if_neg (by omega),if_pos (by omega)];rfl
   simp only[↓zP,zJ,seval,Bc,Ag h1,Ag h2,la,lb];apply hK;simp only[↓zP,zJ,seval,la,lb];refine bY (Ob hz hw _) ?_;refine Tz ?_;refine⟨rfl,_,by simp only[↓zP,zR,seval];rfl,?_⟩
   have e:rP (some z) (some w)=JV z.natAbs w.natAbs:=by
    simp only[rP,JV]
    repeat' split
    all_goals first|rfl|omega
   rw[e];rfl
theorem uj {z:Int} (h:z.natAbs<2^62):z.natAbs<W^16:=w63 (by omega)
theorem aAx (x:Int) (H:aA):Sg 343 [.int .i64 x] H (.ret (.bool (decide (x<2147483648)&&decide (x> -2147483648)))) H:=by
 refine So bCj Zag ?_ H;unfold aRb;dsimp only
 cases h:decide (x<2147483648) with
 |true=>simp only[↓zP,zJ,seval,h];exact⟨rfl,_,by simp only[↓zP,zR,seval];rfl,rfl⟩
 |false=>simp only[↓zP,zJ,seval,h];exact⟨rfl,_,by simp only[↓zP,zR,seval];rfl,rfl⟩
theorem Li {x:Int} (h:x.natAbs<2^31) (H:aA):Sg 343 [.int .i64 x] H (.ret (.bool true)) H:=by
 have :=aAx x H
 rwa [Aj (show x<2147483648 by omega),Aj (show x> -2147483648 by omega)] at this
theorem tX {x y:Int} (hx:x.natAbs<2^31) (hy:y.natAbs<2^31) (H:aA):Sg 312 [.agg (cI x),.agg (cI y)] H (.ret (.agg (cI (x*y)))) H:=by
 refine Sp bBu Zav ZaL ?_ H;unfold aQp;dsimp only
 have hb:(x*y).natAbs<2^62:=by
  rw[Ga];have :=Nat.mul_lt_mul'' hx hy;have e:(2:Nat)^31*2^31=2^62:=by decide
  omega
 have wm:IntKind.i64.wrap (x*y)=x*y:=wrap_i64 (by omega) (by omega);have ho:=vI (z:=x*y) (by omega) (by omega);refine bQ ?_;refine Ty ?_;refine fF ?_;refine Ty ?_;refine bY (rG (z:=x) (by omega) _) ?_;refine Ty ?_;refine fF ?_;refine Ty ?_;refine bY (rG (z:=y) (by omega) _) ?_;refine Ty ?_;refine bR ?_;refine aN fun K hK=>?_;refine Tz ?_;refine bY (Li hx _) ?_;refine Tz ?_;refine bY (Li hy _) ?_;simp only[↓zP,zG,seval,wm];refine bY (ho _) ?_;refine Ty ?_;exact ZaQ
theorem FO {x y:Int} (hx:x.natAbs<2^62) (hy:y.natAbs<2^62) (H:aA):Sg 339 [.agg (cI x),.agg (cI y)] H (.ret (.agg (cI (x+y)))) H:=by refine Sp bCe Zav ZaL ?_ H;unfold aQx;dsimp only;have wm:IntKind.i64.wrap (x+y)=x+y:=wrap_i64 (by omega) (by omega);have ho:=vI (z:=x+y) (by omega) (by omega);refine bQ ?_;refine Ty ?_;refine fF ?_;refine Ty ?_;refine bY (rG hx _) ?_;refine Ty ?_;refine fF ?_;refine Ty ?_;refine bY (rG hy _) ?_;refine Ty ?_;refine bR ?_;refine aN fun K hK=>?_;simp only[↓zP,zG,seval,wm];refine bY (ho _) ?_;refine Ty ?_;refine Rx ?_;rfl
theorem aHr {z:Int} (hz:z.natAbs<W^16) (H:aA):Sg 341 [.agg (cI z)] H (.ret (.agg (cI (-z)))) H:=by refine Sp bCh Zav ZaL ?_ H;unfold aQz;dsimp only;have LR:=tW (mD.enc hz);have hd:=tY false (decide (z<0)) (.bJ z.natAbs);have hn:=xY (!decide (z<0)) 0 (GF z.natAbs) (by have :=tI.2 hz;omega);rw[yH,IJ (by rw[lB];exact hz),show sg (!decide (z<0)) z.natAbs= -z from by unfold sg;split<;>simp_all<;>omega] at hn;rw[jE hz] at hd;have jr:AV.bool false::AV.bool (decide (z<0))::wC (bJ 16 z.natAbs)=cI z:=rfl;rw[jr] at hd;have h1:(cI z).getD 1 aD=.bool (decide (z<0)):=rfl;refine bQ ?_;refine Ty ?_;refine fF ?_;refine Ty ?_;refine bY (LR _) ?_;simp only[Bc];refine Ty ?_;refine fF ?_;refine Dz ?_;simp only[↓zP,zJ,seval,zD,h1];refine fP (hd _) ?_;simp only[seval];refine fP (hn _) ?_;simp only[cO];simp only[↓zP,zJ,seval,zD];refine bR ?_;refine Tx ?_;refine Rx ?_;rfl
theorem YR {x y:Int} (hx:x.natAbs<2^62) (hy:y.natAbs<2^62) (H:aA):Sg 311 [.agg (cI x),.agg (cI y)] H (.ret (.agg (cI (x -y)))) H:=by refine Sp bBt Zav ZaL ?_ H;unfold aQo;dsimp only;have ha:=FO hx (y:= -y) (by rwa [Kf]);rw[<-Int.sub_eq_add_neg] at ha;refine bQ ?_;refine Ty ?_;refine fF ?_;refine Dz ?_;simp only[↓zP,zJ,seval,zD];refine fP (aHr (uj hy) _) ?_;simp only[seval];refine fP (ha _) ?_;simp only[↓zP,zJ,seval,zD];refine bR ?_;refine Tx ?_;refine Rx ?_;rfl
theorem aHo {z:Int} (hz:z.natAbs<W^16) (H:aA):Sg 370 [.agg (cI z)] H (.ret (.agg (cI (z.natAbs:Int)))) H:=by refine Sp bCk Zav ZaL ?_ H;unfold aRc;dsimp only;have LR:=tW (mD.enc hz);have hd:=tY false (decide (z<0)) (.bJ z.natAbs);have hn:=xY false 0 (GF z.natAbs) (by have :=tI.2 hz;omega);rw[yH,IJ (by rw[lB];exact hz),show sg false z.natAbs=(z.natAbs:Int) from rfl] at hn;rw[jE hz] at hd;have jr:AV.bool false::AV.bool (decide (z<0))::wC (bJ 16 z.natAbs)=cI z:=rfl;rw[jr] at hd;refine bQ ?_;refine Ty ?_;refine fF ?_;refine Ty ?_;refine bY (LR _) ?_;simp only[Bc];refine Ty ?_;refine bR ?_;refine Ty ?_;refine bY (hd _) ?_;refine bY (hn _) ?_;simp only[cO];refine Ty ?_;refine Rx ?_;rfl
def aBs (z:Int):Int:=if z=0 then 0 else if z<0 then -1 else 1
theorem aAp {z:Int} (hz:z.natAbs<W^16) (H:aA):Sg 335 [.agg (cI z)] H (.ret (.int .i64 (aBs z))) H:=by
 refine So bCa Zav ?_ H;unfold aQt;dsimp only;have LR:=tW (mD.enc hz);have hd:=tY false (decide (z<0)) (.bJ z.natAbs);rw[jE hz] at hd;have jr:AV.bool false::AV.bool (decide (z<0))::wC (bJ 16 z.natAbs)=cI z:=rfl;rw[jr] at hd;have h1:(cI z).getD 1 aD=.bool (decide (z<0)):=rfl;unfold aBs;refine bQ ?_;refine Ty ?_;refine bR ?_;refine aN fun K hK=>?_;refine Ty ?_;refine bY (LR _) ?_;simp only[Bc];refine Ty ?_;refine bY (hd _) ?_;by_cases h0:z=0
 . have hb:(((dg z.natAbs).length:Int)==0)=true:=by
    rw[Cf,SI.2 (by omega)];rfl
   simp only[↓zP,zG,seval,eH,hb];refine Rx ?_;rw[if_pos h0];rfl
 have hb:(((dg z.natAbs).length:Int)==0)=false:=by rw[Bq];intro h;have :=SI.1 (Cm (l:=dg z.natAbs) (by omega));omega
 simp only[↓zP,zG,seval,eH,hb];apply hK;clear hK K
 cases hn:decide (z<0) with
 |true=>rw[hn] at h1;simp only[↓zP,zJ,seval,h1];refine Rx ?_;rw[if_neg h0,if_pos (Cu hn)];rfl
 |false=>rw[hn] at h1;simp only[↓zP,zJ,seval,h1];refine Rx ?_;rw[if_neg h0,if_neg (Dn hn)];rfl
theorem CH {x y:Int} (hx:x.natAbs<W^16) (hy:y.natAbs<W^16) (H:aA):Sg 194 [.agg (cI x),.agg (cI y)] H (.ret (.int .i64 (rP (some x) (some y)))) H:=by
 refine So aYp Zav ?_ H;unfold aNl;dsimp only;have gx:=tW (mD.enc hx);have gy:=tW (mD.enc hy);have dx:=tY false (decide (x<0)) (.bJ x.natAbs);have dy:=tY false (decide (y<0)) (.bJ y.natAbs);rw[jE hx] at dx;rw[jE hy] at dy;rw[show AV.bool false::AV.bool (decide (x<0))::wC (bJ 16 x.natAbs)=cI x from rfl] at dx;rw[show AV.bool false::AV.bool (decide (y<0))::wC (bJ 16 y.natAbs)=cI y from rfl] at dy;have lx:(dg x.natAbs).length<2^29:=by have :=tI.2 hx;omega
 have ly:(dg y.natAbs).length<2^29:=by have :=tI.2 hy;omega
 have l1:=Vn (GF x.natAbs) (GF y.natAbs) lx ly 0 0;have l2:=Vn (GF y.natAbs) (GF x.natAbs) ly lx 0 0;rw[yH,yH] at l1 l2;have x1:(cI x).getD 1 aD=.bool (decide (x<0)):=rfl;have y1:(cI y).getD 1 aD=.bool (decide (y<0)):=rfl;simp only[rP];refine bQ ?_;refine Ty ?_;refine fF ?_;refine Ty ?_;refine bY (gx _) ?_;simp only[Bc];refine Ty ?_;refine fF ?_;refine Ty ?_;refine bY (gx _) ?_;simp only[Bc];refine Ty ?_;refine fF ?_;refine Ty ?_;refine bY (gy _) ?_;simp only[Bc];refine Ty ?_;refine bR ?_;have tf:(true==false)=false:=rfl;have ft:(false==true)=false:=rfl;by_cases x7:x<0
 . rw[Aj x7] at x1;by_cases MT:y<0
   . rw[Aj MT] at y1;refine bQ ?_;simp only[↓zP,zJ,seval,x1,y1];refine fF ?_;refine Ty ?_;refine bY (dx _) ?_;refine Tz ?_;refine fF ?_;refine Ty ?_;refine bY (dy _) ?_;refine Tz ?_;refine fF ?_;simp only[↓zP,zJ,seval,x1];refine bY (dy _) ?_;refine Ty ?_;refine bY (dx _) ?_;refine Tz ?_;refine fF ?_;refine Tz ?_;refine bY (l2 _) ?_;refine Tz ?_;refine fF ?_;refine Tz ?_;refine bY (l1 _) ?_;refine Tz ?_;refine bR ?_;by_cases h1:y.natAbs<x.natAbs
     . have e1:=Aj h1;simp only[↓zP,zG,seval,e1];refine Rx ?_;rw[if_pos (by omega)];rfl
     have e1:=Ag h1;by_cases h2:x.natAbs<y.natAbs
     . have e2:=Aj h2;simp only[↓zP,zG,seval,e1,e2];refine Rx ?_;exact Zbq
     have e2:=Ag h2;simp only[↓zP,zG,seval,e1,e2];refine Rx ?_;rw[if_neg (by omega),if_neg (by omega)];rfl
   rw[Ag MT] at y1;simp only[↓zP,zJ,seval,x1,y1,tf];refine Rx ?_;rw[if_pos (by omega)];rfl
 rw[Ag x7] at x1;by_cases MT:y<0
 . rw[Aj MT] at y1;simp only[↓zP,zJ,seval,x1,y1,ft];refine Rx ?_;exact Zbq
 rw[Ag MT] at y1;refine bQ ?_;simp only[↓zP,zJ,seval,x1,y1];refine fF ?_;refine Ty ?_;refine bY (dx _) ?_;refine Tz ?_;refine fF ?_;refine Ty ?_;refine bY (dy _) ?_;refine Tz ?_;refine fF ?_;simp only[↓zP,zJ,seval,x1];refine fF ?_;refine Tz ?_;refine bY (l1 _) ?_;refine Tz ?_;refine fF ?_;refine Tz ?_;refine bY (l2 _) ?_;refine Tz ?_;refine bR ?_;by_cases h1:x.natAbs<y.natAbs
 . have e1:=Aj h1;simp only[↓zP,zG,seval,e1];refine Rx ?_;rw[if_pos (by omega)];rfl
 have e1:=Ag h1;by_cases h2:y.natAbs<x.natAbs
 . have e2:=Aj h2;simp only[↓zP,zG,seval,e1,e2];refine Rx ?_;exact Zbq
 have e2:=Ag h2;simp only[↓zP,zG,seval,e1,e2];refine Rx ?_;rw[if_neg (by omega),if_neg (by omega)];rfl
end Go.Proofs.YtgggiembljfnhaaGreatDoor
